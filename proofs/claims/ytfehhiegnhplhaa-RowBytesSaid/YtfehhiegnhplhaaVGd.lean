/- Rows held against one another; values made good; the law's small functions. -/
import Derived.Test.YtfehhiegnhplhaaVPr
import Derived.Test.YtfehhiegnhplhaaVGood
namespace Go.Proofs.Ytfehhiegnhplhaa
open Go.RowKit
set_option linter.unusedVariables false
set_option maxRecDepth 10000
set_option linter.unusedSimpArgs false
set_option linter.unnecessarySimpa false

def sameVs : List Val → List Val → Bool
  | [], [] => true
  | a :: l, b :: m => eqV a b && sameVs l m
  | _, _ => false
theorem sameVs_iff : ∀ (l m : List Val), sameVs l m = true ↔ l = m
  | [], [] => by simp [sameVs]
  | a :: l, b :: m => by simp [sameVs, eqV_iff, sameVs_iff l m]
  | [], b :: m => by simp [sameVs]
  | a :: l, [] => by simp [sameVs]
theorem sameVs_len {l m : List Val} (h : l.length ≠ m.length) : sameVs l m = false := by
  cases hs : sameVs l m
  · rfl
  · exact absurd (congrArg List.length ((sameVs_iff l m).1 hs)) h
theorem sameVs_at {l m : List Val} (k : Nat) (h1 : k < l.length) (h2 : k < m.length) (h : eqV l[k] m[k] = false) : sameVs l m = false := by
  cases hs : sameVs l m
  · rfl
  · exfalso
    have e := (sameVs_iff l m).1 hs
    subst e
    rw [(eqV_iff _ _).2 rfl] at h
    cases h
theorem sameVs_all {l m : List Val} (hl : l.length = m.length) (h : ∀ (k : Nat) (h1 : k < l.length) (h2 : k < m.length), eqV l[k] m[k] = true) : sameVs l m = true :=
  (sameVs_iff l m).2 (List.ext_getElem hl fun k h1 h2 => (eqV_iff _ _).1 (h k h1 h2))

set_option maxRecDepth 100000 in
set_option maxHeartbeats 4000000 in
theorem EqualV_any (l m : List Val) (A A' : Option Addr) (n n' c c' B : Nat) (w : World) (hs : Sl w B 3 (.slice A n c) n (valCells l)) (hs' : Sl w B 3 (.slice A' n' c') n' (valCells m)) (hB : B ≤ w.heap.size) :
    Calls Try.prog 38 #[.slice A n c, .slice A' n' c'] w fun e w' => e = .returned (.bool (sameVs l m)) ∧ Turns [] w w' := by
  obtain ⟨rfl, hm⟩ := sl_vals hs
  obtain ⟨rfl, hm'⟩ := sl_vals hs'
  unfold maxLen at hm hm'
  by_cases hne : l.length = m.length
  · have hni : (l.length : Int) = (m.length : Int) := by omega
    have HS := Lib.hid (And.intro hs hs')
    clear hs hs'
    go_enter Try.func38, Try.ntmps38
    go_wp2_with fail
    go_loopw [13] (fun i wr => ∃ k : Nat, k ≤ l.length ∧ i = .int .i64 k ∧ (∀ (j : Nat) (h1 : j < l.length) (h2 : j < m.length), j < k → eqV l[j] m[j] = true) ∧ Turns [] w wr) (fun i _ => l.length - (intOf i).toNat)
    case atStart => exact ⟨0, by omega, rfl, fun j _ _ h => absurd h (by omega), Turns.refl _ _⟩
    case round =>
      obtain ⟨k, hk, rfl, hall, tx⟩ := hrel
      by_cases hlt : k < l.length
      · have hki : (k : Int) < (l.length : Int) := by omega
        have hkj : (k : Int) < (m.length : Int) := by omega
        have hlt' : k < m.length := by omega
        obtain ⟨b, off, rfl, rg⟩ := val_range HS.out.1 k hlt
        obtain ⟨b', off', rfl, rg'⟩ := val_range HS.out.2 k hlt'
        have r1 := rangeV tx rg
        have r2 := rangeV tx rg'
        have hbad : eqV l[k] m[k] = false → sameVs l m = false := sameVs_at k hlt hlt'
        have hgood : eqV l[k] m[k] = true → ∀ (j : Nat) (h1 : j < l.length) (h2 : j < m.length), j < k + 1 → eqV l[j] m[j] = true := fun h j h1 h2 hj => by
          by_cases e : j = k
          · subst e; exact h
          · exact hall j h1 h2 (by omega)
        obtain ⟨⟨k1, n1, s1⟩, hc1⟩ : ∃ c, c = l[k] := ⟨_, rfl⟩
        obtain ⟨⟨k2, n2, s2⟩, hc2⟩ : ∃ c, c = m[k] := ⟨_, rfl⟩
        rw [← hc1, ← hc2] at hbad hgood
        rw [← hc1] at r1
        rw [← hc2] at r2
        replace r1 : wr.rangeAt b (off + k * 3) [.int .i64 k1, .int .i64 n1, .string s1] := r1
        replace r2 : wr.rangeAt b' (off' + k * 3) [.int .i64 k2, .int .i64 n2, .string s2] := r2
        have hz1 := size_val k1 n1 s1
        have hz2 := size_val k2 n2 s2
        have HH := Lib.hid (And.intro hbad hgood)
        have S0 : Turns [] wr wr.drew := (Turns.refl _ _).drew
        have HT := Lib.hid (tx.trans S0 (by simp))
        clear hc1 hc2 hbad hgood hall rg rg' tx
        cases he : eqV ⟨k1, n1, s1⟩ ⟨k2, n2, s2⟩
        · have hr : (!(eqV ⟨k1, n1, s1⟩ ⟨k2, n2, s2⟩)) = true := by rw [he]; rfl
          have hf := Lib.hid (HH.out.1 he)
          go_upto_region 6 with fail
          refine reg_begin (fun W => Turns [] wr W) (fun _ => True) 9 9 #[false, false, false, false, false, false, false, false, false] (by kernel_rfl) (by kernel_rfl) (by kernel_rfl) ?_
          refine reg_take 0 16 8 #[true, false, false, false, false, false, false, false, false] (by rfl) (v := ?_) rfl rfl (by kernel_rfl) (by kernel_rfl) (by kernel_rfl) (by kernel_rfl) (fun _ _ _ h => h) (by rfl) ?_ (Till.mk' (Turns.refl [] wr).drew trivial) ?_
          rotate_left
          · intro W hS; go_simp; all_goals with_reducible rfl
          try simp only [List.setIfInBounds_toArray, List.set_cons_succ, List.set_cons_zero]
          refine reg_take 1 17 7 #[true, true, false, false, false, false, false, false, false] (by rfl) (v := ?_) rfl rfl (by kernel_rfl) (by kernel_rfl) (by kernel_rfl) (by kernel_rfl) (fun _ _ _ h => h) (by rfl) ?_ (Till.mk' (Turns.refl [] wr).drew trivial) ?_
          rotate_left
          · intro W hS; go_simp; all_goals with_reducible rfl
          try simp only [List.setIfInBounds_toArray, List.set_cons_succ, List.set_cons_zero]
          refine reg_take 2 18 6 #[true, true, true, false, false, false, false, false, false] (by rfl) (v := ?_) rfl rfl (by kernel_rfl) (by kernel_rfl) (by kernel_rfl) (by kernel_rfl) (fun _ _ _ h => h) (by rfl) ?_ (Till.mk' (Turns.refl [] wr).drew trivial) ?_
          rotate_left
          · intro W hS; go_simp; all_goals with_reducible rfl
          try simp only [List.setIfInBounds_toArray, List.set_cons_succ, List.set_cons_zero]
          refine reg_take_y 3 19 5 #[true, true, true, true, false, false, false, false, false] (by rfl) rfl rfl (by kernel_rfl) (by kernel_rfl) (by kernel_rfl) (by kernel_rfl) (fun _ _ _ h => h) (yieldsIf_load_mid (by rfl) _ _ rfl b (off + k * 3) (by rfl) _ _ (fun W hS => rangeV hS r1) Try.underlying28 rfl hz1) (Till.mk' (Turns.refl [] wr).drew trivial) ?_
          try simp only [List.setIfInBounds_toArray, List.set_cons_succ, List.set_cons_zero]
          refine reg_take 4 20 4 #[true, true, true, true, true, false, false, false, false] (by rfl) (v := ?_) rfl rfl (by kernel_rfl) (by kernel_rfl) (by kernel_rfl) (by kernel_rfl) (fun _ _ _ h => h) (by rfl) ?_ (Till.mk' (Turns.refl [] wr).drew trivial) ?_
          rotate_left
          · intro W hS; go_simp; all_goals with_reducible rfl
          try simp only [List.setIfInBounds_toArray, List.set_cons_succ, List.set_cons_zero]
          refine reg_take 5 21 3 #[true, true, true, true, true, true, false, false, false] (by rfl) (v := ?_) rfl rfl (by kernel_rfl) (by kernel_rfl) (by kernel_rfl) (by kernel_rfl) (fun _ _ _ h => h) (by rfl) ?_ (Till.mk' (Turns.refl [] wr).drew trivial) ?_
          rotate_left
          · intro W hS; go_simp; all_goals with_reducible rfl
          try simp only [List.setIfInBounds_toArray, List.set_cons_succ, List.set_cons_zero]
          refine reg_take 6 22 2 #[true, true, true, true, true, true, true, false, false] (by rfl) (v := ?_) rfl rfl (by kernel_rfl) (by kernel_rfl) (by kernel_rfl) (by kernel_rfl) (fun _ _ _ h => h) (by rfl) ?_ (Till.mk' (Turns.refl [] wr).drew trivial) ?_
          rotate_left
          · intro W hS; go_simp; all_goals with_reducible rfl
          try simp only [List.setIfInBounds_toArray, List.set_cons_succ, List.set_cons_zero]
          refine reg_take_y 7 23 1 #[true, true, true, true, true, true, true, true, false] (by rfl) rfl rfl (by kernel_rfl) (by kernel_rfl) (by kernel_rfl) (by kernel_rfl) (fun _ _ _ h => h) (yieldsIf_load_mid (by rfl) _ _ rfl b' (off' + k * 3) (by rfl) _ _ (fun W hS => rangeV hS r2) Try.underlying28 rfl hz2) (Till.mk' (Turns.refl [] wr).drew trivial) ?_
          try simp only [List.setIfInBounds_toArray, List.set_cons_succ, List.set_cons_zero]
          refine reg_take_y 8 24 0 #[true, true, true, true, true, true, true, true, true] (by rfl) rfl rfl (by kernel_rfl) (by kernel_rfl) (by kernel_rfl) (by kernel_rfl) (fun _ _ _ h => h) (yields_neqVb (by rfl) _ _ _ rfl ⟨k1, n1, s1⟩ ⟨k2, n2, s2⟩ true hr (by rfl) (by rfl)) (Till.mk' (Turns.refl [] wr).drew trivial) ?_
          try simp only [List.setIfInBounds_toArray, List.set_cons_succ, List.set_cons_zero]
          refine reg_done (by kernel_rfl) ?_ _
          go_wp2_with fail
          go_ret
          rw [hf.out]
          exact ⟨rfl, HT.out⟩
        · have hr : (!(eqV ⟨k1, n1, s1⟩ ⟨k2, n2, s2⟩)) = false := by rw [he]; rfl
          have hf := Lib.hid (HH.out.2 he)
          go_upto_region 6 with fail
          refine reg_begin (fun W => Turns [] wr W) (fun _ => True) 9 9 #[false, false, false, false, false, false, false, false, false] (by kernel_rfl) (by kernel_rfl) (by kernel_rfl) ?_
          refine reg_take 0 16 8 #[true, false, false, false, false, false, false, false, false] (by rfl) (v := ?_) rfl rfl (by kernel_rfl) (by kernel_rfl) (by kernel_rfl) (by kernel_rfl) (fun _ _ _ h => h) (by rfl) ?_ (Till.mk' (Turns.refl [] wr).drew trivial) ?_
          rotate_left
          · intro W hS; go_simp; all_goals with_reducible rfl
          try simp only [List.setIfInBounds_toArray, List.set_cons_succ, List.set_cons_zero]
          refine reg_take 1 17 7 #[true, true, false, false, false, false, false, false, false] (by rfl) (v := ?_) rfl rfl (by kernel_rfl) (by kernel_rfl) (by kernel_rfl) (by kernel_rfl) (fun _ _ _ h => h) (by rfl) ?_ (Till.mk' (Turns.refl [] wr).drew trivial) ?_
          rotate_left
          · intro W hS; go_simp; all_goals with_reducible rfl
          try simp only [List.setIfInBounds_toArray, List.set_cons_succ, List.set_cons_zero]
          refine reg_take 2 18 6 #[true, true, true, false, false, false, false, false, false] (by rfl) (v := ?_) rfl rfl (by kernel_rfl) (by kernel_rfl) (by kernel_rfl) (by kernel_rfl) (fun _ _ _ h => h) (by rfl) ?_ (Till.mk' (Turns.refl [] wr).drew trivial) ?_
          rotate_left
          · intro W hS; go_simp; all_goals with_reducible rfl
          try simp only [List.setIfInBounds_toArray, List.set_cons_succ, List.set_cons_zero]
          refine reg_take_y 3 19 5 #[true, true, true, true, false, false, false, false, false] (by rfl) rfl rfl (by kernel_rfl) (by kernel_rfl) (by kernel_rfl) (by kernel_rfl) (fun _ _ _ h => h) (yieldsIf_load_mid (by rfl) _ _ rfl b (off + k * 3) (by rfl) _ _ (fun W hS => rangeV hS r1) Try.underlying28 rfl hz1) (Till.mk' (Turns.refl [] wr).drew trivial) ?_
          try simp only [List.setIfInBounds_toArray, List.set_cons_succ, List.set_cons_zero]
          refine reg_take 4 20 4 #[true, true, true, true, true, false, false, false, false] (by rfl) (v := ?_) rfl rfl (by kernel_rfl) (by kernel_rfl) (by kernel_rfl) (by kernel_rfl) (fun _ _ _ h => h) (by rfl) ?_ (Till.mk' (Turns.refl [] wr).drew trivial) ?_
          rotate_left
          · intro W hS; go_simp; all_goals with_reducible rfl
          try simp only [List.setIfInBounds_toArray, List.set_cons_succ, List.set_cons_zero]
          refine reg_take 5 21 3 #[true, true, true, true, true, true, false, false, false] (by rfl) (v := ?_) rfl rfl (by kernel_rfl) (by kernel_rfl) (by kernel_rfl) (by kernel_rfl) (fun _ _ _ h => h) (by rfl) ?_ (Till.mk' (Turns.refl [] wr).drew trivial) ?_
          rotate_left
          · intro W hS; go_simp; all_goals with_reducible rfl
          try simp only [List.setIfInBounds_toArray, List.set_cons_succ, List.set_cons_zero]
          refine reg_take 6 22 2 #[true, true, true, true, true, true, true, false, false] (by rfl) (v := ?_) rfl rfl (by kernel_rfl) (by kernel_rfl) (by kernel_rfl) (by kernel_rfl) (fun _ _ _ h => h) (by rfl) ?_ (Till.mk' (Turns.refl [] wr).drew trivial) ?_
          rotate_left
          · intro W hS; go_simp; all_goals with_reducible rfl
          try simp only [List.setIfInBounds_toArray, List.set_cons_succ, List.set_cons_zero]
          refine reg_take_y 7 23 1 #[true, true, true, true, true, true, true, true, false] (by rfl) rfl rfl (by kernel_rfl) (by kernel_rfl) (by kernel_rfl) (by kernel_rfl) (fun _ _ _ h => h) (yieldsIf_load_mid (by rfl) _ _ rfl b' (off' + k * 3) (by rfl) _ _ (fun W hS => rangeV hS r2) Try.underlying28 rfl hz2) (Till.mk' (Turns.refl [] wr).drew trivial) ?_
          try simp only [List.setIfInBounds_toArray, List.set_cons_succ, List.set_cons_zero]
          refine reg_take_y 8 24 0 #[true, true, true, true, true, true, true, true, true] (by rfl) rfl rfl (by kernel_rfl) (by kernel_rfl) (by kernel_rfl) (by kernel_rfl) (fun _ _ _ h => h) (yields_neqVb (by rfl) _ _ _ rfl ⟨k1, n1, s1⟩ ⟨k2, n2, s2⟩ false hr (by rfl) (by rfl)) (Till.mk' (Turns.refl [] wr).drew trivial) ?_
          try simp only [List.setIfInBounds_toArray, List.set_cons_succ, List.set_cons_zero]
          refine reg_done (by kernel_rfl) ?_ _
          go_wp2_with fail
          go_roundw
          case rel => exact ⟨k + 1, by omega, by go_num, hf.out, HT.out⟩
          case measure => (simp [intOf] <;> omega)
      · obtain rfl : k = l.length := by omega
        have hf := Lib.hid (sameVs_all hne (fun j h1 h2 => hall j h1 h2 h1))
        have HT := Lib.hid tx
        clear hall tx
        go_wp2_with fail
        go_ret
        rw [hf.out]
        exact ⟨rfl, HT.out⟩
  · have hni : ((l.length : Int) != (m.length : Int)) = true := by simp; omega
    have hf := Lib.hid (sameVs_len hne)
    go_enter Try.func38, Try.ntmps38
    go_wp2_with fail
    go_ret
    rw [hf.out]
    exact ⟨rfl, Turns.refl _ _⟩
theorem SameV_any (l m : List Val) (A A' : Option Addr) (n n' c c' B : Nat) (w : World) (hs : Sl w B 3 (.slice A n c) n (valCells l)) (hs' : Sl w B 3 (.slice A' n' c') n' (valCells m)) (hB : B ≤ w.heap.size) :
    Calls Try.prog 15 #[.slice A n c, .slice A' n' c'] w fun e w' => e = .returned (.bool (sameVs l m)) ∧ Turns [] w w' := by
  have EQ := Lib.hid (EqualV_any l m A A' n n' c c' B w hs hs' hB)
  clear hs hs'
  go_enter Try.func15, Try.ntmps15
  go_wp2_with fail
  refine EQ.out.mono ?_
  rintro e w1 ⟨rfl, t1⟩
  go_wp2_with fail
  go_ret
  exact ⟨rfl, t1⟩

theorem Few4_any (v : Val) (w : World) (hf : v.s.size ≤ maxLen) : Calls Try.prog 16 #[.agg #[.int .i64 v.kind, .int .i64 v.n, .string v.s]] w fun e w' => e = .returned (.bool (decide (v.s.size ≤ 80))) ∧ Turns [] w w' := by
  obtain ⟨k, n, s⟩ := v
  simp only at hf
  unfold maxLen at hf
  have t0 : Turns [] w (w.alloc (.cells #[.int .i64 k, .int .i64 n, .string s] 28)) := (Turns.refl [] w).alloc _
  by_cases h : s.size ≤ 80
  · have x : decide ((s.size : Int) ≤ 80) = true := decide_eq_true (by omega)
    have e : decide (s.size ≤ 80) = true := decide_eq_true h
    rw [show decide ((⟨k, n, s⟩ : Val).s.size ≤ 80) = true from e]
    go_enter Try.func16, Try.ntmps16
    go_wp2_with fail
    go_ret
    exact ⟨rfl, t0⟩
  · have x : decide ((s.size : Int) ≤ 80) = false := decide_eq_false (by omega)
    have e : decide (s.size ≤ 80) = false := decide_eq_false h
    rw [show decide ((⟨k, n, s⟩ : Val).s.size ≤ 80) = false from e]
    go_enter Try.func16, Try.ntmps16
    go_wp2_with fail
    go_ret
    exact ⟨rfl, t0⟩

def fewVs (l : List Val) : Bool := l.all (fun v => decide (v.s.size ≤ 80)) && decide (l.length ≤ 12)
theorem fewVs_bad (l : List Val) (k : Nat) (hk : k < l.length) (h : ¬ l[k].s.size ≤ 80) : fewVs l = false := by
  unfold fewVs
  rw [List.all_eq_false.2 ⟨l[k], List.getElem_mem hk, by simpa using h⟩]; rfl
theorem fewVs_end (l : List Val) (h : ∀ (j : Nat) (hj : j < l.length), l[j].s.size ≤ 80) : fewVs l = decide (l.length ≤ 12) := by
  unfold fewVs
  rw [List.all_eq_true.2 (fun c hc => by obtain ⟨j, hj, rfl⟩ := List.mem_iff_getElem.1 hc; simpa using h j hj)]
  simp
theorem fewVs_len {l : List Val} (h : fewVs l = true) : l.length ≤ 12 := by
  unfold fewVs at h
  simp only [Bool.and_eq_true, decide_eq_true_eq] at h
  exact h.2

set_option maxRecDepth 100000 in
set_option maxHeartbeats 4000000 in
theorem FewVs_any (l : List Val) (A : Option Addr) (n c B : Nat) (w : World) (hf : ∀ x ∈ l, x.fits) (hs : Sl w B 3 (.slice A n c) n (valCells l)) (hB : B ≤ w.heap.size) :
    Calls Try.prog 8 #[.slice A n c] w fun e w' => e = .returned (.bool (fewVs l)) ∧ Turns [] w w' := by
  obtain ⟨rfl, hm⟩ := sl_vals hs
  unfold maxLen at hm
  have HS := Lib.hid hs
  clear hs
  go_enter Try.func8, Try.ntmps8
  go_wp2_with fail
  go_loopw [3] (fun i wr => ∃ k : Nat, k ≤ l.length ∧ i = .int .i64 k ∧ (∀ (j : Nat) (hj : j < l.length), j < k → l[j].s.size ≤ 80) ∧ Turns [] w wr) (fun i _ => l.length - (intOf i).toNat)
  case atStart => exact ⟨0, by omega, rfl, fun j hj h => absurd h (by omega), Turns.refl _ _⟩
  case round =>
    obtain ⟨k, hk, rfl, hall, tx⟩ := hrel
    by_cases hlt : k < l.length
    · have hki : (k : Int) < (l.length : Int) := by omega
      obtain ⟨b, off, rfl, rg⟩ := val_range HS.out k hlt
      have r1 := rangeV tx rg
      have hfx := hf _ (List.getElem_mem hlt)
      have hbad := fewVs_bad l k hlt
      have hgood : l[k].s.size ≤ 80 → ∀ (j : Nat) (hj : j < l.length), j < k + 1 → l[j].s.size ≤ 80 := fun h j hj hj' => by
        by_cases e : j = k
        · subst e; exact h
        · exact hall j hj (by omega)
      obtain ⟨⟨k1, n1, s1⟩, hc1⟩ : ∃ c, c = l[k] := ⟨_, rfl⟩
      rw [← hc1] at hbad hgood r1 hfx
      replace r1 : wr.rangeAt b (off + k * 3) [.int .i64 k1, .int .i64 n1, .string s1] := r1
      have hz1 := size_val k1 n1 s1
      have F4 := Lib.hid (Few4_any ⟨k1, n1, s1⟩ wr hfx.2.2)
      have HH := Lib.hid (And.intro hbad hgood)
      have HT := Lib.hid tx
      clear hc1 hbad hgood hall rg tx hfx
      go_wp2_with (first
        | (refine wpList_load_mid rfl 28 (.tmp 12) rfl b (off + k * 3) rfl _ _ r1 Try.underlying28 rfl hz1 ?_)
        | fail)
      refine F4.out.mono ?_
      rintro e x2 ⟨rfl, t2⟩
      have HT2 := Lib.hid (HT.out.trans t2 (by simp))
      clear t2 r1 F4
      by_cases h80 : s1.size ≤ 80
      · have hd : decide ((⟨k1, n1, s1⟩ : Val).s.size ≤ 80) = true := decide_eq_true h80
        have hg := Lib.hid (HH.out.2 h80)
        rw [hd]
        go_wp2_with fail
        go_roundw
        case rel => exact ⟨k + 1, by omega, by go_num, hg.out, HT2.out⟩
        case measure => (simp [intOf] <;> omega)
      · have hd : decide ((⟨k1, n1, s1⟩ : Val).s.size ≤ 80) = false := decide_eq_false h80
        have hg := Lib.hid (HH.out.1 h80)
        rw [hd]
        go_wp2_with fail
        go_ret
        rw [hg.out]
        exact ⟨rfl, HT2.out⟩
    · obtain rfl : k = l.length := by omega
      have hf := Lib.hid (fewVs_end l (fun j hj => hall j hj hj))
      have HT := Lib.hid tx
      clear hall tx
      by_cases h12 : l.length ≤ 12
      · have x : decide ((l.length : Int) ≤ 12) = true := decide_eq_true (by omega)
        have hd := Lib.hid (decide_eq_true h12)
        go_wp2_with fail
        go_ret
        rw [hf.out, hd.out]
        exact ⟨rfl, HT.out⟩
      · have x : decide ((l.length : Int) ≤ 12) = false := decide_eq_false (by omega)
        have hd := Lib.hid (decide_eq_false h12)
        go_wp2_with fail
        go_ret
        rw [hf.out, hd.out]
        exact ⟨rfl, HT.out⟩

theorem within4_any (a n : Int) (w : World) (h1 : -9223372036854775808 ≤ a) (h2 : a ≤ 9223372036854775807) (hn : 0 < n) (hn2 : n ≤ 1000000) :
    Calls Try.prog 39 #[.int .i64 a, .int .i64 n] w fun e w' => e = .returned (.int .i64 (a % n)) ∧ w = w' := by
  have hne : (n == 0) = false := by simp; omega
  have t1 := (tmod_bounds a n hn).1
  have t2 := (tmod_bounds a n hn).2
  have hv := within_val a n hn
  by_cases ha : 0 ≤ a
  · have e0 : a.tmod n = a % n := Int.tmod_eq_emod_of_nonneg ha
    have e1 := Int.emod_nonneg a (show n ≠ 0 by omega)
    clear hv
    rw [e0] at t1 t2
    clear e0
    go_enter Try.func39, Try.ntmps39
    go_wp2_with fail
    go_ret
    exact ⟨rfl, rfl⟩
  · rw [hv]
    clear hv
    by_cases hneg : a.tmod n < 0
    · rw [if_pos hneg]
      go_enter Try.func39, Try.ntmps39
      go_wp2_with fail
      go_ret
      exact ⟨rfl, rfl⟩
    · rw [if_neg hneg]
      go_enter Try.func39, Try.ntmps39
      go_wp2_with fail
      go_ret
      exact ⟨rfl, rfl⟩
end Go.Proofs.Ytfehhiegnhplhaa
