/- What is wrong with a value: code's Check, the document's. What is wrong with a value: both Checks. What is wrong with a value: the document's Check. A value is read: code's reader that reads values, too. Rows are read: code's Parse. Rows are read: the document's Parse. Rows held against one another; values made good; the law's small functions. Values and rows made good; the chapter's example. -/
import Derived.Test.YtoahnhphfabajaaGreatGC
import Derived.Test.YtoahnhphfabajaaGreatGB
import Derived.Laws.StructEq
import Derived.Deep.DeepCutAuto
namespace Go.Proofs.YtoahnhphfabajaaGreat
set_option maxRecDepth 10000
open Go.RowKit
set_option linter.unusedVariables false
set_option maxRecDepth 10000
set_option linter.unusedSimpArgs false
set_option linter.unnecessarySimpa false

def eqV (a b : Val) : Bool := a.kind == b.kind && (a.n == b.n && a.s.toList == b.s.toList)
theorem ba_list {a b : ByteArray} (h : a.toList = b.toList) : a = b := by
  rw [ByteArray.toList_eq, ByteArray.toList_eq] at h
  obtain ⟨⟨x⟩⟩ := a
  obtain ⟨⟨y⟩⟩ := b
  simp at h
  rw [h]
theorem eqV_iff (a b : Val) : eqV a b = true ↔ a = b := by
  obtain ⟨k, n, s⟩ := a
  obtain ⟨k', n', s'⟩ := b
  unfold eqV
  simp only [Bool.and_eq_true, beq_iff_eq]
  constructor
  · rintro ⟨rfl, rfl, h⟩
    rw [ba_list h]
  · intro h
    injection h with h1 h2 h3
    subst h1 h2 h3
    exact ⟨rfl, rfl, rfl⟩
theorem undStr : Tryz.prog.underlying 9 = some .string := Tryz.underlying9
theorem eqlV (a b : Val) : ∀ w, (Op.equalIn 10000 109 (.agg #[.int .i64 a.kind, .int .i64 a.n, .string a.s]) (.agg #[.int .i64 b.kind, .int .i64 b.n, .string b.s])).run Tryz.prog w = .ok (eqV a b) w := by
  intro w
  have hst : Tryz.prog.stoodInHeld 109 = false := by kernel_rfl
  have hu : Tryz.prog.underlying 109 = some (.struct (Tryz.prog.fieldsOf 109)) := by kernel_rfl
  have hfo : (Tryz.prog.fieldsOf 109) = (match Tryz.prog.underlying 109 with | some (.struct fs) => fs | _ => #[]) := rfl
  rw [Tryz.underlying109] at hfo
  rw [run_equalIn_struct w 9999 _ _ _ hu hst, hfo]
  obtain ⟨an, ak, ab⟩ := a
  obtain ⟨bn, bk, bb⟩ := b
  simp [go_sem, Op.eqFields, eqV, undStr, Tryz.underlying3]
  by_cases h1 : an = bn <;> by_cases h2 : ak = bk <;> by_cases h3 : ab.toList = bb.toList <;> simp [h1, h2, h3]
theorem run_neqV (a b : Val) (x y : Operand) (w : World) : ((do eqGuard .neq 109 x y (.agg #[.int .i64 a.kind, .int .i64 a.n, .string a.s]) (.agg #[.int .i64 b.kind, .int .i64 b.n, .string b.s]); binOp .neq 109 (.agg #[.int .i64 a.kind, .int .i64 a.n, .string a.s]) (.agg #[.int .i64 b.kind, .int .i64 b.n, .string b.s])) : Sem Value).run Tryz.prog w = .ok (.bool (!(eqV a b))) w := by
  have hm : Tryz.prog.eqGuardType Tryz.prog.depth 109 = false := by kernel_rfl
  rw [Sem.run_bind, run_eqGuard_agg w .neq _ x y _ _ hm, Result.andThen_ok, run_neq_struct, eqlV a b w]
  rfl
theorem yields_neqV {ops : Array Oper} {S : World → Prop} {op : Oper} {act : Act} (hw : Region.wanted op (yielded ops act.tmps) = true) (x y : Operand) (t : TypeId) (ho : op.op = .binOp .neq 109 x y t)
    (a b : Val) (hx : act.eval x = .agg #[.int .i64 a.kind, .int .i64 a.n, .string a.s]) (hy : act.eval y = .agg #[.int .i64 b.kind, .int .i64 b.n, .string b.s]) : YieldsIf Tryz.prog ops S op (.bool (!(eqV a b))) act :=
  .inl ⟨hw, fun w _ => by
    have h := run_neqV a b x y w
    rw [Sem.run_bind] at h
    unfold execOp
    simp only [ho, hx, hy, Sem.run_bind, Sem.run_pure]
    rw [h]; rfl⟩

end Go.Proofs.YtoahnhphfabajaaGreat
namespace Go.Proofs.YtoahnhphfabajaaGreat
set_option maxRecDepth 10000
open Go.RowKit
set_option linter.unusedVariables false
set_option linter.unusedSimpArgs false
set_option linter.unnecessarySimpa false

theorem yields_neqVb {ops : Array Oper} {S : World → Prop} {op : Oper} {act : Act} (hw : Region.wanted op (yielded ops act.tmps) = true) (x y : Operand) (t : TypeId) (ho : op.op = .binOp .neq 109 x y t)
    (a b : Val) (r : Bool) (hr : (!(eqV a b)) = r) (hx : act.eval x = .agg #[.int .i64 a.kind, .int .i64 a.n, .string a.s]) (hy : act.eval y = .agg #[.int .i64 b.kind, .int .i64 b.n, .string b.s]) : YieldsIf Tryz.prog ops S op (.bool r) act := by
  subst hr
  exact yields_neqV hw x y t ho a b hx hy
end Go.Proofs.YtoahnhphfabajaaGreat
namespace Go.Proofs.YtoahnhphfabajaaGreat
set_option maxRecDepth 10000
open Go.RowKit
set_option linter.unusedVariables false
set_option linter.unusedSimpArgs false
set_option linter.unnecessarySimpa false

end Go.Proofs.YtoahnhphfabajaaGreat
namespace Go.Proofs.YtoahnhphfabajaaGreat
set_option maxRecDepth 10000
open Go.RowKit
set_option linter.unusedVariables false
set_option linter.unusedSimpArgs false
set_option linter.unnecessarySimpa false

end Go.Proofs.YtoahnhphfabajaaGreat
namespace Go.Proofs.YtoahnhphfabajaaGreat
set_option maxRecDepth 10000
open Go.RowKit
set_option linter.unusedVariables false
set_option linter.unusedSimpArgs false
set_option linter.unnecessarySimpa false

theorem TV : SliceTy Tryz.prog 35 109 (.agg #[.int .i64 0, .int .i64 0, .string ⟨#[]⟩]) 3 32 := ⟨Tryz.underlying35, by kernel_rfl, rfl, by omega⟩
set_option maxHeartbeats 400000 in
theorem CloneVal_any (v : Value) (n : Nat) (bs : List Value) (h1 : ∀ u ∈ bs, u.oneCell' = true) (w : World) (h : Sl w w.heap.size 3 v n bs) (hn : n ≤ 100000) :
    Calls Tryz.prog 49 #[v] w fun e w' => ∃ v', e = .returned v' ∧ w'.ownsRow w.heap.size 109 3 v' n bs ∧ Turns [] w w' := by
  have h' := h
  obtain ⟨hl, A, c, rfl, hnc, hcm, hA, hrd⟩ := h
  have hnil := fun w => Lib.run_eql_slice_nil (P := Tryz.prog) w 35 109 A n c 0 0 Tryz.underlying35
  rcases A with _ | ad
  · have := hA rfl
    subst this
    have : n = 0 := by omega
    subst this
    have : bs = [] := List.eq_nil_of_length_eq_zero (by omega)
    subst this
    go_enter Tryz.func49, Tryz.ntmps49
    go_wp2_with fail
    go_ret
    exact ⟨_, rfl, World.ownsRow_nil _ _ _ _, Turns.refl _ _⟩
  · have hown : (w.alloc (.cells #[] 109)).ownsRow w.heap.size 109 3 (.slice (some ⟨w.heap.size, 0, none⟩) 0 0) 0 [] :=
      World.ownsRow_made w #[] 0 (Nat.le_refl _) (Nat.zero_le _) (by simp)
    go_enter Tryz.func49, Tryz.ntmps49
    go_wp2_with (at_builtin; refine wpList_append _ rfl (.tmp 5) (.tmp 6) rfl (run_append_rd _ TV _ hown (h'.alloc (Nat.le_refl _) _) h1 (by simp only [maxLen]; omega) (by omega) (by simp)) rfl rfl ?_; intro v' w' ap)
    go_ret
    exact ⟨v', rfl, by simpa using ap.own, Turns.of_below (L := []) (ap.below ((Below.refl _ _).alloc (Nat.le_refl _) _) hown (Nat.le_refl _) (by simp))⟩

/-- One value appended onto a row of one's own. -/
theorem val_append {base : Nat} {w : World} {v : Value} {l : List Val} (x : Val) (h : w.ownsRow base 109 3 v l.length (valCells l)) (hb : base ≤ w.heap.size) (hl : l.length ≤ 100000) (ty : TypeId) :
    ∃ v' w', (Builtin.append_ #[35, 35] ty #[v, .slice (some ⟨w.heap.size, 0, none⟩) 1 1]).run Tryz.prog (w.alloc (.cells #[.int .i64 x.kind, .int .i64 x.n, .string x.s] 109)) = .ok v' w' ∧
      w'.ownsRow base 109 3 v' (l.length + 1) (valCells (l ++ [x])) ∧ Turns v.ownBlock.toList w w' ∧ (∀ k ∈ v.ownBlock.toList, base ≤ k) ∧ (v'.ownBlock = v.ownBlock ∨ ∃ g, v'.ownBlock = some g ∧ w.heap.size ≤ g) := by
  have ho := h.alloc (.cells #[.int .i64 x.kind, .int .i64 x.n, .string x.s] 109)
  obtain ⟨v', w', hr, ap⟩ := run_append_rd (P := Tryz.prog) _ TV ty ho (Sl.new w #[.int .i64 x.kind, .int .i64 x.n, .string x.s] 109 1 3 rfl (by simp [maxLen])) (by intro u hu; simp at hu; rcases hu with rfl | rfl | rfl <;> rfl) (by simp only [maxLen]; omega) (by omega) (by simp; omega)
  have hbk : ∀ k ∈ v.ownBlock.toList, base ≤ k := by intro k hk; exact (h.lt k (by simpa using hk)).1
  refine ⟨v', w', hr, ?_, ?_, hbk, ?_⟩
  · rw [valCells_app]
    exact ap.own
  · exact Turns.trans (L' := v.ownBlock.toList) ((Turns.refl _ w).alloc _) (Turns.of_grown ap.grown (by intro k hk; exact .inl (by simpa using hk))) (fun k hk => .inl hk)
  · rcases ap.lies with h | ⟨g, h1, h2⟩
    · exact .inl h
    · refine .inr ⟨g, h1, ?_⟩
      simp at h2
      omega

end Go.Proofs.YtoahnhphfabajaaGreat
namespace Go.Proofs.YtoahnhphfabajaaGreat
set_option maxRecDepth 10000
open Go.RowKit
set_option linter.unusedVariables false
set_option linter.unusedSimpArgs false
set_option linter.unnecessarySimpa false

end Go.Proofs.YtoahnhphfabajaaGreat
namespace Go.Proofs.YtoahnhphfabajaaGreat
set_option maxRecDepth 10000
open Go.RowKit
set_option linter.unusedVariables false
set_option linter.unusedSimpArgs false
set_option linter.unnecessarySimpa false

def sameVs : List Val → List Val → Bool
  | [], [] => true
  | a :: l, b :: m => eqV a b && sameVs l m
  | _, _ => false
theorem sameVs_iff : ∀ (l m : List Val), sameVs l m = true ↔ l = m
  | [], [] => by simp [sameVs]
  | a :: l, b :: m => by simp [sameVs, eqV_iff, sameVs_iff l m]
  | [], b :: m => by simp [sameVs]
  | a :: l, [] => by simp [sameVs]
theorem sameVs_len {l m : List Val} (h : l.length ≠ m.length) : sameVs l m = false := by
  cases hs : sameVs l m
  · rfl
  · exact absurd (congrArg List.length ((sameVs_iff l m).1 hs)) h
theorem sameVs_at {l m : List Val} (k : Nat) (h1 : k < l.length) (h2 : k < m.length) (h : eqV l[k] m[k] = false) : sameVs l m = false := by
  cases hs : sameVs l m
  · rfl
  · exfalso
    have e := (sameVs_iff l m).1 hs
    subst e
    rw [(eqV_iff _ _).2 rfl] at h
    cases h
theorem sameVs_all {l m : List Val} (hl : l.length = m.length) (h : ∀ (k : Nat) (h1 : k < l.length) (h2 : k < m.length), eqV l[k] m[k] = true) : sameVs l m = true :=
  (sameVs_iff l m).2 (List.ext_getElem hl fun k h1 h2 => (eqV_iff _ _).1 (h k h1 h2))

set_option maxRecDepth 100000 in
set_option maxHeartbeats 4000000 in
theorem EqualV_any (l m : List Val) (A A' : Option Addr) (n n' c c' B : Nat) (w : World) (hs : Sl w B 3 (.slice A n c) n (valCells l)) (hs' : Sl w B 3 (.slice A' n' c') n' (valCells m)) (hB : B ≤ w.heap.size) :
    Calls Tryz.prog 111 #[.slice A n c, .slice A' n' c'] w fun e w' => e = .returned (.bool (sameVs l m)) ∧ Turns [] w w' := by
  obtain ⟨rfl, hm⟩ := sl_vals hs
  obtain ⟨rfl, hm'⟩ := sl_vals hs'
  unfold maxLen at hm hm'
  by_cases hne : l.length = m.length
  · have hni : (l.length : Int) = (m.length : Int) := by omega
    have HS := Lib.hid (And.intro hs hs')
    clear hs hs'
    go_enter Tryz.func111, Tryz.ntmps111
    go_wp2_with fail
    go_loopw [13] (fun i wr => ∃ k : Nat, k ≤ l.length ∧ i = .int .i64 k ∧ (∀ (j : Nat) (h1 : j < l.length) (h2 : j < m.length), j < k → eqV l[j] m[j] = true) ∧ Turns [] w wr) (fun i _ => l.length - (intOf i).toNat)
    case atStart => exact ⟨0, by omega, rfl, fun j _ _ h => absurd h (by omega), Turns.refl _ _⟩
    case round =>
      obtain ⟨k, hk, rfl, hall, tx⟩ := hrel
      by_cases hlt : k < l.length
      · have hki : (k : Int) < (l.length : Int) := by omega
        have hkj : (k : Int) < (m.length : Int) := by omega
        have hlt' : k < m.length := by omega
        obtain ⟨b, off, rfl, rg⟩ := val_range HS.out.1 k hlt
        obtain ⟨b', off', rfl, rg'⟩ := val_range HS.out.2 k hlt'
        have r1 := rangeV tx rg
        have r2 := rangeV tx rg'
        have hbad : eqV l[k] m[k] = false → sameVs l m = false := sameVs_at k hlt hlt'
        have hgood : eqV l[k] m[k] = true → ∀ (j : Nat) (h1 : j < l.length) (h2 : j < m.length), j < k + 1 → eqV l[j] m[j] = true := fun h j h1 h2 hj => by
          by_cases e : j = k
          · subst e; exact h
          · exact hall j h1 h2 (by omega)
        obtain ⟨⟨k1, n1, s1⟩, hc1⟩ : ∃ c, c = l[k] := ⟨_, rfl⟩
        obtain ⟨⟨k2, n2, s2⟩, hc2⟩ : ∃ c, c = m[k] := ⟨_, rfl⟩
        rw [← hc1, ← hc2] at hbad hgood
        rw [← hc1] at r1
        rw [← hc2] at r2
        replace r1 : wr.rangeAt b (off + k * 3) [.int .i64 k1, .int .i64 n1, .string s1] := r1
        replace r2 : wr.rangeAt b' (off' + k * 3) [.int .i64 k2, .int .i64 n2, .string s2] := r2
        have hz1 := size_val k1 n1 s1
        have hz2 := size_val k2 n2 s2
        have HH := Lib.hid (And.intro hbad hgood)
        have S0 : Turns [] wr wr.drew := (Turns.refl _ _).drew
        have HT := Lib.hid (tx.trans S0 (by simp))
        clear hc1 hc2 hbad hgood hall rg rg' tx
        cases he : eqV ⟨k1, n1, s1⟩ ⟨k2, n2, s2⟩
        · have hr : (!(eqV ⟨k1, n1, s1⟩ ⟨k2, n2, s2⟩)) = true := by rw [he]; rfl
          have hf := Lib.hid (HH.out.1 he)
          go_upto_region 6 with fail
          refine rk0 (fun W => Turns [] wr W) (fun _ => True) 9 9 ?_
          refine rkA 0 16 1 (v := ?_) ?_ (.mk' (Turns.refl [] wr).drew trivial) ?_
          rotate_left
          · intro W hS; go_simp; all_goals with_reducible rfl
          try simp only [sI, sS, sZ]
          refine rkA 1 17 3 (v := ?_) ?_ (.mk' (Turns.refl [] wr).drew trivial) ?_
          rotate_left
          · intro W hS; go_simp; all_goals with_reducible rfl
          try simp only [sI, sS, sZ]
          refine rkA 2 18 7 (v := ?_) ?_ (.mk' (Turns.refl [] wr).drew trivial) ?_
          rotate_left
          · intro W hS; go_simp; all_goals with_reducible rfl
          try simp only [sI, sS, sZ]
          refine rkY 3 19 15 rfl (yieldsIf_load_mid (by rfl) _ _ rfl b (off + k * 3) (by rfl) _ _ (fun W hS => rangeV hS r1) Tryz.underlying109 rfl hz1) (.mk' (Turns.refl [] wr).drew trivial) ?_
          try simp only [sI, sS, sZ]
          refine rkA 4 20 31 (v := ?_) ?_ (.mk' (Turns.refl [] wr).drew trivial) ?_
          rotate_left
          · intro W hS; go_simp; all_goals with_reducible rfl
          try simp only [sI, sS, sZ]
          refine rkA 5 21 63 (v := ?_) ?_ (.mk' (Turns.refl [] wr).drew trivial) ?_
          rotate_left
          · intro W hS; go_simp; all_goals with_reducible rfl
          try simp only [sI, sS, sZ]
          refine rkA 6 22 127 (v := ?_) ?_ (.mk' (Turns.refl [] wr).drew trivial) ?_
          rotate_left
          · intro W hS; go_simp; all_goals with_reducible rfl
          try simp only [sI, sS, sZ]
          refine rkY 7 23 255 rfl (yieldsIf_load_mid (by rfl) _ _ rfl b' (off' + k * 3) (by rfl) _ _ (fun W hS => rangeV hS r2) Tryz.underlying109 rfl hz2) (.mk' (Turns.refl [] wr).drew trivial) ?_
          try simp only [sI, sS, sZ]
          refine rkY 8 24 511 rfl (yields_neqVb (by rfl) _ _ _ rfl ⟨k1, n1, s1⟩ ⟨k2, n2, s2⟩ true hr (by rfl) (by rfl)) (.mk' (Turns.refl [] wr).drew trivial) ?_
          try simp only [sI, sS, sZ]
          refine rkZ ?_
          go_wp2_with fail
          go_ret
          rw [hf.out]
          exact ⟨rfl, HT.out⟩
        · have hr : (!(eqV ⟨k1, n1, s1⟩ ⟨k2, n2, s2⟩)) = false := by rw [he]; rfl
          have hf := Lib.hid (HH.out.2 he)
          go_upto_region 6 with fail
          refine rk0 (fun W => Turns [] wr W) (fun _ => True) 9 9 ?_
          refine rkA 0 16 1 (v := ?_) ?_ (.mk' (Turns.refl [] wr).drew trivial) ?_
          rotate_left
          · intro W hS; go_simp; all_goals with_reducible rfl
          try simp only [sI, sS, sZ]
          refine rkA 1 17 3 (v := ?_) ?_ (.mk' (Turns.refl [] wr).drew trivial) ?_
          rotate_left
          · intro W hS; go_simp; all_goals with_reducible rfl
          try simp only [sI, sS, sZ]
          refine rkA 2 18 7 (v := ?_) ?_ (.mk' (Turns.refl [] wr).drew trivial) ?_
          rotate_left
          · intro W hS; go_simp; all_goals with_reducible rfl
          try simp only [sI, sS, sZ]
          refine rkY 3 19 15 rfl (yieldsIf_load_mid (by rfl) _ _ rfl b (off + k * 3) (by rfl) _ _ (fun W hS => rangeV hS r1) Tryz.underlying109 rfl hz1) (.mk' (Turns.refl [] wr).drew trivial) ?_
          try simp only [sI, sS, sZ]
          refine rkA 4 20 31 (v := ?_) ?_ (.mk' (Turns.refl [] wr).drew trivial) ?_
          rotate_left
          · intro W hS; go_simp; all_goals with_reducible rfl
          try simp only [sI, sS, sZ]
          refine rkA 5 21 63 (v := ?_) ?_ (.mk' (Turns.refl [] wr).drew trivial) ?_
          rotate_left
          · intro W hS; go_simp; all_goals with_reducible rfl
          try simp only [sI, sS, sZ]
          refine rkA 6 22 127 (v := ?_) ?_ (.mk' (Turns.refl [] wr).drew trivial) ?_
          rotate_left
          · intro W hS; go_simp; all_goals with_reducible rfl
          try simp only [sI, sS, sZ]
          refine rkY 7 23 255 rfl (yieldsIf_load_mid (by rfl) _ _ rfl b' (off' + k * 3) (by rfl) _ _ (fun W hS => rangeV hS r2) Tryz.underlying109 rfl hz2) (.mk' (Turns.refl [] wr).drew trivial) ?_
          try simp only [sI, sS, sZ]
          refine rkY 8 24 511 rfl (yields_neqVb (by rfl) _ _ _ rfl ⟨k1, n1, s1⟩ ⟨k2, n2, s2⟩ false hr (by rfl) (by rfl)) (.mk' (Turns.refl [] wr).drew trivial) ?_
          try simp only [sI, sS, sZ]
          refine rkZ ?_
          go_wp2_with fail
          go_roundw
          case rel => exact ⟨k + 1, by omega, by go_num, hf.out, HT.out⟩
          case measure => (simp [intOf] <;> omega)
      · obtain rfl : k = l.length := by omega
        have hf := Lib.hid (sameVs_all hne (fun j h1 h2 => hall j h1 h2 h1))
        have HT := Lib.hid tx
        clear hall tx
        go_wp2_with fail
        go_ret
        rw [hf.out]
        exact ⟨rfl, HT.out⟩
  · have hni : ((l.length : Int) != (m.length : Int)) = true := by simp; omega
    have hf := Lib.hid (sameVs_len hne)
    go_enter Tryz.func111, Tryz.ntmps111
    go_wp2_with fail
    go_ret
    rw [hf.out]
    exact ⟨rfl, Turns.refl _ _⟩
theorem SameV_any (l m : List Val) (A A' : Option Addr) (n n' c c' B : Nat) (w : World) (hs : Sl w B 3 (.slice A n c) n (valCells l)) (hs' : Sl w B 3 (.slice A' n' c') n' (valCells m)) (hB : B ≤ w.heap.size) :
    Calls Tryz.prog 100 #[.slice A n c, .slice A' n' c'] w fun e w' => e = .returned (.bool (sameVs l m)) ∧ Turns [] w w' := by
  have EQ := Lib.hid (EqualV_any l m A A' n n' c c' B w hs hs' hB)
  clear hs hs'
  go_enter Tryz.func100, Tryz.ntmps100
  go_wp2_with fail
  refine EQ.out.mono ?_
  rintro e w1 ⟨rfl, t1⟩
  go_wp2_with fail
  go_ret
  exact ⟨rfl, t1⟩

theorem Few4_any (v : Val) (w : World) (hf : v.s.size ≤ maxLen) : Calls Tryz.prog 59 #[.agg #[.int .i64 v.kind, .int .i64 v.n, .string v.s]] w fun e w' => e = .returned (.bool (decide (v.s.size ≤ 80))) ∧ Turns [] w w' := by
  obtain ⟨k, n, s⟩ := v
  simp only at hf
  unfold maxLen at hf
  have t0 : Turns [] w (w.alloc (.cells #[.int .i64 k, .int .i64 n, .string s] 109)) := (Turns.refl [] w).alloc _
  by_cases h : s.size ≤ 80
  · have x : decide ((s.size : Int) ≤ 80) = true := decide_eq_true (by omega)
    have e : decide (s.size ≤ 80) = true := decide_eq_true h
    rw [show decide ((⟨k, n, s⟩ : Val).s.size ≤ 80) = true from e]
    go_enter Tryz.func59, Tryz.ntmps59
    go_wp2_with fail
    go_ret
    exact ⟨rfl, t0⟩
  · have x : decide ((s.size : Int) ≤ 80) = false := decide_eq_false (by omega)
    have e : decide (s.size ≤ 80) = false := decide_eq_false h
    rw [show decide ((⟨k, n, s⟩ : Val).s.size ≤ 80) = false from e]
    go_enter Tryz.func59, Tryz.ntmps59
    go_wp2_with fail
    go_ret
    exact ⟨rfl, t0⟩

def fewVs (l : List Val) : Bool := l.all (fun v => decide (v.s.size ≤ 80)) && decide (l.length ≤ 12)
theorem fewVs_bad (l : List Val) (k : Nat) (hk : k < l.length) (h : ¬ l[k].s.size ≤ 80) : fewVs l = false := by
  unfold fewVs
  rw [List.all_eq_false.2 ⟨l[k], List.getElem_mem hk, by simpa using h⟩]; rfl
theorem fewVs_end (l : List Val) (h : ∀ (j : Nat) (hj : j < l.length), l[j].s.size ≤ 80) : fewVs l = decide (l.length ≤ 12) := by
  unfold fewVs
  rw [List.all_eq_true.2 (fun c hc => by obtain ⟨j, hj, rfl⟩ := List.mem_iff_getElem.1 hc; simpa using h j hj)]
  simp
theorem fewVs_len {l : List Val} (h : fewVs l = true) : l.length ≤ 12 := by
  unfold fewVs at h
  simp only [Bool.and_eq_true, decide_eq_true_eq] at h
  exact h.2

set_option maxRecDepth 100000 in
set_option maxHeartbeats 4000000 in
theorem FewVs_any (l : List Val) (A : Option Addr) (n c B : Nat) (w : World) (hf : ∀ x ∈ l, x.fits) (hs : Sl w B 3 (.slice A n c) n (valCells l)) (hB : B ≤ w.heap.size) :
    Calls Tryz.prog 30 #[.slice A n c] w fun e w' => e = .returned (.bool (fewVs l)) ∧ Turns [] w w' := by
  obtain ⟨rfl, hm⟩ := sl_vals hs
  unfold maxLen at hm
  have HS := Lib.hid hs
  clear hs
  go_enter Tryz.func30, Tryz.ntmps30
  go_wp2_with fail
  go_loopw [3] (fun i wr => ∃ k : Nat, k ≤ l.length ∧ i = .int .i64 k ∧ (∀ (j : Nat) (hj : j < l.length), j < k → l[j].s.size ≤ 80) ∧ Turns [] w wr) (fun i _ => l.length - (intOf i).toNat)
  case atStart => exact ⟨0, by omega, rfl, fun j hj h => absurd h (by omega), Turns.refl _ _⟩
  case round =>
    obtain ⟨k, hk, rfl, hall, tx⟩ := hrel
    by_cases hlt : k < l.length
    · have hki : (k : Int) < (l.length : Int) := by omega
      obtain ⟨b, off, rfl, rg⟩ := val_range HS.out k hlt
      have r1 := rangeV tx rg
      have hfx := hf _ (List.getElem_mem hlt)
      have hbad := fewVs_bad l k hlt
      have hgood : l[k].s.size ≤ 80 → ∀ (j : Nat) (hj : j < l.length), j < k + 1 → l[j].s.size ≤ 80 := fun h j hj hj' => by
        by_cases e : j = k
        · subst e; exact h
        · exact hall j hj (by omega)
      obtain ⟨⟨k1, n1, s1⟩, hc1⟩ : ∃ c, c = l[k] := ⟨_, rfl⟩
      rw [← hc1] at hbad hgood r1 hfx
      replace r1 : wr.rangeAt b (off + k * 3) [.int .i64 k1, .int .i64 n1, .string s1] := r1
      have hz1 := size_val k1 n1 s1
      have F4 := Lib.hid (Few4_any ⟨k1, n1, s1⟩ wr hfx.2.2)
      have HH := Lib.hid (And.intro hbad hgood)
      have HT := Lib.hid tx
      clear hc1 hbad hgood hall rg tx hfx
      go_wp2_with (first
        | (refine wpList_load_mid rfl 109 (.tmp 12) rfl b (off + k * 3) rfl _ _ r1 Tryz.underlying109 rfl hz1 ?_)
        | fail)
      refine F4.out.mono ?_
      rintro e x2 ⟨rfl, t2⟩
      have HT2 := Lib.hid (HT.out.trans t2 (by simp))
      clear t2 r1 F4
      by_cases h80 : s1.size ≤ 80
      · have hd : decide ((⟨k1, n1, s1⟩ : Val).s.size ≤ 80) = true := decide_eq_true h80
        have hg := Lib.hid (HH.out.2 h80)
        rw [hd]
        go_wp2_with fail
        go_roundw
        case rel => exact ⟨k + 1, by omega, by go_num, hg.out, HT2.out⟩
        case measure => (simp [intOf] <;> omega)
      · have hd : decide ((⟨k1, n1, s1⟩ : Val).s.size ≤ 80) = false := decide_eq_false h80
        have hg := Lib.hid (HH.out.1 h80)
        rw [hd]
        go_wp2_with fail
        go_ret
        rw [hg.out]
        exact ⟨rfl, HT2.out⟩
    · obtain rfl : k = l.length := by omega
      have hf := Lib.hid (fewVs_end l (fun j hj => hall j hj hj))
      have HT := Lib.hid tx
      clear hall tx
      by_cases h12 : l.length ≤ 12
      · have x : decide ((l.length : Int) ≤ 12) = true := decide_eq_true (by omega)
        have hd := Lib.hid (decide_eq_true h12)
        go_wp2_with fail
        go_ret
        rw [hf.out, hd.out]
        exact ⟨rfl, HT.out⟩
      · have x : decide ((l.length : Int) ≤ 12) = false := decide_eq_false (by omega)
        have hd := Lib.hid (decide_eq_false h12)
        go_wp2_with fail
        go_ret
        rw [hf.out, hd.out]
        exact ⟨rfl, HT.out⟩

theorem within4_any (a n : Int) (w : World) (h1 : -9223372036854775808 ≤ a) (h2 : a ≤ 9223372036854775807) (hn : 0 < n) (hn2 : n ≤ 1000000) :
    Calls Tryz.prog 97 #[.int .i64 a, .int .i64 n] w fun e w' => e = .returned (.int .i64 (a % n)) ∧ w = w' := by
  have hne : (n == 0) = false := by simp; omega
  have t1 := (tmod_bounds a n hn).1
  have t2 := (tmod_bounds a n hn).2
  have hv := within_val a n hn
  by_cases ha : 0 ≤ a
  · have e0 : a.tmod n = a % n := Int.tmod_eq_emod_of_nonneg ha
    have e1 := Int.emod_nonneg a (show n ≠ 0 by omega)
    clear hv
    rw [e0] at t1 t2
    clear e0
    go_enter Tryz.func97, Tryz.ntmps97
    go_wp2_with fail
    go_ret
    exact ⟨rfl, rfl⟩
  · rw [hv]
    clear hv
    by_cases hneg : a.tmod n < 0
    · rw [if_pos hneg]
      go_enter Tryz.func97, Tryz.ntmps97
      go_wp2_with fail
      go_ret
      exact ⟨rfl, rfl⟩
    · rw [if_neg hneg]
      go_enter Tryz.func97, Tryz.ntmps97
      go_wp2_with fail
      go_ret
      exact ⟨rfl, rfl⟩
end Go.Proofs.YtoahnhphfabajaaGreat
namespace Go.Proofs.YtoahnhphfabajaaGreat
set_option maxRecDepth 10000
open Go.RowKit
set_option linter.unusedVariables false
set_option linter.unusedSimpArgs false
set_option linter.unnecessarySimpa false

theorem ext_take (s : ByteArray) : s.extract 0 60 = strOf (s.data.toList.take 60) := by
  apply ByteArray.ext
  apply Array.ext'
  simp [strOf]
theorem blk_last (w : World) (o : Obj) (cs : List Value) (t : TypeId) : Blk ((w.alloc o).alloc (.cells cs.toArray t)) (w.heap.size + 1) cs t := by
  have h := Blk.new (w.alloc o) cs t
  have e : (w.alloc o).heap.size = w.heap.size + 1 := by simp
  rwa [e] at h
set_option maxRecDepth 100000 in
set_option maxHeartbeats 4000000 in
theorem Good4_any (v : Val) (w : World) (hf : v.fits) : Calls Tryz.prog 70 #[.agg #[.int .i64 v.kind, .int .i64 v.n, .string v.s]] w fun e w' => e = .returned (.agg #[.int .i64 (gval v).kind, .int .i64 (gval v).n, .string (gval v).s]) ∧ Turns [] w w' := by
  obtain ⟨h1, h2, h3⟩ := hf
  obtain ⟨g, hg⟩ : ∃ g, g = gval v := ⟨_, rfl⟩
  rw [← hg]
  obtain ⟨k, n, s⟩ := v
  simp only at h1 h2 h3
  unfold maxLen at h3
  have zV := zero_val
  have WK := fun W => within4_any k 4 W h1.1 h1.2 (by omega) (by omega)
  have WN := Lib.hid (fun W => within4_any n 2 W h2.1 h2.2 (by omega) (by omega))
  have hk4 : k % 4 = 0 ∨ k % 4 = 1 ∨ k % 4 = 2 ∨ k % 4 = 3 := by omega
  have hgu := hg
  unfold gval at hgu
  simp only at hgu
  clear hg h1 h2
  rcases hk4 with h | h | h | h
  all_goals
    rw [h] at WK hgu
    replace WK := Lib.hid WK
    clear h
  · have hv := Lib.hid (show g = ⟨0, 0, ⟨#[]⟩⟩ by rw [hgu]; rfl)
    clear hgu
    go_enter Tryz.func70, Tryz.ntmps70
    go_wp2_with fail
    refine (WK.out _).mono ?_
    rintro e w1 ⟨rfl, rfl⟩
    go_wp2_with fail
    refine bodyPost_ret (results_cell_row rfl _ _ (w.heap.size + 1) _ _ _ _ rfl (blk_last w _ ([.int .i64 0, .int .i64 0, .string ⟨#[]⟩] : List Value) _) Tryz.underlying109 rfl (by kernel_rfl)) rfl ?_
    rw [hv.out]
    exact ⟨rfl, ((Turns.refl [] w).alloc _).alloc _⟩
  · have hv := Lib.hid (show g = ⟨1, n % 2, ⟨#[]⟩⟩ by rw [hgu]; rfl)
    clear hgu
    go_enter Tryz.func70, Tryz.ntmps70
    go_wp2_with fail
    refine (WK.out _).mono ?_
    rintro e w1 ⟨rfl, rfl⟩
    go_wp2_with fail
    refine (WN.out _).mono ?_
    rintro e w1 ⟨rfl, rfl⟩
    go_wp2_with fail
    refine bodyPost_ret (results_cell_row rfl _ _ (w.heap.size + 1) _ _ _ _ rfl (blk_last w _ ([.int .i64 1, .int .i64 (n % 2), .string ⟨#[]⟩] : List Value) _) Tryz.underlying109 rfl (by kernel_rfl)) rfl ?_
    rw [hv.out]
    exact ⟨rfl, ((Turns.refl [] w).alloc _).alloc _⟩
  · have hv := Lib.hid (show g = ⟨2, n, ⟨#[]⟩⟩ by rw [hgu]; rfl)
    clear hgu
    go_enter Tryz.func70, Tryz.ntmps70
    go_wp2_with fail
    refine (WK.out _).mono ?_
    rintro e w1 ⟨rfl, rfl⟩
    go_wp2_with fail
    refine bodyPost_ret (results_cell_row rfl _ _ (w.heap.size + 1) _ _ _ _ rfl (blk_last w _ ([.int .i64 2, .int .i64 n, .string ⟨#[]⟩] : List Value) _) Tryz.underlying109 rfl (by kernel_rfl)) rfl ?_
    rw [hv.out]
    exact ⟨rfl, ((Turns.refl [] w).alloc _).alloc _⟩
  · obtain ⟨u, hu⟩ : ∃ u, u = strOf (s.data.toList.take 60) := ⟨_, rfl⟩
    have hv := Lib.hid (show g = ⟨3, 0, u⟩ by rw [hgu, hu]; rfl)
    clear hgu
    by_cases h60 : s.size < 60
    · have x : (s.size : Int) < 60 := by omega
      have hu := Lib.hid hu
      go_enter Tryz.func70, Tryz.ntmps70
      go_wp2_with fail
      refine (WK.out _).mono ?_
      rintro e w1 ⟨rfl, rfl⟩
      go_wp2_with fail
      refine bodyPost_ret (results_cell_row rfl _ _ (w.heap.size + 1) _ _ _ _ rfl (blk_last w _ ([.int .i64 3, .int .i64 0, .string s] : List Value) _) Tryz.underlying109 rfl (by kernel_rfl)) rfl ?_
      rw [hv.out, hu.out, List.take_of_length_le (by rw [str_data]; omega), strOf_data]
      exact ⟨rfl, ((Turns.refl [] w).alloc _).alloc _⟩
    by_cases h61 : s.size = 60
    · have x : (s.size : Int) = 60 := by omega
      have hu := Lib.hid hu
      go_enter Tryz.func70, Tryz.ntmps70
      go_wp2_with fail
      refine (WK.out _).mono ?_
      rintro e w1 ⟨rfl, rfl⟩
      go_wp2_with fail
      refine bodyPost_ret (results_cell_row rfl _ _ (w.heap.size + 1) _ _ _ _ rfl (blk_last w _ ([.int .i64 3, .int .i64 0, .string (s.extract 0 60)] : List Value) _) Tryz.underlying109 rfl (by kernel_rfl)) rfl ?_
      rw [hv.out, hu.out, ← ext_take]
      exact ⟨rfl, ((Turns.refl [] w).alloc _).alloc _⟩
    · have x : (60 : Int) < (s.size : Int) := by omega
      have hu := Lib.hid hu
      go_enter Tryz.func70, Tryz.ntmps70
      go_wp2_with fail
      refine (WK.out _).mono ?_
      rintro e w1 ⟨rfl, rfl⟩
      go_wp2_with fail
      refine bodyPost_ret (results_cell_row rfl _ _ (w.heap.size + 1) _ _ _ _ rfl (blk_last w _ ([.int .i64 3, .int .i64 0, .string (s.extract 0 60)] : List Value) _) Tryz.underlying109 rfl (by kernel_rfl)) rfl ?_
      rw [hv.out, hu.out, ← ext_take]
      exact ⟨rfl, ((Turns.refl [] w).alloc _).alloc _⟩

set_option maxRecDepth 100000 in
set_option maxHeartbeats 4000000 in
theorem Good5_any (l : List Val) (A : Option Addr) (n c B : Nat) (w : World) (hf : ∀ x ∈ l, x.fits) (hs : Sl w B 3 (.slice A n c) n (valCells l)) (hB : B ≤ w.heap.size) (hl : l.length ≤ 1000) :
    Calls Tryz.prog 38 #[.slice A n c] w fun e w' => ∃ A' c', e = .returned (.slice A' l.length c') ∧ w'.ownsRow w.heap.size 109 3 (.slice A' l.length c') l.length (valCells (l.map gval)) ∧ Turns [] w w' := by
  obtain ⟨rfl, hm⟩ := sl_vals hs
  unfold maxLen at hm
  have HS := Lib.hid hs
  clear hs
  go_enter Tryz.func38, Tryz.ntmps38
  go_wp2_with fail
  go_loopw [3, 4] (fun u i wr => ∃ (k : Nat) (A' : Option Addr) (c' : Nat), k ≤ l.length ∧ i = .int .i64 k ∧ u = .slice A' k c' ∧ wr.ownsRow w.heap.size 109 3 (.slice A' k c') k (valCells ((l.take k).map gval)) ∧ Turns [] w wr) (fun _ i _ => l.length - (intOf i).toNat)
  case atStart => exact ⟨0, none, 0, by omega, rfl, rfl, World.ownsRow_nil _ _ _ _, Turns.refl _ _⟩
  case round =>
    obtain ⟨k, A', c', hk, rfl, rfl, o0, tx⟩ := hrel
    by_cases hlt : k < l.length
    · have hki : (k : Int) < (l.length : Int) := by omega
      obtain ⟨b, off, rfl, rg⟩ := val_range HS.out k hlt
      have r1 := rangeV tx rg
      have hfx := hf _ (List.getElem_mem hlt)
      have hst : (l.take (k + 1)).map gval = (l.take k).map gval ++ [gval l[k]] := by rw [List.take_succ_eq_append_getElem hlt, List.map_append]; rfl
      have hlk : ((l.take k).map gval).length = k := by simp; omega
      obtain ⟨⟨k1, n1, s1⟩, hc1⟩ : ∃ c, c = l[k] := ⟨_, rfl⟩
      rw [← hc1] at hst r1 hfx
      replace r1 : wr.rangeAt b (off + k * 3) [.int .i64 k1, .int .i64 n1, .string s1] := r1
      have hz1 := size_val k1 n1 s1
      have G4 := Lib.hid (Good4_any ⟨k1, n1, s1⟩ wr hfx)
      have HST := Lib.hid hst
      have HO := Lib.hid (And.intro o0 (And.intro tx hlk))
      clear hc1 rg tx hfx o0 hst hlk
      go_wp2_with (first
        | (refine wpList_load_mid rfl 109 (.tmp 14) rfl b (off + k * 3) rfl _ _ r1 Tryz.underlying109 rfl hz1 ?_)
        | fail)
      refine G4.out.mono ?_
      rintro e x2 ⟨rfl, t2⟩
      obtain ⟨o0, tx, hlk⟩ := HO.out
      generalize (l.take k).map gval = pre at o0 hlk HST
      subst hlk
      have o0 := own_v0 o0 t2
      have tx := tx.trans t2 (by simp)
      obtain ⟨rv, hrv⟩ : ∃ rv, rv = gval ⟨k1, n1, s1⟩ := ⟨_, rfl⟩
      rw [← hrv] at HST ⊢
      clear hrv
      obtain ⟨v7, y5, hr7, o7, t7, b7, -⟩ := val_append rv o0 tx.size (by omega) 35
      obtain ⟨A7, c7, rfl⟩ := own_formV o7
      have tz := tx.trans t7 (by intro x hx; have := b7 _ hx; exact .inr (by omega))
      have HF := Lib.hid (And.intro (show y5.ownsRow w.heap.size 109 3 (.slice A7 (pre.length + 1) c7) (pre.length + 1) (valCells ((l.take (pre.length + 1)).map gval)) by rw [HST.out]; exact o7) tz)
      clear o7 t7 b7 tz o0 tx t2 G4 r1 HO
      go_wp2_with (at_builtin; refine wpList_append_at rfl (.tmp 11) (.tmp 17) rfl hr7 rfl rfl ?_)
      go_roundw
      case rel => exact ⟨pre.length + 1, A7, c7, by omega, by go_num, rfl, HF.out.1, HF.out.2⟩
      case measure => (simp [intOf] <;> omega)
    · obtain rfl : k = l.length := by omega
      rw [List.take_length] at o0
      have HF := Lib.hid (And.intro o0 tx)
      clear o0 tx
      go_wp2_with fail
      go_ret
      exact ⟨A', c', rfl, HF.out.1, HF.out.2⟩

end Go.Proofs.YtoahnhphfabajaaGreat
