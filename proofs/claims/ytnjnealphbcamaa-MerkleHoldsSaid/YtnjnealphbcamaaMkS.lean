/- Which sum stands ahead: merkle.turns, walked. -/
import Derived.Test.YtnjnealphbcamaaMkQ
namespace Go.Proofs.Ytnjnealphbcamaa
open Go.RowKit
set_option linter.unusedVariables false
set_option maxRecDepth 10000
set_option linter.unusedSimpArgs false
set_option linter.unnecessarySimpa false

def bools (bs : List Bool) : List Value := bs.map Value.bool
theorem bools_len (bs : List Bool) : (bools bs).length = bs.length := by simp [bools]
theorem bools_one (bs : List Bool) : ∀ u ∈ bools bs, u.oneCell' = true := by
  intro u hu
  obtain ⟨b, _, rfl⟩ := List.mem_map.1 hu
  rfl
theorem T52 : SliceTy Try.prog 52 4 (.bool false) 1 1 := ⟨Try.underlying52, by kernel_rfl, rfl, by omega⟩
structure BMine (W0 w : World) (v : Value) (bs : List Bool) : Prop where
  own : w.ownsRow W0.heap.size 4 1 v bs.length (bools bs)
  turns : Turns [] W0 w
theorem BMine.nil {W0 w : World} (t : Turns [] W0 w) : BMine W0 w (.slice none 0 0) [] := ⟨World.ownsRow_nil _ _ _ _, t⟩
theorem BMine.len {W0 w : World} {v : Value} {bs : List Bool} (h : BMine W0 w v bs) : ∃ A c, v = .slice A bs.length c ∧ bs.length ≤ c := by
  obtain ⟨_, A, c, rfl, h1, _⟩ := Sl.of_own h.own
  exact ⟨A, c, rfl, h1⟩
theorem bmine_push {W0 w : World} {v : Value} {bs : List Bool} (h : BMine W0 w v bs) (hm : bs.length ≤ 1000000) (x : Bool) (ty : TypeId) :
    ∃ v' w', (Builtin.append_ #[52, 52] ty #[v, .slice (some ⟨w.heap.size, 0, none⟩) 1 1]).run Try.prog (w.alloc (.cells #[.bool x] 4)) = .ok v' w' ∧ BMine W0 w' v' (bs ++ [x]) := by
  obtain ⟨v1, w1, hr1, ap1⟩ := run_append_rd (P := Try.prog) _ T52 ty (h.own.alloc (.cells #[.bool x] 4)) (Sl.new w #[.bool x] 4 1 1 rfl (by simp [maxLen])) (by intro u hu; simp at hu; subst hu; rfl) (by simp only [maxLen]; omega) (by omega) (by simp; exact Nat.le_succ_of_le h.turns.size)
  refine ⟨v1, w1, hr1, ?_⟩
  have e : bools bs ++ (#[Value.bool x] : Array Value).toList = bools (bs ++ [x]) := by simp [bools]
  rw [e] at ap1
  have hl : (bs ++ [x]).length = bs.length + 1 := by simp
  refine ⟨by rw [hl]; exact ap1.own, ?_⟩
  exact (h.turns.alloc (.cells #[.bool x] 4)).trans (L' := v.ownBlock.toList) (Turns.of_grown ap1.grown (by intro k hk; exact .inl (by simpa using hk))) (by intro y hy; exact .inr (h.own.lt y (by simpa using hy)).1)

/-- The row with its first k and its last k turned about. -/
def RevP (bs L : List Bool) (k : Nat) : Prop := L.length = bs.length ∧ ∀ j, j < bs.length → L[j]? = if j < k ∨ bs.length - k ≤ j then bs[bs.length - 1 - j]? else bs[j]?
theorem RevP.zero (bs : List Bool) : RevP bs bs 0 := ⟨rfl, fun j hj => by rw [if_neg (by omega)]⟩
theorem RevP.step {bs L : List Bool} {k : Nat} (h : RevP bs L k) (hk : k < bs.length - 1 - k) (hn : 0 < bs.length) {x y : Bool} (hx : L[k]? = some x) (hy : L[bs.length - 1 - k]? = some y) : RevP bs ((L.set k y).set (bs.length - 1 - k) x) (k + 1) := by
  have hx0 := h.2 k (by omega)
  have hy0 := h.2 (bs.length - 1 - k) (by omega)
  rw [if_neg (by omega)] at hx0 hy0
  refine ⟨by simp [h.1], fun j hj => ?_⟩
  by_cases e1 : j = bs.length - 1 - k
  · subst e1
    rw [List.getElem?_set_self (by simp [h.1]; omega), if_pos (by omega), ← hx, hx0]
    congr 1; omega
  · rw [List.getElem?_set_ne (fun e => e1 e.symm)]
    by_cases e2 : j = k
    · subst e2
      rw [List.getElem?_set_self (by rw [h.1]; omega), if_pos (by omega), ← hy, hy0]
    · rw [List.getElem?_set_ne (fun e => e2 e.symm), h.2 j hj]
      by_cases e3 : j < k ∨ bs.length - k ≤ j
      · rw [if_pos e3, if_pos (by omega)]
      · rw [if_neg e3, if_neg (by omega)]
theorem RevP.done {bs L : List Bool} {k : Nat} (h : RevP bs L k) (hk : bs.length ≤ 2 * k + 1) : L = bs.reverse := by
  apply List.ext_getElem?
  intro j
  by_cases hj : j < bs.length
  · rw [h.2 j hj, List.getElem?_reverse hj]
    by_cases e : j < k ∨ bs.length - k ≤ j
    · rw [if_pos e]
    · rw [if_neg e]
      congr 1; omega
  · rw [List.getElem?_eq_none (by rw [h.1]; omega), List.getElem?_eq_none (by simp; omega)]

set_option maxRecDepth 100000 in
set_option maxHeartbeats 2000000 in
theorem Reverse_zero (A : Option Addr) (c : Nat) (w : World) : Calls Try.prog 38 #[.slice A 0 c] w fun e w' => e = .returned (.tuple #[]) ∧ w = w' := by
  go_enter Try.func38, Try.ntmps38
  go_wp2_with fail
  go_loop [2, 3] (fun i j => i = .int .i64 0 ∧ j = .int .i64 (-1)) (fun _ _ => 0)
  case atStart => exact ⟨rfl, rfl⟩
  case round =>
    obtain ⟨rfl, rfl⟩ := hrel
    go_wp2_with fail
    go_end0
    exact ⟨rfl, rfl⟩
/-- The cells of a row of bools. -/
def BCells (w : World) (g : Nat) (bs : List Bool) : Prop := ∀ j x, bs[j]? = some x → w.cell? ⟨g, j, none⟩ = some (.bool x) ∧ w.frozen? ⟨g, j, none⟩ = false
theorem BCells.set {w : World} {g : Nat} {L : List Bool} (h : BCells w g L) (k : Nat) (hk : k < L.length) (x : Bool) : BCells (w.setCell ⟨g, k, none⟩ (.bool x)) g (L.set k x) := by
  intro j y hy
  by_cases e : k = j
  · subst e
    rw [List.getElem?_set_self hk] at hy
    injection hy with hy
    subst hy
    have := h k _ (List.getElem?_eq_getElem hk)
    exact ⟨World.cell?_setCell_same _ _ _ this.1, by rw [World.frozen?_setCell]; exact this.2⟩
  · rw [List.getElem?_set_ne e] at hy
    have := h j y hy
    exact ⟨by rw [World.cell?_setCell_other _ _ _ _ (by simp <;> omega)]; exact this.1, by rw [World.frozen?_setCell]; exact this.2⟩

set_option maxRecDepth 100000 in
set_option maxHeartbeats 2000000 in
theorem Reverse_any (g n c : Nat) (bs : List Bool) (hn : bs.length = n) (h0 : 0 < n) (hm : n ≤ 1000) (w : World) (h : BCells w g bs) :
    Calls Try.prog 38 #[.slice (some ⟨g, 0, none⟩) n c] w fun e w' => e = .returned (.tuple #[]) ∧ BCells w' g bs.reverse ∧ Turns [g] w w' := by
  have hni : (n : Int) ≤ 1000 := by omega
  have H0 := Lib.hid (And.intro hn h)
  clear h hn
  go_enter Try.func38, Try.ntmps38
  go_wp2_with fail
  go_loopw [2, 3] (fun i j wr => ∃ (k : Nat) (L : List Bool), 2 * k ≤ n + 1 ∧ i = .int .i64 k ∧ j = .int .i64 ((n : Int) - 1 - (k : Int)) ∧ RevP bs L k ∧ BCells wr g L ∧ Turns [g] w wr) (fun i j _ => (intOf j - intOf i + 2).toNat)
  case atStart => exact ⟨0, bs, by omega, rfl, by go_num, RevP.zero bs, H0.out.2, Turns.refl _ _⟩
  case round =>
    obtain ⟨k, L, hk2, rfl, rfl, hrev, hc, td⟩ := hrel
    have hbl := H0.out.1
    by_cases hlt : (k : Int) < (n : Int) - 1 - (k : Int)
    · have hk1 : k < L.length := by rw [hrev.1]; omega
      have hk3 : bs.length - 1 - k < L.length := by rw [hrev.1]; omega
      obtain ⟨x, hx⟩ : ∃ x, L[k]? = some x := ⟨_, List.getElem?_eq_getElem hk1⟩
      obtain ⟨y, hy⟩ : ∃ y, L[bs.length - 1 - k]? = some y := ⟨_, List.getElem?_eq_getElem hk3⟩
      have hst := hrev.step (by omega) (by omega) hx hy
      have hb1 := hc.set k hk1 y
      have hb2 := hb1.set (bs.length - 1 - k) (by simpa using hk3) x
      obtain ⟨cx, fx⟩ := hc _ _ hx
      obtain ⟨cy, fy⟩ := hc _ _ hy
      obtain ⟨m, hmm⟩ : ∃ m, m = bs.length - 1 - k := ⟨_, rfl⟩
      rw [← hmm] at cy fy hst hb2
      have hT : Turns [] wr wr.drew := (Turns.refl _ _).drew
      have em : (n : Int) - 1 - (k : Int) = (m : Int) := by omega
      have hmn : (m : Int) < (n : Int) := by omega
      have hkn : (k : Int) < (n : Int) := by omega
      have hkm : k ≠ m := by omega
      have HB := Lib.hid (And.intro hb2 (And.intro hst td))
      have HE := Lib.hid em
      have hlt' : (k : Int) < (m : Int) := by omega
      clear hb1 hb2 hst td hx hy hrev hc hk1 hk3 hbl
      rw [em]
      clear hlt em
      have HK := Lib.hid hk2
      have HM := Lib.hid hmm
      clear hmm hk2
      go_upto_region 3 with fail
      refine reg_begin (fun _ => True) (fun W => Turns [] wr W) 13 16 #[false, false, false, false, false, false, false, false, false, false, false, false, false, false, false, false] (by kernel_rfl) (by kernel_rfl) (by kernel_rfl) ?_
      refine reg_take 0 14 15 #[true, false, false, false, false, false, false, false, false, false, false, false, false, false, false, false] (by rfl) (v := ?_) rfl rfl (by kernel_rfl) (by kernel_rfl) (by kernel_rfl) (by kernel_rfl) (fun _ _ _ h => h) (by rfl) ?_ (Till.mk' trivial hT) ?_
      rotate_left
      · intro W hS; go_simp; all_goals with_reducible rfl
      try simp only [List.setIfInBounds_toArray, List.set_cons_succ, List.set_cons_zero]
      refine reg_take 1 15 14 #[true, true, false, false, false, false, false, false, false, false, false, false, false, false, false, false] (by rfl) (v := ?_) rfl rfl (by kernel_rfl) (by kernel_rfl) (by kernel_rfl) (by kernel_rfl) (fun _ _ _ h => h) (by rfl) ?_ (Till.mk' trivial hT) ?_
      rotate_left
      · intro W hS; go_simp; all_goals with_reducible rfl
      try simp only [List.setIfInBounds_toArray, List.set_cons_succ, List.set_cons_zero]
      refine reg_take 2 16 13 #[true, true, true, false, false, false, false, false, false, false, false, false, false, false, false, false] (by rfl) (v := ?_) rfl rfl (by kernel_rfl) (by kernel_rfl) (by kernel_rfl) (by kernel_rfl) (fun _ _ _ h => h) (by rfl) ?_ (Till.mk' trivial hT) ?_
      rotate_left
      · intro W hS; go_simp; all_goals with_reducible rfl
      try simp only [List.setIfInBounds_toArray, List.set_cons_succ, List.set_cons_zero]
      refine reg_take 3 17 12 #[true, true, true, true, false, false, false, false, false, false, false, false, false, false, false, false] (by rfl) (v := ?_) rfl rfl (by kernel_rfl) (by kernel_rfl) (by kernel_rfl) (by kernel_rfl) (fun _ _ _ h => h) (by rfl) ?_ (Till.mk' trivial hT) ?_
      rotate_left
      · intro W hS; go_simp; all_goals with_reducible rfl
      try simp only [List.setIfInBounds_toArray, List.set_cons_succ, List.set_cons_zero]
      refine reg_take 4 18 11 #[true, true, true, true, true, false, false, false, false, false, false, false, false, false, false, false] (by rfl) (v := ?_) rfl rfl (by kernel_rfl) (by kernel_rfl) (by kernel_rfl) (by kernel_rfl) (fun _ _ _ h => h) (by rfl) ?_ (Till.mk' trivial hT) ?_
      rotate_left
      · intro W hS; go_simp; all_goals with_reducible rfl
      try simp only [List.setIfInBounds_toArray, List.set_cons_succ, List.set_cons_zero]
      refine reg_take 5 19 10 #[true, true, true, true, true, true, false, false, false, false, false, false, false, false, false, false] (by rfl) (v := ?_) rfl rfl (by kernel_rfl) (by kernel_rfl) (by kernel_rfl) (by kernel_rfl) (fun _ _ _ h => h) (by rfl) ?_ (Till.mk' trivial hT) ?_
      rotate_left
      · intro W hS; go_simp; all_goals with_reducible rfl
      try simp only [List.setIfInBounds_toArray, List.set_cons_succ, List.set_cons_zero]
      refine reg_take 6 20 9 #[true, true, true, true, true, true, true, false, false, false, false, false, false, false, false, false] (by rfl) (v := ?_) rfl rfl (by kernel_rfl) (by kernel_rfl) (by kernel_rfl) (by kernel_rfl) (fun _ _ _ h => h) (by rfl) ?_ (Till.mk' trivial hT) ?_
      rotate_left
      · intro W hS; go_simp; all_goals with_reducible rfl
      try simp only [List.setIfInBounds_toArray, List.set_cons_succ, List.set_cons_zero]
      refine reg_take_t 7 21 8 #[true, true, true, true, true, true, true, true, false, false, false, false, false, false, false, false] (by rfl) (v := ?_) rfl rfl (by kernel_rfl) (by kernel_rfl) (by kernel_rfl) (by kernel_rfl) (fun _ _ _ h => h) (by rfl) (by kernel_rfl) (by kernel_rfl) ?_ (Till.mk' trivial hT) ?_
      rotate_left
      · rintro W ⟨-, hS⟩; have c2 := cellL hS cy (by simp); go_simp; all_goals with_reducible rfl
      try simp only [List.setIfInBounds_toArray, List.set_cons_succ, List.set_cons_zero]
      refine reg_take 8 22 7 #[true, true, true, true, true, true, true, true, true, false, false, false, false, false, false, false] (by rfl) (v := ?_) rfl rfl (by kernel_rfl) (by kernel_rfl) (by kernel_rfl) (by kernel_rfl) (fun _ _ _ h => h) (by rfl) ?_ (Till.mk' trivial hT) ?_
      rotate_left
      · intro W hS; go_simp; all_goals with_reducible rfl
      try simp only [List.setIfInBounds_toArray, List.set_cons_succ, List.set_cons_zero]
      refine reg_take 9 23 6 #[true, true, true, true, true, true, true, true, true, true, false, false, false, false, false, false] (by rfl) (v := ?_) rfl rfl (by kernel_rfl) (by kernel_rfl) (by kernel_rfl) (by kernel_rfl) (fun _ _ _ h => h) (by rfl) ?_ (Till.mk' trivial hT) ?_
      rotate_left
      · intro W hS; go_simp; all_goals with_reducible rfl
      try simp only [List.setIfInBounds_toArray, List.set_cons_succ, List.set_cons_zero]
      refine reg_take 10 24 5 #[true, true, true, true, true, true, true, true, true, true, true, false, false, false, false, false] (by rfl) (v := ?_) rfl rfl (by kernel_rfl) (by kernel_rfl) (by kernel_rfl) (by kernel_rfl) (fun _ _ _ h => h) (by rfl) ?_ (Till.mk' trivial hT) ?_
      rotate_left
      · intro W hS; go_simp; all_goals with_reducible rfl
      try simp only [List.setIfInBounds_toArray, List.set_cons_succ, List.set_cons_zero]
      refine reg_take_t 11 25 4 #[true, true, true, true, true, true, true, true, true, true, true, true, false, false, false, false] (by rfl) (v := ?_) rfl rfl (by kernel_rfl) (by kernel_rfl) (by kernel_rfl) (by kernel_rfl) (fun _ _ _ h => h) (by rfl) (by kernel_rfl) (by kernel_rfl) ?_ (Till.mk' trivial hT) ?_
      rotate_left
      · rintro W ⟨-, hS⟩; have c2 := cellL hS cx (by simp); go_simp; all_goals with_reducible rfl
      try simp only [List.setIfInBounds_toArray, List.set_cons_succ, List.set_cons_zero]
      refine reg_take 12 26 3 #[true, true, true, true, true, true, true, true, true, true, true, true, true, false, false, false] (by rfl) (v := ?_) rfl rfl (by kernel_rfl) (by kernel_rfl) (by kernel_rfl) (by kernel_rfl) (fun _ _ _ h => h) (by rfl) ?_ (Till.mk' trivial hT) ?_
      rotate_left
      · intro W hS; go_simp; all_goals with_reducible rfl
      try simp only [List.setIfInBounds_toArray, List.set_cons_succ, List.set_cons_zero]
      refine reg_one 13 2 #[true, true, true, true, true, true, true, true, true, true, true, true, true, true, false, false] (by kernel_rfl) rfl (by rfl) (by kernel_rfl) (fun K hK => ?_)
      go_simp
      refine hK _ _ (Till.past trivial (by kernel_rfl)) ?_
      clear hK K
      try simp only [List.setIfInBounds_toArray, List.set_cons_succ, List.set_cons_zero]
      refine reg_take 14 27 1 #[true, true, true, true, true, true, true, true, true, true, true, true, true, true, true, false] (by rfl) (v := ?_) rfl rfl (by kernel_rfl) (by kernel_rfl) (by kernel_rfl) (by kernel_rfl) (fun _ _ _ h => h) (by rfl) ?_ (Till.past trivial (by kernel_rfl)) ?_
      rotate_left
      · intro W hS; go_simp; all_goals with_reducible rfl
      try simp only [List.setIfInBounds_toArray, List.set_cons_succ, List.set_cons_zero]
      refine reg_one 15 0 #[true, true, true, true, true, true, true, true, true, true, true, true, true, true, true, true] (by kernel_rfl) rfl (by rfl) (by kernel_rfl) (fun K hK => ?_)
      go_simp
      refine hK _ _ (Till.past trivial (by kernel_rfl)) ?_
      clear hK K
      try simp only [List.setIfInBounds_toArray, List.set_cons_succ, List.set_cons_zero]
      refine reg_done (by kernel_rfl) ?_ _
      have hF := Lib.hid (And.intro HB.out.1 (And.intro HB.out.2.1 (((HB.out.2.2.setCell (p := ⟨g, k, none⟩) (.inl (by simp)) (.bool y)).setCell (p := ⟨g, m, none⟩) (.inl (by simp)) (.bool x)).drew)))
      go_wp2_with fail
      have hmm := HM.out
      have hbl := H0.out.1
      have hk2 := HK.out
      go_roundw
      case rel => exact ⟨k + 1, _, by omega, by go_num, by congr 1; omega, hF.out.2.1, fun j z hz => hF.out.1 j z hz, hF.out.2.2⟩
      case measure => (simp [intOf] <;> omega)
    · rw [hrev.done (by omega)] at hc
      have hF := Lib.hid (And.intro hc td)
      have hlt2 : ¬ (k : Int) < (n : Int) - 1 - (k : Int) := hlt
      clear hc td hrev
      go_wp2_with fail
      go_end0
      exact ⟨rfl, hF.out⟩
end Go.Proofs.Ytnjnealphbcamaa
