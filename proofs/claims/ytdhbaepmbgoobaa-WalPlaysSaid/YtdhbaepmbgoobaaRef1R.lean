/- Contracts of ledgerlineref1.Reader: it goes by the same states as the program's. -/
import Derived.Test.YtdhbaepmbgoobaaReader
import Derived.Test.YtdhbaepmbgoobaaRef1
namespace Go.Proofs.Ytdhbaepmbgoobaa
open Go.RowKit
set_option linter.unusedVariables false
set_option maxRecDepth 10000
set_option linter.unusedSimpArgs false
set_option linter.unnecessarySimpa false
attribute [local go_sem ↓] Go.wp_at_zero Go.wp_at_succ

/-- Block g is the reference's Reader in this state: all its bytes, how many are read. -/
def IsX (w : World) (B g : Nat) (s : RS) : Prop :=
  ∃ (A : Option Addr) (c : Nat) (all : List UInt8) (p : Nat), w.heap[g]? = some (.cells #[.slice A all.length c, .int .i64 p, .int .i64 s.err] 149 (0, 0)) ∧
    Sl w B 1 (.slice A all.length c) all.length (bvs all) ∧ B ≤ g ∧ p ≤ all.length ∧ s.rest = all.drop p
theorem IsX.lt {w : World} {B g : Nat} {s : RS} (h : IsX w B g s) : g < w.heap.size := by
  obtain ⟨A, c, all, p, hb, _⟩ := h
  exact (Array.getElem?_eq_some_iff.1 hb).1
theorem IsX.below {w w' : World} {B g : Nat} {s : RS} (h : IsX w B g s) (hb : Below w.heap.size w w') : IsX w' B g s := by
  have hlt := h.lt
  obtain ⟨A, c, all, p, h1, h2, h3, h4, h5⟩ := h
  exact ⟨A, c, all, p, (hb.block g hlt).trans h1, h2.below_le hb (by omega), h3, h4, h5⟩
theorem IsX.only {w w' : World} {B g k : Nat} {s : RS} (h : IsX w B g s) (hg : w.grownBy w' (some k)) (h1 : k ≠ g) (h2 : B ≤ k) : IsX w' B g s := by
  have hlt := h.lt
  obtain ⟨A, c, all, p, e1, e2, e3, e4, e5⟩ := h
  exact ⟨A, c, all, p, (hg.block g hlt (by simpa using Ne.symm h1)).trans e1, e2.grown hg (by omega) (fun j hj => by injection hj with hj; omega), e3, e4, e5⟩
theorem isX_set {w w' : World} {B g : Nat} {A : Option Addr} {c p : Nat} {all : List UInt8} {e : Int} (hsl : Sl w B 1 (.slice A all.length c) all.length (bvs all)) (hne : B ≤ g) (hlt : B ≤ w.heap.size)
    (hg : w.grownBy w' (some g)) (hb : w'.heap[g]? = some (.cells #[.slice A all.length c, .int .i64 p, .int .i64 e] 149 (0, 0))) (hp : p ≤ all.length) : IsX w' B g ⟨all.drop p, e⟩ :=
  ⟨A, c, all, p, hb, hsl.grown hg hlt (fun j hj => by injection hj with hj; omega), hne, hp, rfl⟩

structure DidX (B g : Nat) (w : World) (s : RS) (w' : World) : Prop where
  is : IsX w' B g s
  only : w.grownBy w' (some g)
structure TookX (B g : Nat) (w : World) (s : RS) (bs : List UInt8) (v : Value) (w' : World) : Prop where
  did : DidX B g w s w'
  reads : Sl w' B 1 v bs.length (bvs bs)
theorem DidX.trans {B g : Nat} {w w1 w2 : World} {s s' : RS} (h : DidX B g w s w1) (k : DidX B g w1 s' w2) : DidX B g w s' w2 := ⟨k.is, grown_trans' h.only k.only⟩

theorem XNew_any (B : Nat) (v : Value) (bs : List UInt8) (w : World) (h : Sl w B 1 v bs.length (bvs bs)) (hB : B ≤ w.heap.size) :
    Calls Try.prog 71 #[v] w fun e' w' => ∃ g, e' = .returned (.pointer (some ⟨g, 0, none⟩)) ∧ w.heap.size ≤ g ∧ IsX w' B g ⟨bs, 0⟩ ∧ Below w.heap.size w w' := by
  have hsl := h
  obtain ⟨hl, A, c, rfl, hnc, hcm, hA, hrd⟩ := h
  have hX : IsX (w.alloc (.cells #[.slice A bs.length c, .int .i64 0, .int .i64 0] 149)) B w.heap.size ⟨bs, 0⟩ :=
    ⟨A, c, bs, 0, heap_alloc_new _ _, hsl.alloc hB _, hB, Nat.zero_le _, rfl⟩
  clear hsl hl hA hrd
  go_enter Try.func71, Try.ntmps71
  go_wp2_with fail
  go_ret
  exact ⟨_, rfl, Nat.le_refl _, hX, (Below.refl _ _).alloc (Nat.le_refl _) _⟩

/-- The reslice 's[p : p + n]' of elements of one cell. -/
theorem Sl.mid {w : World} {B l c p n : Nat} {A : Option Addr} {xs : List Value} (h : Sl w B 1 (.slice A l c) l xs) (hn : p + n ≤ l) :
    Sl w B 1 (.slice (if c = p then A else A.map fun x => x.add p) (p + n - p) (c - p)) n ((xs.drop p).take n) := by
  have hl : l ≤ c := by obtain ⟨_, A', c', e, h1, _⟩ := h; injection e with e1 e2 e3; omega
  have e0 : p + n - p = n := by omega
  rw [e0]
  split
  · rename_i hc
    have h2 := h.from_end (k := p) (by omega) hc
    exact h2.to (by omega)
  · rename_i hc
    have h2 := h.from_ (k := p) (by omega) hc
    exact h2.to (by omega)

theorem Xtake_end {B g n p c : Nat} {all : List UInt8} {A : Option Addr} {w : World} (hb : w.heap[g]? = some (.cells #[.slice A all.length c, .int .i64 p, .int .i64 0] 149 (0, 0)))
    (hsl : Sl w B 1 (.slice A all.length c) all.length (bvs all)) (hne : B ≤ g) (hlt : B ≤ w.heap.size) (hn : p + n ≤ all.length) (i j : Nat) :
    DidX B g w ⟨(all.drop p).drop n, 0⟩ (((w.drewN i).setCell ⟨g, 1, none⟩ (.int .i64 ((p : Int) + (n : Int)))).drewN j) ∧
    Sl (((w.drewN i).setCell ⟨g, 1, none⟩ (.int .i64 ((p : Int) + (n : Int)))).drewN j) B 1 (.slice (if c = p then A else A.map fun x => x.add p) (p + n - p) (c - p)) n (bvs ((all.drop p).take n)) := by
  have G : w.grownBy (((w.drewN i).setCell ⟨g, 1, none⟩ (.int .i64 ((p : Int) + (n : Int)))).drewN j) (some g) := by
    have h1 : w.grownBy ((w.drewN i).setCell ⟨g, 1, none⟩ (.int .i64 ((p : Int) + (n : Int)))) (some g) := only_set (grown_of_below (Below.drewN (Below.refl _ _) i) _) 1 _
    exact ⟨h1.os, h1.tape, h1.output, h1.size, h1.block⟩
  have e : ((p : Int) + (n : Int)) = ((p + n : Nat) : Int) := by omega
  refine ⟨⟨?_, G⟩, ?_⟩
  · rw [List.drop_drop]
    exact isX_set (p := p + n) hsl hne hlt G (by
      show ((w.drewN i).setCell ⟨g, 1, none⟩ (.int .i64 ((p : Int) + (n : Int)))).heap[g]? = _
      rw [heap_set (w := w.drewN i) (k := 1) (u := .int .i64 ((p : Int) + (n : Int))) hb, e]; rfl) hn
  · have h2 := (hsl.grown G hlt (fun j hj => by injection hj with hj; omega)).mid hn
    rw [bvs_drop, bvs_take] at h2
    exact h2

set_option maxHeartbeats 2000000 in
theorem Xtake_ok (B g n : Nat) (rest : List UInt8) (w : World) (h : IsX w B g ⟨rest, 0⟩) (hn : n ≤ rest.length) :
    Calls Try.prog 76 #[.pointer (some ⟨g, 0, none⟩), .int .i64 n] w fun e' w' => ∃ v', e' = .returned v' ∧ DidX B g w ⟨rest.drop n, 0⟩ w' ∧ Sl w' B 1 v' n (bvs (rest.take n)) := by
  have hlt := h.lt
  obtain ⟨A, c, all, p, hb, hsl, hne, hp, hr⟩ := h
  simp only at hr hb
  subst hr
  have hm : all.length ≤ maxLen := by
    obtain ⟨_, A', c', e, h1, h2, _⟩ := hsl
    omega
  unfold maxLen at hm
  have hcap : all.length ≤ c := by
    obtain ⟨_, A', c', e, h1, h2, _⟩ := hsl
    injection e with e1 e2 e3
    omega
  rw [List.length_drop] at hn
  have cb := heap_cell (k := 0) hb
  have cp := heap_cell (k := 1) hb
  have fp := heap_free (k := 1) hb
  have ce := heap_cell (k := 2) hb
  simp at cb cp ce
  have hd0 : ((0 : Int) == 0) = true := rfl
  have hd1 : decide ((all.length : Int) - (p : Int) < (n : Int)) = false := by simp; omega
  have F := Lib.hid (fun i j => Xtake_end hb hsl hne (by omega) (by omega : p + n ≤ all.length) i j)
  clear hb hsl hne
  have hw1 : IntKind.i64.wrap ((p : Int) + (n : Int) - (n : Int)) = (p : Int) := by simp only [IntKind.wrap_i64]; omega
  have hb1 : (0 : Int) ≤ (p : Int) := by omega
  have hb2 : (p : Int) ≤ (p : Int) + (n : Int) := by omega
  have hb3 : (p : Int) + (n : Int) ≤ (c : Int) := by omega
  by_cases hcp : c = p
  all_goals
    simp only [hcp, if_true, if_false, Nat.sub_self] at F
    go_enter Try.func76, Try.ntmps76
    go_wp2_with fail
    go_quiet (fail)
    go_wp2_with fail
    go_quiet (fail)
    go_wp2_with fail
    go_ret
    exact ⟨_, rfl, F.out _ _⟩

set_option maxHeartbeats 2000000 in
theorem Xtake_any (B g n : Nat) (s : RS) (w : World) (h : IsX w B g s) (hn : n ≤ 65535) :
    Calls Try.prog 76 #[.pointer (some ⟨g, 0, none⟩), .int .i64 n] w fun e' w' => ∃ v', e' = .returned v' ∧ TookX B g w (s.take n).2 (s.take n).1 v' w' := by
  obtain ⟨rest, err⟩ := s
  by_cases hg : (RS.cutIf ⟨rest, err⟩ n).err = 0
  · obtain ⟨e1, e2, e3⟩ := take_good _ _ hg
    simp only at e2 e3
    subst e3
    rw [e1]
    exact (Xtake_ok B g n rest w h e2).mono fun e w' ⟨v', h1, h2, h3⟩ => ⟨v', h1, h2, by rw [List.length_take, Nat.min_eq_left e2]; exact h3⟩
  · rw [take_err _ _ hg]
    have h' := h
    have hlt := h.lt
    obtain ⟨A, c, all, p, hb, hsl, hne, hp, hr⟩ := h
    simp only at hr hb
    subst hr
    have hm : all.length ≤ maxLen := by
      obtain ⟨_, A', c', e, h1, h2, _⟩ := hsl
      omega
    unfold maxLen at hm
    have cb := heap_cell (k := 0) hb
    have cp := heap_cell (k := 1) hb
    have ce := heap_cell (k := 2) hb
    have fe := heap_free (k := 2) hb
    simp at cb cp ce
    by_cases he : err = 0
    · subst he
      have hlen : all.length - p < n := by
        rcases Nat.lt_or_ge (all.length - p) n with h0 | h0
        · exact h0
        · exfalso; apply hg; unfold RS.cutIf; simp only [List.length_drop]; rw [if_neg (by omega)]
      have hcut : RS.cutIf ⟨all.drop p, 0⟩ n = ⟨all.drop p, 8⟩ := by unfold RS.cutIf RS.fail; simp only [List.length_drop]; rw [if_pos hlen]; simp [failed]
      rw [hcut]
      have hd0 : ((0 : Int) == 0) = true := rfl
      have hd1 : ((all.length : Int) - (p : Int) < (n : Int)) := by omega
      have F := Lib.hid (fun i => (⟨⟨isX_set hsl hne (by omega) (only_set (grown_of_below (Below.drewN (Below.refl _ _) i) _) 2 (.int .i64 8)) (by rw [heap_set (w := w.drewN i) hb]; rfl) hp, only_set (grown_of_below (Below.drewN (Below.refl _ _) i) _) 2 (.int .i64 8)⟩, Sl.nil⟩ : TookX B g w ⟨all.drop p, 8⟩ [] (.slice none 0 0) ((w.drewN i).setCell ⟨g, 2, none⟩ (.int .i64 8))))
      clear hg hb hsl hne hcut h'
      go_enter Try.func76, Try.ntmps76
      go_wp2_with fail
      go_quiet (fail)
      go_wp2_with fail
      go_ret
      exact ⟨_, rfl, F.out _⟩
    · have hcut : RS.cutIf ⟨all.drop p, err⟩ n = ⟨all.drop p, err⟩ := by unfold RS.cutIf RS.fail failed; simp [he]
      rw [hcut]
      have he0 : (err == 0) = false := by simpa using he
      have he1 : (err != 0) = true := by simpa using he
      have F := Lib.hid (fun i => (⟨⟨h'.below (Below.drewN (Below.refl _ _) i), grown_of_below (Below.drewN (Below.refl _ _) i) _⟩, Sl.nil⟩ : TookX B g w ⟨all.drop p, err⟩ [] (.slice none 0 0) (w.drewN i)))
      clear hg hb hsl hne hcut h'
      go_enter Try.func76, Try.ntmps76
      go_wp2_with fail
      go_quiet (fail)
      go_wp2_with fail
      go_ret
      exact ⟨_, rfl, F.out _⟩

theorem take_len (s : RS) (n : Nat) : (s.take n).1.length = n ∨ (s.take n).1 = [] := by
  unfold RS.take; split
  · rename_i h
    have := (take_good s n h).2.1
    exact .inl (by simp; omega)
  · exact .inr rfl

end Go.Proofs.Ytdhbaepmbgoobaa
