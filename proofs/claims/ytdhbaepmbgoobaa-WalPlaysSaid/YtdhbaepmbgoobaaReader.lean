/- Contracts of code.Reader. -/
import Derived.Test.YtdhbaepmbgoobaaNums
import Derived.Test.YtdhbaepmbgoobaaOnce
namespace Go.Proofs.Ytdhbaepmbgoobaa
open Go.RowKit
set_option linter.unusedVariables false
set_option maxRecDepth 10000
set_option linter.unusedSimpArgs false
set_option linter.unnecessarySimpa false

/-- Block g is a Reader with these bytes left and this error. -/
def flagOf (e : Int) : Int := if e = 0 then 0 else 1
structure RdrIs (w : World) (B g : Nat) (rest : List UInt8) (e : Int) : Prop where
  is : ∃ v, w.heap[g]? = some (.cells #[v, .int .i64 e, .int .u32 (flagOf e), .int .i32 0, .int .u32 0] 137 (0, 0)) ∧ Sl w B 1 v rest.length (bvs rest) ∧ B ≤ g

theorem RdrIs.lt {w : World} {B g : Nat} {rest : List UInt8} {e : Int} (h : RdrIs w B g rest e) : g < w.heap.size := by
  obtain ⟨v, hb, _⟩ := h.is
  exact (Array.getElem?_eq_some_iff.1 hb).1
/-- A Reader stays as it is while other blocks turn. -/
theorem RdrIs.below {w w' : World} {B g : Nat} {rest : List UInt8} {e : Int} (h : RdrIs w B g rest e) (hb : Below w.heap.size w w') : RdrIs w' B g rest e := by
  have hlt := h.lt
  obtain ⟨v, h1, h2, h3⟩ := h.is
  exact ⟨v, (hb.block g hlt).trans h1, h2.below_le hb (by omega), h3⟩
theorem RdrIs.only {w w' : World} {B g k : Nat} {rest : List UInt8} {e : Int} (h : RdrIs w B g rest e) (hg : w.grownBy w' (some k)) (h1 : k ≠ g) (h2 : B ≤ k) : RdrIs w' B g rest e := by
  have hlt := h.lt
  obtain ⟨v, e1, e2, e3⟩ := h.is
  exact ⟨v, (hg.block g hlt (by simpa using Ne.symm h1)).trans e1, e2.grown hg (by omega) (fun j hj => by injection hj with hj; omega), e3⟩

theorem heap_set {w : World} {g k : Nat} {cs : Array Value} {t : TypeId} {u : Value} (h : w.heap[g]? = some (.cells cs t (0, 0))) : (w.setCell ⟨g, k, none⟩ u).heap[g]? = some (.cells (cs.setIfInBounds k u) t (0, 0)) := by
  simp [World.setCell, Array.getElem?_modify, h]
theorem heap_cell {w : World} {g k : Nat} {cs : Array Value} {t : TypeId} {fr : Nat × Nat} (h : w.heap[g]? = some (.cells cs t fr)) : w.cell? ⟨g, k, none⟩ = cs[k]? := cell_of_row w g k cs t fr h
theorem heap_free {w : World} {g k : Nat} {cs : Array Value} {t : TypeId} (h : w.heap[g]? = some (.cells cs t (0, 0))) : w.frozen? ⟨g, k, none⟩ = false := by
  simp [World.frozen?, h]
theorem only_set {a w : World} {g : Nat} (h : a.grownBy w (some g)) (k : Nat) (u : Value) : a.grownBy (w.setCell ⟨g, k, none⟩ u) (some g) :=
  ⟨h.os, h.tape, h.output, by simpa [World.setCell] using h.size, fun i hi hne => (Below.heap_setCell w ⟨g, k, none⟩ u i (by rintro rfl; exact hne rfl)).trans (h.block i hi hne)⟩
theorem only_drew {a w : World} {row : Option Nat} (h : a.grownBy w row) : a.grownBy w.drew row := ⟨h.os, h.tape, h.output, h.size, h.block⟩
theorem only_alloc {a w : World} {row : Option Nat} (h : a.grownBy w row) (o : Obj) : a.grownBy (w.alloc o) row :=
  ⟨h.os, h.tape, h.output, Nat.le_trans h.size (by simp), fun i hi hne => (Below.heap_alloc w o i (Nat.lt_of_lt_of_le hi h.size)).trans (h.block i hi hne)⟩

theorem rdr_of {w w' : World} {B g : Nat} {v : Value} {rest : List UInt8} {e : Int} (hsl : Sl w B 1 v rest.length (bvs rest)) (hne : B ≤ g) (hlt : B ≤ w.heap.size) (hg : w.grownBy w' (some g))
    (hb : w'.heap[g]? = some (.cells #[v, .int .i64 e, .int .u32 (flagOf e), .int .i32 0, .int .u32 0] 137 (0, 0))) : RdrIs w' B g rest e :=
  ⟨v, hb, hsl.grown hg hlt (fun j hj => by injection hj with hj; omega), hne⟩

theorem Fail1_any (g : Nat) (p q : Addr) (e : Int) (x : Value) (w : World) (hp : w.cell? p = some (.int .i64 e)) (hq : w.cell? q = some (.pointer (some ⟨g, 0, none⟩))) (hx : w.cell? ⟨g, 1, none⟩ = some x) (hf : w.frozen? ⟨g, 1, none⟩ = false) :
    Calls Try.prog 83 (#[] ++ #[.pointer (some p), .pointer (some q)]) w fun e' w' => e' = .returned (.tuple #[]) ∧ w.setCell ⟨g, 1, none⟩ (.int .i64 e) = w' := by
  show Calls Try.prog 83 #[.pointer (some p), .pointer (some q)] w _
  go_enter Try.func83, Try.ntmps83
  go_wp2
  go_end0
  exact ⟨rfl, rfl⟩

/-- What Fail makes of an error. -/
def failed (f e : Int) : Int := if e = 0 then f else e

set_option maxHeartbeats 1000000 in
theorem Fail_any (B g : Nat) (rest : List UInt8) (e f : Int) (w : World) (h : RdrIs w B g rest e) :
    Calls Try.prog 80 #[.pointer (some ⟨g, 0, none⟩), .int .i64 f] w fun e' w' => e' = .returned (.tuple #[]) ∧ RdrIs w' B g rest (failed f e) ∧ w.grownBy w' (some g) := by
  have hlt := h.lt
  obtain ⟨v, hb, hsl, hne⟩ := h.is
  have hmf : ∀ (fn : Fn) (first cap : Array Value) (w : World), (Instr.makeFunc fn first cap).run Try.prog w = .ok (.func fn first cap) w := fun _ _ _ _ => rfl
  by_cases hf : f = 0
  · subst hf
    go_enter Try.func80, Try.ntmps80
    go_wp2_with fail
    go_end0
    refine ⟨rfl, ?_, only_alloc (only_alloc (World.grownBy.refl _ _) _) _⟩
    have e0 : failed 0 e = e := by unfold failed; split <;> simp_all
    rw [e0]
    exact h.below (((Below.refl _ _).alloc (Nat.le_refl _) _).alloc (by simp) _)
  · have hf' : (f != 0) = true := by simpa using hf
    obtain ⟨W, hW⟩ : ∃ W, W = (w.alloc (.cells #[.pointer (some ⟨g, 0, none⟩)] 118)).alloc (.cells #[.int .i64 f] 26) := ⟨_, rfl⟩
    have bW : Below w.heap.size w W := by rw [hW]; exact ((Below.refl _ _).alloc (Nat.le_refl _) _).alloc (by simp) _
    have hbW := (bW.block g hlt).trans hb
    have sW : W.heap.size = w.heap.size + 2 := by rw [hW]; simp
    have c1 : W.cell? ⟨w.heap.size, 0, none⟩ = some (.pointer (some ⟨g, 0, none⟩)) := by rw [hW]; go_simp
    have c2 : W.cell? ⟨w.heap.size + 1, 0, none⟩ = some (.int .i64 f) := by rw [hW]; go_simp
    by_cases he : e = 0
    · subst he
      have C := Once.do_first g 2 83 #[] #[.pointer (some ⟨w.heap.size + 1, 0, none⟩), .pointer (some ⟨w.heap.size, 0, none⟩)] (fun w2 => (W.setCell ⟨g, 3, none⟩ (.int .i32 1)).setCell ⟨g, 1, none⟩ (.int .i64 f) = w2) W (fun _ => by rfl)
        (by rw [heap_cell hbW]; rfl) (by rw [heap_cell hbW]; rfl) (heap_free hbW) (heap_free hbW)
        ((Fail1_any g _ _ f (.int .i64 0) _ ((World.cell?_setCell_other _ _ _ _ (by simp)).trans c2) ((World.cell?_setCell_other _ _ _ _ (by simp)).trans c1) (by rw [heap_cell (heap_set hbW)]; rfl) (heap_free (heap_set hbW))).mono fun e w2 ⟨h1, h2⟩ => ⟨h1, h2, by
          subst h2
          have b2 := heap_set (k := 1) (u := .int .i64 f) (heap_set (k := 3) (u := .int .i32 1) hbW)
          exact ⟨⟨_, by rw [heap_cell b2]; rfl⟩, heap_free b2, by rw [heap_cell b2]; rfl, heap_free b2⟩⟩)
      have fin : ∀ W', ((W.setCell ⟨g, 3, none⟩ (.int .i32 1)).setCell ⟨g, 1, none⟩ (.int .i64 f)).drew.setCell ⟨g, 2, none⟩ (.int .u32 1) = W' → RdrIs (W'.setCell ⟨g, 3, none⟩ (.int .i32 0)) B g rest (failed f 0) ∧ w.grownBy (W'.setCell ⟨g, 3, none⟩ (.int .i32 0)) (some g) := by
        intro W' h'
        subst h'
        have G : w.grownBy ((((W.setCell ⟨g, 3, none⟩ (.int .i32 1)).setCell ⟨g, 1, none⟩ (.int .i64 f)).drew.setCell ⟨g, 2, none⟩ (.int .u32 1)).setCell ⟨g, 3, none⟩ (.int .i32 0)) (some g) :=
          only_set (only_set (only_drew (only_set (only_set (grown_of_below bW _) _ _) _ _)) _ _) _ _
        have e0 : failed f 0 = f := by simp [failed]
        rw [e0]
        refine ⟨rdr_of hsl hne (by omega) G ?_, G⟩
        have h1 := heap_set (k := 1) (u := .int .i64 f) (heap_set (k := 3) (u := .int .i32 1) hbW)
        have h2 := heap_set (k := 3) (u := .int .i32 0) (heap_set (w := ((W.setCell ⟨g, 3, none⟩ (.int .i32 1)).setCell ⟨g, 1, none⟩ (.int .i64 f)).drew) (k := 2) (u := .int .u32 1) h1)
        rw [h2]
        have : flagOf f = 1 := by simp [flagOf, hf]
        simp [this]
      have C' := Lib.hid (C.mono fun e ww ⟨he, w2, hr, hw⟩ => (⟨he, by subst hr; subst hw; exact fin _ rfl⟩ : e = Ending.returned (.tuple #[]) ∧ RdrIs ww B g rest (failed f 0) ∧ w.grownBy ww (some g)))
      clear C fin sW c1 c2 hbW bW hsl hb h hne
      subst hW
      go_enter Try.func80, Try.ntmps80
      go_wp2_with fail
      refine C'.out.mono ?_
      rintro e ww ⟨rfl, hR, hG⟩
      go_wp2_with fail
      go_end0
      exact ⟨rfl, hR, hG⟩
    · have C := Lib.hid (Once.do_done ⟨g, 2, none⟩ 1 (by omega) (.func (.func 83) #[] #[.pointer (some ⟨w.heap.size + 1, 0, none⟩), .pointer (some ⟨w.heap.size, 0, none⟩)]) W (by rw [heap_cell hbW]; simp [flagOf, he]))
      have G := grown_of_below bW (some g)
      have hR := h.below bW
      clear sW c1 c2 hbW bW hsl hb h hne
      subst hW
      go_enter Try.func80, Try.ntmps80
      go_wp2_with fail
      refine C.out.mono ?_
      rintro e' ww ⟨rfl, rfl⟩
      go_wp2_with fail
      go_end0
      have e0 : failed f e = e := by simp [failed, he]
      rw [e0]
      exact ⟨rfl, hR, G⟩

/-- A reader's state, and what taking bytes does to it. -/
structure RS where
  rest : List UInt8
  err : Int
def RS.fail (s : RS) (f : Int) : RS := ⟨s.rest, failed f s.err⟩
def RS.cutIf (s : RS) (n : Nat) : RS := if s.rest.length < n then s.fail 8 else s
def RS.take (s : RS) (n : Nat) : List UInt8 × RS :=
  if (s.cutIf n).err = 0 then (s.rest.take n, ⟨s.rest.drop n, 0⟩) else ([], s.cutIf n)
/-- Block g is the Reader in this state. -/
def IsR (w : World) (B g : Nat) (s : RS) : Prop := RdrIs w B g s.rest s.err
theorem IsR.only {w w' : World} {B g k : Nat} {s : RS} (h : IsR w B g s) (hg : w.grownBy w' (some k)) (h1 : k ≠ g) (h2 : B ≤ k) : IsR w' B g s := RdrIs.only h hg h1 h2
theorem IsR.below {w w' : World} {B g : Nat} {s : RS} (h : IsR w B g s) (hb : Below w.heap.size w w') : IsR w' B g s := RdrIs.below h hb
theorem IsR.lt {w : World} {B g : Nat} {s : RS} (h : IsR w B g s) : g < w.heap.size := RdrIs.lt h

theorem failed8 (e : Int) : failed 8 e ≠ 0 := by unfold failed; split <;> simp_all

set_option maxHeartbeats 1000000 in
/-- The last part of take: no error stands. -/
theorem take_ok (B g n : Nat) (rest : List UInt8) (w : World) (h : RdrIs w B g rest 0) (hn : n ≤ rest.length) :
    Calls Try.prog 75 #[.pointer (some ⟨g, 0, none⟩), .int .i64 n] w fun e' w' => ∃ v', e' = .returned v' ∧ RdrIs w' B g (rest.drop n) 0 ∧ w.grownBy w' (some g) ∧ Sl w' B 1 v' n (bvs (rest.take n)) := by
  have hlt := h.lt
  obtain ⟨v, hb, hsl, hne⟩ := h.is
  have hsl' := hsl
  obtain ⟨hl, A, c, rfl, hnc, hcm, hA, hrd⟩ := hsl
  have cb := heap_cell (k := 0) hb
  have ce := heap_cell (k := 1) hb
  have fb := heap_free (k := 0) hb
  simp at cb ce
  have hm : rest.length ≤ maxLen := by omega
  unfold maxLen at hm
  have fin : ∀ v2 : Value, Sl w B 1 v2 (rest.length - n) ((bvs rest).drop n) → RdrIs (w.setCell ⟨g, 0, none⟩ v2) B g (rest.drop n) 0 ∧ w.grownBy (w.setCell ⟨g, 0, none⟩ v2) (some g) ∧ Sl (w.setCell ⟨g, 0, none⟩ v2) B 1 (.slice A n c) n (bvs (rest.take n)) := by
    intro v2 h2
    have G : w.grownBy (w.setCell ⟨g, 0, none⟩ v2) (some g) := only_set (World.grownBy.refl _ _) 0 v2
    rw [bvs_drop, ← List.length_drop] at h2
    refine ⟨rdr_of h2 hne (by omega) G (by rw [heap_set hb]; rfl), G, ?_⟩
    rw [← bvs_take]
    exact (hsl'.to hn).grown G (by omega) (fun j hj => by injection hj with hj; omega)
  clear hb h hl hA hrd hcm
  by_cases hc : c = n
  · have F := Lib.hid (fin (.slice A (rest.length - n) (c - n)) (hsl'.from_end hn hc))
    clear fin hsl'
    subst hc
    go_enter Try.func75, Try.ntmps75
    go_wp2_with fail
    go_ret
    rw [show rest.length - c = 0 by omega, Nat.sub_self] at F
    exact ⟨_, rfl, F.out⟩
  · have F := Lib.hid (fin (.slice (A.map fun x => x.add n) (rest.length - n) (c - n)) (hsl'.from_ hn hc))
    clear fin hsl'
    go_enter Try.func75, Try.ntmps75
    go_wp2_with fail
    go_ret
    exact ⟨_, rfl, F.out⟩

/-- What an operation on a Reader leaves: the Reader in its new state, nothing else turned. -/
structure Did (B g : Nat) (w : World) (s : RS) (w' : World) : Prop where
  is : IsR w' B g s
  only : w.grownBy w' (some g)
/-- What take hands back. -/
structure Took (B g : Nat) (w : World) (s : RS) (bs : List UInt8) (v : Value) (w' : World) : Prop where
  did : Did B g w s w'
  reads : Sl w' B 1 v bs.length (bvs bs)

theorem take_err (s : RS) (n : Nat) (h : (s.cutIf n).err ≠ 0) : s.take n = ([], s.cutIf n) := by unfold RS.take; rw [if_neg h]
theorem take_good (s : RS) (n : Nat) (h : (s.cutIf n).err = 0) : s.take n = (s.rest.take n, ⟨s.rest.drop n, 0⟩) ∧ n ≤ s.rest.length ∧ s.err = 0 := by
  unfold RS.take
  rw [if_pos h]
  unfold RS.cutIf at h
  split at h
  · exact absurd h (failed8 _)
  · exact ⟨rfl, by omega, h⟩

set_option maxHeartbeats 1000000 in
theorem take_any (B g n : Nat) (s : RS) (w : World) (h : IsR w B g s) (hn : n ≤ 65535) :
    Calls Try.prog 75 #[.pointer (some ⟨g, 0, none⟩), .int .i64 n] w fun e' w' => ∃ v', e' = .returned v' ∧ Took B g w (s.take n).2 (s.take n).1 v' w' := by
  obtain ⟨rest, err⟩ := s
  by_cases hg : (RS.cutIf ⟨rest, err⟩ n).err = 0
  · obtain ⟨e1, e2, e3⟩ := take_good _ _ hg
    simp only at e2 e3
    subst e3
    rw [e1]
    exact (take_ok B g n rest w h e2).mono fun e w' ⟨v', h1, h2, h3, h4⟩ => ⟨v', h1, ⟨h2, h3⟩, by rw [List.length_take, Nat.min_eq_left e2]; exact h4⟩
  · rw [take_err _ _ hg]
    have hR : RdrIs w B g rest err := h
    obtain ⟨v, hb, hsl, hne⟩ := hR.is
    have hsl' := hsl
    obtain ⟨hl, A, c, rfl, hnc, hcm, hA, hrd⟩ := hsl
    have hm : rest.length ≤ maxLen := by omega
    unfold maxLen at hm
    have cb := heap_cell (k := 0) hb
    have ce := heap_cell (k := 1) hb
    simp at cb ce
    by_cases hlen : rest.length < n
    · have hcut : RS.cutIf ⟨rest, err⟩ n = ⟨rest, failed 8 err⟩ := by unfold RS.cutIf RS.fail; rw [if_pos hlen]
      rw [hcut]
      have F := Lib.hid (Fail_any B g rest err 8 w hR)
      have h8 : (failed 8 err != 0) = true := by simpa using failed8 err
      clear hg hb hsl' hl hA hrd hnc hcm hcut h hR hne
      go_enter Try.func75, Try.ntmps75
      go_wp2_with fail
      refine F.out.mono ?_
      rintro e w1 ⟨rfl, hR1, hG⟩
      have ce1 : w1.cell? ⟨g, 1, none⟩ = some (.int .i64 (failed 8 err)) := by
        obtain ⟨v1, hb1, _⟩ := hR1.is
        rw [heap_cell hb1]; rfl
      have D : Took B g w ⟨rest, failed 8 err⟩ [] (.slice none 0 0) w1 := ⟨⟨hR1, hG⟩, Sl.nil⟩
      clear F hR1 hG
      go_wp2_with fail
      go_ret
      exact ⟨_, rfl, D⟩
    · have hcut : RS.cutIf ⟨rest, err⟩ n = ⟨rest, err⟩ := by unfold RS.cutIf; rw [if_neg hlen]
      rw [hcut] at hg ⊢
      have he : (err != 0) = true := by simpa using hg
      have D : Took B g w ⟨rest, err⟩ [] (.slice none 0 0) w := ⟨⟨h, World.grownBy.refl _ _⟩, Sl.nil⟩
      clear hg hb hsl' hl hA hrd hnc hcm hcut h hR hne
      go_enter Try.func75, Try.ntmps75
      go_wp2_with fail
      go_ret
      exact ⟨_, rfl, D⟩

def RS.number (s : RS) (n : Nat) : Int × RS := (leInt (s.take n).1, (s.take n).2)

set_option maxHeartbeats 1000000 in
theorem number_any (B g n : Nat) (s : RS) (w : World) (h : IsR w B g s) (hn : n ≤ 8) :
    Calls Try.prog 67 #[.pointer (some ⟨g, 0, none⟩), .int .i64 n] w fun e' w' => e' = .returned (.int .i64 (s.number n).1) ∧ Did B g w (s.number n).2 w' := by
  have T := Lib.hid (take_any B g n s w h (by omega))
  obtain ⟨bs, hbs⟩ : ∃ bs, bs = (s.take n).1 := ⟨_, rfl⟩
  obtain ⟨s', hs'⟩ : ∃ s', s' = (s.take n).2 := ⟨_, rfl⟩
  have en : s.number n = (leInt bs, s') := by rw [hbs, hs']; rfl
  rw [← hbs, ← hs'] at T
  have hl : bs.length ≤ 8 := by
    rw [hbs]; unfold RS.take; split
    · simp; omega
    · simp
  rw [en]
  clear en hbs hs' h
  go_enter Try.func67, Try.ntmps67
  go_wp2_with fail
  refine T.out.mono ?_
  rintro e w1 ⟨v1, rfl, hD, hsl⟩
  clear T
  obtain ⟨hl1, A, c, rfl, hnc, hcm, hA, hrd⟩ := hsl
  go_wp2_with fail
  go_loop [5, 12] (fun u i => ∃ k : Nat, k ≤ bs.length ∧ i = .int .i64 k ∧ u = .int .u64 (leNat (bs.take k) : Nat)) (fun _ i => bs.length - (intOf i).toNat)
  case atStart => exact ⟨0, by omega, rfl, rfl⟩
  case round =>
    obtain ⟨k, hk, rfl, rfl⟩ := hrel
    by_cases hlt : k < bs.length
    · obtain ⟨b, off, rfl, hb, hcell⟩ := hrd.at_ (k := k) (by simpa [bvs] using hlt)
      simp only [bvs, List.getElem_map, u8v] at hcell
      have hb256 : (bs[k]).toNat < 256 := (bs[k]).toNat_lt
      have hbo : (0 : Int) ≤ ((bs[k]).toNat : Int) := by omega
      have hbo2 : ((bs[k]).toNat : Int) < 256 := by omega
      have ls := Lib.hid (le_step bs k hlt hl)
      go_wp2_with fail
      go_round
      case rel => exact ⟨k + 1, by omega, by go_num, by rw [ls.out]⟩
      case measure => simp [intOf]; omega
    · have : k = bs.length := by omega
      subst this
      rw [List.take_length]
      go_wp2_with fail
      go_ret
      have hw : leInt bs = wrap64 (leNat bs) := by unfold leInt wrap64; simp only [IntKind.wrap_i64]
      rw [hw]
      exact ⟨rfl, hD⟩

def RS.readInt (s : RS) : Int × RS := s.number 8
def RS.readByte (s : RS) : Int × RS := s.number 1
def RS.readText (s : RS) : List UInt8 × RS := (s.number 2).2.take (s.number 2).1.toNat


theorem RInt8_any (B g : Nat) (s : RS) (w : World) (h : IsR w B g s) :
    Calls Try.prog 46 #[.pointer (some ⟨g, 0, none⟩)] w fun e' w' => e' = .returned (.int .i64 s.readInt.1) ∧ Did B g w s.readInt.2 w' := by
  have N := Lib.hid (number_any B g 8 s w h (by omega))
  go_enter Try.func46, Try.ntmps46
  go_wp2_with fail
  refine N.out.mono ?_
  rintro e w1 ⟨rfl, hD⟩
  go_wp2_with fail
  go_ret
  exact ⟨rfl, hD⟩
theorem Did.trans {B g : Nat} {w w1 w2 : World} {s s' : RS} (h : Did B g w s w1) (k : Did B g w1 s' w2) : Did B g w s' w2 := ⟨k.is, grown_trans' h.only k.only⟩

theorem number2_lt (s : RS) : ∃ m : Nat, (s.number 2).1 = m ∧ m ≤ 65535 := by
  have hl : (s.take 2).1.length ≤ 2 := by
    unfold RS.take; split
    · simp; omega
    · simp
  have h1 := leNat_lt (s.take 2).1
  have h2 : 256 ^ (s.take 2).1.length ≤ 256 ^ 2 := Nat.pow_le_pow_right (by omega) hl
  refine ⟨leNat (s.take 2).1, ?_, by omega⟩
  unfold RS.number leInt
  simp only [IntKind.wrap_i64]
  omega

def RS.endErr (s : RS) : Int := if s.err = 0 ∧ s.rest ≠ [] then 9 else s.err

set_option maxHeartbeats 1000000 in
theorem New_any (v : Value) (bs : List UInt8) (w : World) (h : Sl w w.heap.size 1 v bs.length (bvs bs)) (hm : bs.length ≤ 1000000000) :
    Calls Try.prog 45 #[v] w fun e' w' => ∃ g, e' = .returned (.pointer (some ⟨g, 0, none⟩)) ∧ w.heap.size ≤ g ∧ IsR w' g g ⟨bs, 0⟩ ∧ Below w.heap.size w w' := by
  have C := Lib.hid (Clone_any v bs.length (bvs bs) (bvs_one bs) w h (by omega))
  clear h
  go_enter Try.func45, Try.ntmps45
  go_wp2_with fail
  refine C.out.mono ?_
  rintro e w1 ⟨v1, rfl, own1, bel1⟩
  clear C
  have sl1 := Sl.of_own own1
  obtain ⟨hl, A, c, rfl, hnc, hcm, hA, hrd⟩ := sl1
  have hR : IsR (w1.alloc (.cells #[.slice A bs.length c, .int .i64 0, .int .u32 0, .int .i32 0, .int .u32 0] 137)) w1.heap.size w1.heap.size ⟨bs, 0⟩ :=
    ⟨_, heap_alloc_new _ _, (Sl.of_own own1).alloc (Nat.le_refl _) _, Nat.le_refl _⟩
  clear own1 hl hA hrd
  go_wp2_with fail
  go_ret
  exact ⟨_, rfl, bel1.size, hR, bel1.alloc bel1.size _⟩
end Go.Proofs.Ytdhbaepmbgoobaa
