/- A row of bytes of the caller's own, W0 the world where it began. -/
import Derived.Test.YtdhbaepmbgoobaaTurns
namespace Go.Proofs.Ytdhbaepmbgoobaa
open Go.RowKit
set_option linter.unusedVariables false
set_option maxRecDepth 10000
set_option linter.unusedSimpArgs false
set_option linter.unnecessarySimpa false

/-- A row of one's own, made behind W0, that holds these bytes. -/
structure Mine (W0 w : World) (v : Value) (bs : List UInt8) : Prop where
  own : w.ownsRow W0.heap.size 5 1 v bs.length (bvs bs)
  turns : Turns [] W0 w
theorem Mine.nil {W0 w : World} (t : Turns [] W0 w) : Mine W0 w (.slice none 0 0) [] := ⟨World.ownsRow_nil _ _ _ _, t⟩
theorem Mine.sl {W0 w : World} {v : Value} {bs : List UInt8} (h : Mine W0 w v bs) : Sl w w.heap.size 1 v bs.length (bvs bs) := Sl.of_own h.own
theorem Mine.drew {W0 w : World} {v : Value} {bs : List UInt8} (h : Mine W0 w v bs) : Mine W0 w.drew v bs := ⟨h.own.drew, h.turns.drew⟩
theorem Mine.alloc {W0 w : World} {v : Value} {bs : List UInt8} (h : Mine W0 w v bs) (o : Obj) : Mine W0 (w.alloc o) v bs := ⟨h.own.alloc o, h.turns.alloc o⟩
theorem Mine.on {W0 w w' : World} {v : Value} {bs : List UInt8} (h : Mine W0 w v bs) (t : Turns [] w w') : Mine W0 w' v bs := by
  refine ⟨?_, h.turns.trans t (by simp)⟩
  obtain ⟨h1, h2⟩ := h.own
  refine ⟨h1, ?_⟩
  rcases h2 with h2 | ⟨g, cap, cur, hv, hg, hh, r⟩
  · exact Or.inl h2
  · refine Or.inr ⟨g, cap, cur, hv, hg, ?_, r⟩
    rw [t.block g (Array.getElem?_eq_some_iff.1 hh).1 (by simp)]
    exact hh
theorem mine_new {W0 w w' : World} {v : Value} {n : Nat} {bs : List UInt8} (t : Turns [] W0 w) (own : w'.ownsRow w.heap.size 5 1 v n (bvs bs)) (hb : Below w.heap.size w w') : Mine W0 w' v bs := by
  have hl := own.1
  rw [bvs_length, Nat.mul_one] at hl
  subst hl
  exact ⟨own_more own t.size, t.trans (Turns.of_below (L := []) hb) (by simp)⟩
theorem mine_apd {W0 w w' : World} {v v' : Value} {n m : Nat} {bs cs : List UInt8} (h : Mine W0 w v bs) (ap : Apd W0.heap.size 5 1 w v n (bvs bs) w' v' m (bvs cs)) : Mine W0 w' v' cs := by
  have hl := ap.own.1
  rw [bvs_length, Nat.mul_one] at hl
  subst hl
  refine ⟨ap.own, ?_⟩
  exact h.turns.trans (L' := v.ownBlock.toList) (Turns.of_grown ap.grown (by intro k hk; exact .inl (by simpa using hk))) (by intro x hx; exact .inr (h.own.lt x (by simpa using hx)).1)
end Go.Proofs.Ytdhbaepmbgoobaa
