/- The shape of an owned slice. -/
import Derived.Test.YtdhbaepmbgoobaaRef1
namespace Go.Proofs.Ytdhbaepmbgoobaa
open Go.RowKit
set_option linter.unusedVariables false
set_option maxRecDepth 10000
set_option linter.unusedSimpArgs false
set_option linter.unnecessarySimpa false

/-- A slice that owns at least one element: its shape, its cells. -/
theorem own_shape {w : World} {base : Nat} {e : TypeId} {n : Nat} {v : Value} {xs : List Value} (h : w.ownsRow base e 1 v n xs) (hn : 0 < n) :
    ∃ g cap, v = .slice (some ⟨g, 0, none⟩) n cap ∧ base ≤ g ∧ g < w.heap.size ∧ n ≤ cap ∧ cap ≤ maxLen ∧ ∀ j u, xs[j]? = some u → w.cell? ⟨g, j, none⟩ = some u := by
  have hr := fun g c (e : v = .slice (some ⟨g, 0, none⟩) n c) => (h.cells (g := g) (by rw [e]; rfl))
  rcases h.2 with ⟨rfl, rfl⟩ | ⟨g, cap, cur, rfl, hb, hg, hnc, hm, _⟩
  · omega
  · refine ⟨g, cap, rfl, hb, (Array.getElem?_eq_some_iff.1 hg).1, hnc, hm, fun j u hu => ?_⟩
    have := hr g cap rfl j u hu
    rw [Addr.add_lit, Nat.zero_add] at this
    exact this

theorem own_bs {w : World} {base : Nat} {e : TypeId} {n : Nat} {v : Value} {bs : List UInt8} (h : w.ownsRow base e 1 v n (bvs bs)) : w.ownsRow base e 1 v bs.length (bvs bs) := by
  have := h.1
  rw [bvs_length, Nat.mul_one] at this
  rw [this]; exact h
theorem sl_bs {w : World} {B n : Nat} {v : Value} {bs : List UInt8} (h : Sl w B 1 v n (bvs bs)) : Sl w B 1 v bs.length (bvs bs) := by
  have := h.1
  rw [bvs_length, Nat.mul_one] at this
  rw [this]; exact h
theorem le8_length (n : Int) : (le8 n).length = 8 := by simp [le8]
theorem textBytes_length (s : List UInt8) : (textBytes s).length = 2 + min 65535 s.length := by simp [textBytes, cutText]; omega

end Go.Proofs.Ytdhbaepmbgoobaa
