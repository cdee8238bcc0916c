/- Chapter 9's example; schemas that are written out. -/
import Derived.Test.YtdllgnccjejhiaaCheck
namespace Go.Proofs.Ytdllgnccjejhiaa
open Go.RowKit
set_option linter.unusedVariables false
set_option maxRecDepth 10000
set_option linter.unusedSimpArgs false
set_option linter.unnecessarySimpa false

instance (s : Sch) : Decidable s.fits := by unfold Sch.fits; infer_instance

theorem known_any (w : World) : Calls Try.prog 10 #[] w fun e w' => e = .returned (.bool true) ∧ Below w.heap.size w w' := by
  have hck : checkS ⟨⟨#[116, 97, 98, 108, 101]⟩, [], 0, false⟩ = 12 := by decide +kernel
  have CK := Check_any ⟨⟨#[116, 97, 98, 108, 101]⟩, [], 0, false⟩ none 0 0 w.heap.size w (by decide +kernel) Sl.nil (Nat.le_refl _)
  rw [hck] at CK
  replace CK := Lib.hid CK
  clear hck
  go_enter Try.func10, Try.ntmps10
  go_wp2_with fail
  refine CK.out.mono ?_
  rintro e w1 ⟨rfl, t1⟩
  go_wp2_with fail
  go_ret
  exact ⟨rfl, t1.below (Nat.le_refl _) (by simp)⟩

/-- Elements that were just laid, and one block more. -/
theorem lit_sl (w : World) (cs : List Value) (t : TypeId) (o : Obj) (B : Nat) (n : Nat) (h : cs.length = n * 3) (hm : n ≤ maxLen := by simp [maxLen]) (hB : B = w.heap.size + 1 := by rfl) : Sl ((w.alloc (.cells cs.toArray t)).alloc o) B 3 (.slice (some ⟨w.heap.size, 0, none⟩) n n) n cs := by
  subst hB
  have := Sl.new w cs.toArray t n 3 (by simpa using h) hm
  exact (this.alloc (by simp) o)
theorem bel_two {w w1 w5 : World} {o o' : Obj} (h : Below w.heap.size w w1) (t : Turns [] ((w1.alloc o).alloc o') w5) : Below w.heap.size w w5 :=
  (((h.alloc h.size o).alloc (Nat.le_trans h.size (by simp)) o').trans ((t.below (Nat.le_refl _) (by simp)).mono (Nat.le_trans h.size (by simp; omega))))
end Go.Proofs.Ytdllgnccjejhiaa
