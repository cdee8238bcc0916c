/- What a ledger of steps keeps when more steps come; how its blocks are chained. -/
import Derived.Test.YtoahnhphfabajaaGreatLe0
import Derived.Test.YtoahnhphfabajaaGreatNe0
namespace Go.Proofs.YtoahnhphfabajaaGreat
open Go.RowKit
set_option linter.unusedVariables false
set_option maxRecDepth 10000

theorem fewSs_len {l : List Stp} (h : fewSs l = true) : l.length ≤ 40 := by
  unfold fewSs at h
  simp only [Bool.and_eq_true, decide_eq_true_eq] at h
  exact h.2
theorem bldL_inv {l : List Stp} (hf : ∀ s ∈ l, s.fits) (hfew : fewSs l = true) : Inv (bldL l) ∧ (bldL l).next ≤ 40 := by
  have h := bldK_inv l hf hfew l.length (Nat.le_refl _)
  rw [← bldL_eq] at h
  have := fewSs_len hfew
  exact ⟨h.1, by omega⟩
end Go.Proofs.YtoahnhphfabajaaGreat
