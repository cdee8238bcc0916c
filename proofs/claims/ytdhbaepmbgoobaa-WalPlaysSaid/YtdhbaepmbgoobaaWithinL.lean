/- within: a number from 0 to n - 1. -/
import Derived.Test.YtdhbaepmbgoobaaBase
import Derived.Test.YtdhbaepmbgoobaaProg
namespace Go.Proofs.Ytdhbaepmbgoobaa
open Go.RowKit
set_option linter.unusedVariables false
set_option maxRecDepth 10000
set_option linter.unusedSimpArgs false
set_option linter.unnecessarySimpa false

theorem within_val (a n : Int) (hn : 0 < n) : a % n = if a.tmod n < 0 then a.tmod n + n else a.tmod n := by
  rw [Int.emod_eq_tmod]
  by_cases h1 : n ∣ a
  · have h0 : a.tmod n = 0 := Int.tmod_eq_zero_of_dvd h1
    simp [h1, h0]
  · by_cases h2 : 0 ≤ a
    · have h3 := Int.tmod_nonneg n h2
      simp [h2, show ¬ a.tmod n < 0 by omega]
    · have h3 : a.tmod n = -((-a).tmod n) := by rw [Int.neg_tmod]; omega
      have h4 := Int.tmod_nonneg n (show 0 ≤ -a by omega)
      have h5 : a.tmod n ≠ 0 := fun h => h1 (Int.dvd_of_tmod_eq_zero h)
      simp [h1, h2, show a.tmod n < 0 by omega]
      omega
theorem tmod_bounds (a n : Int) (hn : 0 < n) : -n ≤ a.tmod n ∧ a.tmod n < n := by
  have h := within_val a n hn
  have h1 := Int.emod_nonneg a (show n ≠ 0 by omega)
  have h2 := Int.emod_lt_of_pos a hn
  split at h <;> omega

theorem within_any (a n : Int) (w : World) (h1 : -9223372036854775808 ≤ a) (h2 : a ≤ 9223372036854775807) (hn : 0 < n) (hn2 : n ≤ 1000000) :
    Calls Try.prog 11 #[.int .i64 a, .int .i64 n] w fun e w' => e = .returned (.int .i64 (a % n)) ∧ w = w' := by
  have hne : (n == 0) = false := by simp; omega
  have t1 := (tmod_bounds a n hn).1
  have t2 := (tmod_bounds a n hn).2
  have hv := within_val a n hn
  by_cases ha : 0 ≤ a
  · have e0 : a.tmod n = a % n := Int.tmod_eq_emod_of_nonneg ha
    have e1 := Int.emod_nonneg a (show n ≠ 0 by omega)
    clear hv
    rw [e0] at t1 t2
    clear e0
    go_enter Try.func11, Try.ntmps11
    go_wp2_with fail
    go_ret
    exact ⟨rfl, rfl⟩
  · rw [hv]
    clear hv
    by_cases hneg : a.tmod n < 0
    · rw [if_pos hneg]
      go_enter Try.func11, Try.ntmps11
      go_wp2_with fail
      go_ret
      exact ⟨rfl, rfl⟩
    · rw [if_neg hneg]
      go_enter Try.func11, Try.ntmps11
      go_wp2_with fail
      go_ret
      exact ⟨rfl, rfl⟩
end Go.Proofs.Ytdhbaepmbgoobaa
