/- slices.Clone of bytes; the bytes' slice type. (For seats without slices.Concat: the first part of Lib.) -/
import Derived.Test.YtemhlnjnbccpgaaBase
import Derived.Test.YtemhlnjnbccpgaaProg
namespace Go.Proofs.Ytemhlnjnbccpgaa
open Go.RowKit
set_option linter.unusedVariables false
set_option linter.unusedSimpArgs false
set_option linter.unnecessarySimpa false

theorem T8 : SliceTy Try.prog 22 5 (.int .u8 0) 1 1 := ⟨Try.underlying22, by kernel_rfl, rfl, by omega⟩

set_option maxHeartbeats 400000 in
theorem Clone_any (v : Value) (n : Nat) (bs : List Value) (h1 : ∀ u ∈ bs, u.oneCell' = true) (w : World) (h : Sl w w.heap.size 1 v n bs) (hn : n ≤ 140737488355328) :
    Calls Try.prog 22 #[v] w fun e w' => ∃ v', e = .returned v' ∧ w'.ownsRow w.heap.size 5 1 v' n bs ∧ Below w.heap.size w w' := by
  have h' := h
  obtain ⟨hl, A, c, rfl, hnc, hcm, hA, hrd⟩ := h
  have hnil := fun w => Lib.run_eql_slice_nil (P := Try.prog) w 22 5 A n c 0 0 Try.underlying22
  rcases A with _ | ad
  · have := hA rfl
    subst this
    have : n = 0 := by omega
    subst this
    have : bs = [] := List.eq_nil_of_length_eq_zero (by omega)
    subst this
    go_enter Try.func22, Try.ntmps22
    go_wp2_with fail
    go_ret
    exact ⟨_, rfl, World.ownsRow_nil _ _ _ _, Below.refl _ _⟩
  · have hown : (w.alloc (.cells #[] 5)).ownsRow w.heap.size 5 1 (.slice (some ⟨w.heap.size, 0, none⟩) 0 0) 0 [] :=
      World.ownsRow_made w #[] 0 (Nat.le_refl _) (Nat.zero_le _) (by simp)
    go_enter Try.func22, Try.ntmps22
    go_wp2_with (at_builtin; refine wpList_append _ rfl (.tmp 5) (.tmp 6) rfl (run_append_rd _ T8 _ hown (h'.alloc (Nat.le_refl _) _) h1 (by simp only [maxLen]; omega) (by omega) (by simp)) rfl rfl ?_; intro v' w' ap)
    go_ret
    exact ⟨v', rfl, by simpa using ap.own, ap.below ((Below.refl _ _).alloc (Nat.le_refl _) _) hown (Nat.le_refl _) (by simp)⟩
end Go.Proofs.Ytemhlnjnbccpgaa
