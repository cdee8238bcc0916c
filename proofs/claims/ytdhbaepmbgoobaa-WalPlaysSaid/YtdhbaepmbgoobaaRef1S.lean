/- Contracts of ledgerlineref1.Reader: it goes by the same states as the program's. -/
import Derived.Test.YtdhbaepmbgoobaaRef1R
namespace Go.Proofs.Ytdhbaepmbgoobaa
open Go.RowKit
set_option linter.unusedVariables false
set_option maxRecDepth 10000
set_option linter.unusedSimpArgs false
set_option linter.unnecessarySimpa false
attribute [local go_sem ↓] Go.wp_at_zero Go.wp_at_succ

set_option maxHeartbeats 2000000 in
theorem XInt8_any (B g : Nat) (s : RS) (w : World) (h : IsX w B g s) :
    Calls Try.prog 72 #[.pointer (some ⟨g, 0, none⟩)] w fun e' w' => e' = .returned (.int .i64 s.readInt.1) ∧ DidX B g w s.readInt.2 w' := by
  have T := Lib.hid (Xtake_any B g 8 s w h (by omega))
  have tl := take_len s 8
  have en : s.readInt = (leInt (s.take 8).1, (s.take 8).2) := rfl
  rw [en]
  generalize (s.take 8).2 = s' at *
  generalize (s.take 8).1 = bs at *
  have hl : bs.length ≤ 8 := by
    rcases tl with h | h
    · omega
    · subst h; simp
  clear tl en h
  go_enter Try.func72, Try.ntmps72
  go_wp2_with fail
  refine T.out.mono ?_
  rintro e w1 ⟨v1, rfl, hD, hsl⟩
  clear T
  obtain ⟨hl1, A, c, rfl, hnc, hcm, hA, hrd⟩ := hsl
  go_wp2_with fail
  go_loop [3, 5] (fun u i => ∃ k : Nat, k ≤ bs.length ∧ i = .int .i64 ((k : Int) - 1) ∧ u = .int .u64 (leNat (bs.drop k) : Nat)) (fun _ i => (intOf i + 1).toNat)
  case atStart => exact ⟨bs.length, by omega, rfl, by rw [List.drop_length]; rfl⟩
  case round =>
    obtain ⟨k, hk, rfl, rfl⟩ := hrel
    by_cases hlt : 0 < k
    · obtain ⟨j, rfl⟩ : ∃ j, k = j + 1 := ⟨k - 1, by omega⟩
      obtain ⟨b, off, rfl, hb, hcell⟩ := hrd.at_ (k := j) (by simp [bvs]; omega)
      simp only [bvs, List.getElem_map, u8v] at hcell
      have hb256 : (bs[j]).toNat < 256 := (bs[j]).toNat_lt
      have hbo : (0 : Int) ≤ ((bs[j]).toNat : Int) := by omega
      have hbo2 : ((bs[j]).toNat : Int) < 256 := by omega
      have ls := Lib.hid (be_step bs j (by omega) hl)
      rw [show ((j + 1 : Nat) : Int) - 1 = (j : Int) by omega]
      go_wp2_with fail
      go_round
      case rel => exact ⟨j, by omega, rfl, by rw [ls.out]⟩
      case measure => (simp [intOf] <;> omega)
    · have : k = 0 := by omega
      subst this
      rw [List.drop_zero]
      go_wp2_with fail
      go_ret
      have hw : leInt bs = wrap64 (leNat bs) := by unfold leInt wrap64; simp only [IntKind.wrap_i64]
      rw [hw]
      exact ⟨rfl, hD⟩

end Go.Proofs.Ytdhbaepmbgoobaa
