/- Contracts of ledgerlineref1.Reader: it goes by the same states as the program's. -/
import Derived.Test.YtfehhiegnhplhaaRef1S
import Derived.StillTailTactics
namespace Go.Proofs.Ytfehhiegnhplhaa
open Go.RowKit
set_option linter.unusedVariables false
set_option maxRecDepth 10000
set_option linter.unusedSimpArgs false
set_option linter.unnecessarySimpa false
attribute [local go_sem ↓] Go.wp_at_zero Go.wp_at_succ

set_option maxHeartbeats 2000000 in
theorem XText_read (B g : Nat) (s : RS) (w : World) (h : IsX w B g s) :
    Calls Try.prog 35 #[.pointer (some ⟨g, 0, none⟩)] w fun e' w' => e' = .returned (.string (strOf s.readText.1)) ∧ DidX B g w s.readText.2 w' := by
  have T := Lib.hid (Xtake_any B g 2 s w h (by omega))
  have tl := take_len s 2
  by_cases hg : (s.cutIf 2).err = 0
  · have e1 := (take_good s 2 hg)
    have e2 : (s.take 2).1.length = 2 := by rw [e1.1]; simp; omega
    obtain ⟨x, y, hxy⟩ : ∃ x y, (s.take 2).1 = [x, y] := by
      match h2 : (s.take 2).1, e2 with
      | [x, y], _ => exact ⟨x, y, rfl⟩
    have hx := x.toNat_lt
    have hy := y.toNat_lt
    have er : s.readText = (s.take 2).2.take (x.toNat + 256 * y.toNat) := by
      unfold RS.readText RS.number
      simp only [hxy]
      congr 1
      simp only [leInt, leNat, IntKind.wrap_i64]
      omega
    rw [er]
    rw [hxy] at T
    generalize (s.take 2).2 = s' at *
    clear er tl e1 e2 hxy h
    go_enter Try.func35, Try.ntmps35
    go_wp2_with fail
    refine T.out.mono ?_
    rintro e w1 ⟨v1, rfl, hD, hsl⟩
    clear T
    obtain ⟨hl1, A, c, rfl, hnc, hcm, hA, hrd⟩ := hsl
    obtain ⟨b, off, rfl, hb, hcell⟩ := hrd.at_ (k := 0) (by simp [bvs])
    obtain ⟨b', off', e', hb', hcell'⟩ := hrd.at_ (k := 1) (by simp [bvs])
    injection e' with e'
    injection e' with e1 e2
    subst e1 e2
    simp only [bvs, List.map_cons, u8v, List.getElem_cons_zero, Nat.add_zero, List.getElem_cons_succ] at hcell hcell'
    have hw0 : IntKind.i64.wrap (x.toNat : Int) = (x.toNat : Int) := IntWalk.i64_in _ (by omega)
    have hw0' : IntKind.i64.wrap (y.toNat : Int) = (y.toNat : Int) := IntWalk.i64_in _ (by omega)
    have hw1 : IntKind.i64.wrap (256 * (y.toNat : Int)) = 256 * (y.toNat : Int) := IntWalk.i64_in _ (by omega)
    have hw2 : IntKind.i64.wrap ((x.toNat : Int) + 256 * (y.toNat : Int)) = (x.toNat : Int) + 256 * (y.toNat : Int) := IntWalk.i64_in _ (by omega)
    have e3 : ((x.toNat : Int) + 256 * (y.toNat : Int)) = ((x.toNat + 256 * y.toNat : Nat) : Int) := by omega
    have hT2 := fun W (hW : IsX W B g s') => Xtake_any B g (x.toNat + 256 * y.toNat) s' W hW (by omega)
    rw [← e3] at hT2
    have HT2 := Lib.hid hT2
    clear hT2 e3 hA hrd hl1
    go_wp2_with fail
    go_still_tail 11, (by kernel_rfl)
    change wpList _ _ _ _ _ w1.drew
    have hD2 : DidX B g w s' w1.drew := ⟨hD.is.below (Below.drew (Below.refl _ _)), only_drew hD.only⟩
    clear hw0 hw0' hw1 hw2 hcell hcell' hb hb'
    generalize w1.drew = w2 at *
    go_wp2_with fail
    refine (HT2.out _ hD2.is).mono ?_
    rintro e w3 ⟨v3, rfl, hT3⟩
    have cv := conv_str (P := Try.prog) hT3.reads Try.underlying29 Try.underlying5 Try.underlying9
    have D3 := hD2.trans hT3.did
    clear HT2 hT3 hD2 hD
    go_wp2_with fail
    go_ret
    exact ⟨rfl, D3⟩
  · have e1 := take_err s 2 hg
    have er : s.readText = ([], s.cutIf 2) := by
      unfold RS.readText RS.number
      rw [e1]
      simp only
      have : (leInt []).toNat = 0 := rfl
      rw [this]
      have h0 : (RS.cutIf (s.cutIf 2) 0) = s.cutIf 2 := by rw [RS.cutIf, if_neg (by omega)]
      exact (take_err _ _ (by rw [h0]; exact hg)).trans (by rw [h0])
    rw [er]
    rw [e1] at T
    clear er e1 tl h
    go_enter Try.func35, Try.ntmps35
    go_wp2_with fail
    refine T.out.mono ?_
    rintro e w1 ⟨v1, rfl, hD, hsl⟩
    clear T
    obtain ⟨hl1, A, c, rfl, hnc, hcm, hA, hrd⟩ := hsl
    go_wp2_with fail
    go_ret
    exact ⟨rfl, hD⟩
end Go.Proofs.Ytfehhiegnhplhaa
