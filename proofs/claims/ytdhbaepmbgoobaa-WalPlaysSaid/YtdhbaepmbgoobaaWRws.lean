/- rows: are two rows the same? -/
import Derived.Test.YtdhbaepmbgoobaaWLog
import Derived.Test.YtdhbaepmbgoobaaSls
import Derived.Test.YtdhbaepmbgoobaaRegl
namespace Go.Proofs.Ytdhbaepmbgoobaa
open Go.RowKit
set_option linter.unusedVariables false
set_option maxRecDepth 10000
set_option linter.unusedSimpArgs false
set_option linter.unnecessarySimpa false

def RwR (w : World) (na : Nat) (la lb : List (List UInt8)) (i : Value) (wr : World) : Prop := ∃ k : Nat, k ≤ na ∧ i = .int .i64 k ∧ la.take k = lb.take k ∧ Turns [] w wr
set_option maxRecDepth 100000 in
set_option maxHeartbeats 4000000 in
theorem rows_any (w : World) (va vb : Value) (na nb : Nat) (la lb : List (List UInt8)) (ha : Sls w w.heap.size va na la) (hb : Sls w w.heap.size vb nb lb) :
    Calls Try.prog 20 #[va, vb] w fun e w' => e = .returned (.bool (decide (la = lb))) ∧ Turns [] w w' := by
  obtain ⟨Aa, ca, rfl, ha1, ha2⟩ := ha.form
  obtain ⟨Ab, cb, rfl, hb1, hb2⟩ := hb.form
  have hla : la.length = na := by obtain ⟨_, h, _⟩ := ha; exact h
  have hlb : lb.length = nb := by obtain ⟨_, h, _⟩ := hb; exact h
  unfold maxLen at ha2 hb2
  have HA := Lib.hid ha
  have HB := Lib.hid hb
  have HL := Lib.hid (And.intro hla hlb)
  obtain ⟨res, hres⟩ : ∃ r, r = decide (la = lb) := ⟨_, rfl⟩
  rw [← hres]
  have HR := Lib.hid hres
  clear ha hb hla hlb hres
  by_cases hn : na = nb
  · subst hn
    go_enter Try.func20, Try.ntmps20
    go_wp2_with fail
    go_loopw [5] (fun i wr => RwR w na la lb i wr) (fun i _ => na - (intOf i).toNat)
    case atStart => exact ⟨0, by omega, rfl, by simp, Turns.refl _ _⟩
    case round =>
      obtain ⟨k, hk, rfl, htk, tx⟩ := hrel
      by_cases hlt : k < na
      · obtain ⟨b1, o1, c1, n1, A1, l1, ⟨c1', hv1, _⟩, hb1', hc1, hl1, hn1, hs1⟩ := HA.out.get hlt
        obtain ⟨b2, o2, c2, n2, A2, l2, ⟨c2', hv2, _⟩, hb2', hc2, hl2, hn2, hs2⟩ := HB.out.get hlt
        injection hv1 with e1 _ _
        injection hv2 with e2 _ _
        subst e1 e2
        obtain ⟨T1, hT1⟩ : ∃ T, T = strOf l1 := ⟨_, rfl⟩
        obtain ⟨T2, hT2⟩ : ∃ T, T = strOf l2 := ⟨_, rfl⟩
        have hcell1 := cellW tx hc1
        have hcell2 := cellW tx hc2
        have cv1 := Lib.hid fun (W : World) (hS : Turns [] w W) => (hT1 ▸ conv_str (P := Try.prog) (src := 34) (dst := 9) (e := 5) (Turns.slice hS hs1 (Nat.le_refl _) (by simp)) Try.underlying34 Try.underlying5 Try.underlying9 : (convert 34 9 (.slice A1 n1 c1)).run Try.prog W = .ok (.string T1) W)
        have cv2 := Lib.hid fun (W : World) (hS : Turns [] w W) => (hT2 ▸ conv_str (P := Try.prog) (src := 34) (dst := 9) (e := 5) (Turns.slice hS hs2 (Nat.le_refl _) (by simp)) Try.underlying34 Try.underlying5 Try.underlying9 : (convert 34 9 (.slice A2 n2 c2)).run Try.prog W = .ok (.string T2) W)
        have S0 : Turns [] w wr.drew := tx.drew
        have hta : la.take (k + 1) = la.take k ++ [l1] := by rw [List.take_add_one, hl1]; rfl
        have htb : lb.take (k + 1) = lb.take k ++ [l2] := by rw [List.take_add_one, hl2]; rfl
        have HT := Lib.hid (And.intro hta (And.intro htb htk))
        have HTT := Lib.hid (And.intro hT1 hT2)
        have HC := Lib.hid (And.intro hc1 hc2)
        clear hta htb htk hT1 hT2 hs1 hs2 hc1 hc2 hl1 hl2 hn1 hn2 hcell1 hcell2
        by_cases he : l1 = l2
        · subst he
          obtain rfl : T1 = T2 := by rw [HTT.out.1, HTT.out.2]
          have htn : la.take (k + 1) = lb.take (k + 1) := by rw [HT.out.1, HT.out.2.1, HT.out.2.2]
          have HTN := Lib.hid htn
          clear htn
          go_upto_region 6 with fail
          refine reg_begin (fun W => Turns [] w W) (fun _ => True) 11 11 #[false, false, false, false, false, false, false, false, false, false, false] (by kernel_rfl) (by kernel_rfl) (by kernel_rfl) ?_
          refine reg_take 0 17 10 #[true, false, false, false, false, false, false, false, false, false, false] (by rfl) (v := ?_) rfl rfl (by kernel_rfl) (by kernel_rfl) (by kernel_rfl) (by kernel_rfl) (fun _ _ _ h => h) (by rfl) ?_ (Till.mk' S0 trivial) ?_
          rotate_left
          · intro W hS; go_simp; all_goals with_reducible rfl
          try simp only [List.setIfInBounds_toArray, List.set_cons_succ, List.set_cons_zero]
          refine reg_take 1 18 9 #[true, true, false, false, false, false, false, false, false, false, false] (by rfl) (v := ?_) rfl rfl (by kernel_rfl) (by kernel_rfl) (by kernel_rfl) (by kernel_rfl) (fun _ _ _ h => h) (by rfl) ?_ (Till.mk' S0 trivial) ?_
          rotate_left
          · intro W hS; go_simp; all_goals with_reducible rfl
          try simp only [List.setIfInBounds_toArray, List.set_cons_succ, List.set_cons_zero]
          refine reg_take 2 19 8 #[true, true, true, false, false, false, false, false, false, false, false] (by rfl) (v := ?_) rfl rfl (by kernel_rfl) (by kernel_rfl) (by kernel_rfl) (by kernel_rfl) (fun _ _ _ h => h) (by rfl) ?_ (Till.mk' S0 trivial) ?_
          rotate_left
          · intro W hS; go_simp; all_goals with_reducible rfl
          try simp only [List.setIfInBounds_toArray, List.set_cons_succ, List.set_cons_zero]
          refine reg_take 3 20 7 #[true, true, true, true, false, false, false, false, false, false, false] (by rfl) (v := ?_) rfl rfl (by kernel_rfl) (by kernel_rfl) (by kernel_rfl) (by kernel_rfl) (fun _ _ _ h => h) (by rfl) ?_ (Till.mk' S0 trivial) ?_
          rotate_left
          · intro W hS; have c9 := cellW hS HC.out.1; go_simp; all_goals with_reducible rfl
          try simp only [List.setIfInBounds_toArray, List.set_cons_succ, List.set_cons_zero]
          refine reg_take 4 21 6 #[true, true, true, true, true, false, false, false, false, false, false] (by rfl) (v := ?_) rfl rfl (by kernel_rfl) (by kernel_rfl) (by kernel_rfl) (by kernel_rfl) (fun _ _ _ h => h) (by rfl) ?_ (Till.mk' S0 trivial) ?_
          rotate_left
          · intro W hS; have hcv := cv1.out W hS; go_simp; all_goals with_reducible rfl
          try simp only [List.setIfInBounds_toArray, List.set_cons_succ, List.set_cons_zero]
          refine reg_take 5 22 5 #[true, true, true, true, true, true, false, false, false, false, false] (by rfl) (v := ?_) rfl rfl (by kernel_rfl) (by kernel_rfl) (by kernel_rfl) (by kernel_rfl) (fun _ _ _ h => h) (by rfl) ?_ (Till.mk' S0 trivial) ?_
          rotate_left
          · intro W hS; go_simp; all_goals with_reducible rfl
          try simp only [List.setIfInBounds_toArray, List.set_cons_succ, List.set_cons_zero]
          refine reg_take 6 23 4 #[true, true, true, true, true, true, true, false, false, false, false] (by rfl) (v := ?_) rfl rfl (by kernel_rfl) (by kernel_rfl) (by kernel_rfl) (by kernel_rfl) (fun _ _ _ h => h) (by rfl) ?_ (Till.mk' S0 trivial) ?_
          rotate_left
          · intro W hS; go_simp; all_goals with_reducible rfl
          try simp only [List.setIfInBounds_toArray, List.set_cons_succ, List.set_cons_zero]
          refine reg_take 7 24 3 #[true, true, true, true, true, true, true, true, false, false, false] (by rfl) (v := ?_) rfl rfl (by kernel_rfl) (by kernel_rfl) (by kernel_rfl) (by kernel_rfl) (fun _ _ _ h => h) (by rfl) ?_ (Till.mk' S0 trivial) ?_
          rotate_left
          · intro W hS; go_simp; all_goals with_reducible rfl
          try simp only [List.setIfInBounds_toArray, List.set_cons_succ, List.set_cons_zero]
          refine reg_take 8 25 2 #[true, true, true, true, true, true, true, true, true, false, false] (by rfl) (v := ?_) rfl rfl (by kernel_rfl) (by kernel_rfl) (by kernel_rfl) (by kernel_rfl) (fun _ _ _ h => h) (by rfl) ?_ (Till.mk' S0 trivial) ?_
          rotate_left
          · intro W hS; have c9 := cellW hS HC.out.2; go_simp; all_goals with_reducible rfl
          try simp only [List.setIfInBounds_toArray, List.set_cons_succ, List.set_cons_zero]
          refine reg_take 9 26 1 #[true, true, true, true, true, true, true, true, true, true, false] (by rfl) (v := ?_) rfl rfl (by kernel_rfl) (by kernel_rfl) (by kernel_rfl) (by kernel_rfl) (fun _ _ _ h => h) (by rfl) ?_ (Till.mk' S0 trivial) ?_
          rotate_left
          · intro W hS; have hcv := cv2.out W hS; go_simp; all_goals with_reducible rfl
          try simp only [List.setIfInBounds_toArray, List.set_cons_succ, List.set_cons_zero]
          refine reg_take 10 27 0 #[true, true, true, true, true, true, true, true, true, true, true] (by rfl) (v := ?_) rfl rfl (by kernel_rfl) (by kernel_rfl) (by kernel_rfl) (by kernel_rfl) (fun _ _ _ h => h) (by rfl) ?_ (Till.mk' S0 trivial) ?_
          rotate_left
          · intro W hS; go_simp; all_goals with_reducible rfl
          try simp only [List.setIfInBounds_toArray, List.set_cons_succ, List.set_cons_zero]
          refine reg_done (by kernel_rfl) ?_ _
          go_wp2_with fail
          go_roundw
          case rel => exact ⟨k + 1, by omega, by go_num, HTN.out, by assumption⟩
          case measure => (simp [intOf] <;> omega)
        · have hne : (T1.toList == T2.toList) = false := by
            rw [HTT.out.1, HTT.out.2, strOf_toList, strOf_toList]
            simpa using he
          have hf : res = false := by
            rw [HR.out]
            refine decide_eq_false fun h => he ?_
            have h1 := HT.out.1
            have h2 := HT.out.2.1
            rw [h, h2, ← h, HT.out.2.2] at h1
            simpa using h1.symm
          go_upto_region 6 with fail
          refine reg_begin (fun W => Turns [] w W) (fun _ => True) 11 11 #[false, false, false, false, false, false, false, false, false, false, false] (by kernel_rfl) (by kernel_rfl) (by kernel_rfl) ?_
          refine reg_take 0 17 10 #[true, false, false, false, false, false, false, false, false, false, false] (by rfl) (v := ?_) rfl rfl (by kernel_rfl) (by kernel_rfl) (by kernel_rfl) (by kernel_rfl) (fun _ _ _ h => h) (by rfl) ?_ (Till.mk' S0 trivial) ?_
          rotate_left
          · intro W hS; go_simp; all_goals with_reducible rfl
          try simp only [List.setIfInBounds_toArray, List.set_cons_succ, List.set_cons_zero]
          refine reg_take 1 18 9 #[true, true, false, false, false, false, false, false, false, false, false] (by rfl) (v := ?_) rfl rfl (by kernel_rfl) (by kernel_rfl) (by kernel_rfl) (by kernel_rfl) (fun _ _ _ h => h) (by rfl) ?_ (Till.mk' S0 trivial) ?_
          rotate_left
          · intro W hS; go_simp; all_goals with_reducible rfl
          try simp only [List.setIfInBounds_toArray, List.set_cons_succ, List.set_cons_zero]
          refine reg_take 2 19 8 #[true, true, true, false, false, false, false, false, false, false, false] (by rfl) (v := ?_) rfl rfl (by kernel_rfl) (by kernel_rfl) (by kernel_rfl) (by kernel_rfl) (fun _ _ _ h => h) (by rfl) ?_ (Till.mk' S0 trivial) ?_
          rotate_left
          · intro W hS; go_simp; all_goals with_reducible rfl
          try simp only [List.setIfInBounds_toArray, List.set_cons_succ, List.set_cons_zero]
          refine reg_take 3 20 7 #[true, true, true, true, false, false, false, false, false, false, false] (by rfl) (v := ?_) rfl rfl (by kernel_rfl) (by kernel_rfl) (by kernel_rfl) (by kernel_rfl) (fun _ _ _ h => h) (by rfl) ?_ (Till.mk' S0 trivial) ?_
          rotate_left
          · intro W hS; have c9 := cellW hS HC.out.1; go_simp; all_goals with_reducible rfl
          try simp only [List.setIfInBounds_toArray, List.set_cons_succ, List.set_cons_zero]
          refine reg_take 4 21 6 #[true, true, true, true, true, false, false, false, false, false, false] (by rfl) (v := ?_) rfl rfl (by kernel_rfl) (by kernel_rfl) (by kernel_rfl) (by kernel_rfl) (fun _ _ _ h => h) (by rfl) ?_ (Till.mk' S0 trivial) ?_
          rotate_left
          · intro W hS; have hcv := cv1.out W hS; go_simp; all_goals with_reducible rfl
          try simp only [List.setIfInBounds_toArray, List.set_cons_succ, List.set_cons_zero]
          refine reg_take 5 22 5 #[true, true, true, true, true, true, false, false, false, false, false] (by rfl) (v := ?_) rfl rfl (by kernel_rfl) (by kernel_rfl) (by kernel_rfl) (by kernel_rfl) (fun _ _ _ h => h) (by rfl) ?_ (Till.mk' S0 trivial) ?_
          rotate_left
          · intro W hS; go_simp; all_goals with_reducible rfl
          try simp only [List.setIfInBounds_toArray, List.set_cons_succ, List.set_cons_zero]
          refine reg_take 6 23 4 #[true, true, true, true, true, true, true, false, false, false, false] (by rfl) (v := ?_) rfl rfl (by kernel_rfl) (by kernel_rfl) (by kernel_rfl) (by kernel_rfl) (fun _ _ _ h => h) (by rfl) ?_ (Till.mk' S0 trivial) ?_
          rotate_left
          · intro W hS; go_simp; all_goals with_reducible rfl
          try simp only [List.setIfInBounds_toArray, List.set_cons_succ, List.set_cons_zero]
          refine reg_take 7 24 3 #[true, true, true, true, true, true, true, true, false, false, false] (by rfl) (v := ?_) rfl rfl (by kernel_rfl) (by kernel_rfl) (by kernel_rfl) (by kernel_rfl) (fun _ _ _ h => h) (by rfl) ?_ (Till.mk' S0 trivial) ?_
          rotate_left
          · intro W hS; go_simp; all_goals with_reducible rfl
          try simp only [List.setIfInBounds_toArray, List.set_cons_succ, List.set_cons_zero]
          refine reg_take 8 25 2 #[true, true, true, true, true, true, true, true, true, false, false] (by rfl) (v := ?_) rfl rfl (by kernel_rfl) (by kernel_rfl) (by kernel_rfl) (by kernel_rfl) (fun _ _ _ h => h) (by rfl) ?_ (Till.mk' S0 trivial) ?_
          rotate_left
          · intro W hS; have c9 := cellW hS HC.out.2; go_simp; all_goals with_reducible rfl
          try simp only [List.setIfInBounds_toArray, List.set_cons_succ, List.set_cons_zero]
          refine reg_take 9 26 1 #[true, true, true, true, true, true, true, true, true, true, false] (by rfl) (v := ?_) rfl rfl (by kernel_rfl) (by kernel_rfl) (by kernel_rfl) (by kernel_rfl) (fun _ _ _ h => h) (by rfl) ?_ (Till.mk' S0 trivial) ?_
          rotate_left
          · intro W hS; have hcv := cv2.out W hS; go_simp; all_goals with_reducible rfl
          try simp only [List.setIfInBounds_toArray, List.set_cons_succ, List.set_cons_zero]
          refine reg_take 10 27 0 #[true, true, true, true, true, true, true, true, true, true, true] (by rfl) (v := ?_) rfl rfl (by kernel_rfl) (by kernel_rfl) (by kernel_rfl) (by kernel_rfl) (fun _ _ _ h => h) (by rfl) ?_ (Till.mk' S0 trivial) ?_
          rotate_left
          · intro W hS; go_simp; all_goals with_reducible rfl
          try simp only [List.setIfInBounds_toArray, List.set_cons_succ, List.set_cons_zero]
          refine reg_done (by kernel_rfl) ?_ _
          go_wp2_with fail
          subst hf
          go_ret
          exact ⟨rfl, by assumption⟩
      · obtain rfl : k = na := by omega
        have ht : res = true := by
          rw [HR.out]
          rw [List.take_of_length_le (by have := HL.out.1; omega), List.take_of_length_le (by have := HL.out.2; omega)] at htk
          exact decide_eq_true htk
        have HTX := Lib.hid tx
        clear htk tx
        go_wp2_with fail
        subst ht
        go_ret
        exact ⟨rfl, HTX.out⟩
  · have hf : res = false := by
      rw [HR.out]
      refine decide_eq_false fun h => hn ?_
      rw [← HL.out.1, ← HL.out.2, h]
    have hnI : ¬ ((na : Int) = (nb : Int)) := by omega
    go_enter Try.func20, Try.ntmps20
    go_wp2_with fail
    subst hf
    go_ret
    exact ⟨rfl, Turns.refl _ _⟩
end Go.Proofs.Ytdhbaepmbgoobaa
