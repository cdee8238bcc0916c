/- ShaSums, walked. -/
import Derived.Test.YtibolcekhdapaaaSParts
namespace Go.Proofs.Ytibolcekhdapaaa
open Go.RowKit
set_option linter.unusedVariables false
set_option maxRecDepth 10000
set_option linter.unusedSimpArgs false
set_option linter.unnecessarySimpa false

/-- What the loop holds. -/
def SumW (w0 wr : World) (ps : List (Value × List UInt8)) (k : Nat) (v : Value) : Prop := ∃ A m c, v = .slice A m c ∧ Mine w0 wr (.slice A m c) (flat (ps.take k)) ∧ m = (flat (ps.take k)).length ∧ m ≤ 200 * k
set_option maxRecDepth 100000 in
set_option maxHeartbeats 4000000 in
theorem ShaSums_walk (A : Option Addr) (n c : Nat) (ps : List (Value × List UInt8)) (cut : Int) (h : List UInt8) (w : World) (hpn : ps.length = n) (hv : Sl w w.heap.size 1 (.slice A n c) n (ps.map (·.1))) (hp : ∀ p ∈ ps, Sl w w.heap.size 1 p.1 p.2.length (bvs p.2)) (hc1 : -9223372036854775808 ≤ cut ∧ cut ≤ 9223372036854775807) (hh : h.length = 32) :
    Calls Try.prog 3 #[.slice A n c, .int .i64 cut, .agg (bvs h).toArray] w fun e w' => e = .returned (.bool true) ∧ Below w.heap.size w w' := by
  obtain ⟨X0, hX0⟩ : ∃ x, x = w.alloc (.cells (bvs h).toArray 24) := ⟨_, rfl⟩
  have b1 := Blk.new w (bvs h) 24
  have tx := (Turns.refl [] w).alloc (.cells (bvs h).toArray 24)
  rw [← hX0] at b1 tx
  obtain ⟨p1, hp1⟩ : ∃ q, q = w.heap.size := ⟨_, rfl⟩
  have KN := Lib.hid (known_any X0)
  have HX := Lib.hid hX0
  have HP := Lib.hid hp1
  have hs32 := Lib.hid (show (Try.prog.info? 24).map (·.size) = some (bvs h).length by rw [size_hash, bvs_length, hh])
  have H0 := Lib.hid (And.intro (show Blk X0 p1 (bvs h) 24 by rw [hp1]; exact b1) (And.intro tx hh))
  have HV := Lib.hid (And.intro hv (And.intro hp hpn))
  have HC := Lib.hid hc1
  clear b1 tx hX0 hp1 hv hp hpn hc1
  by_cases h10 : 10 < n
  · have h1i : (10 : Int) < (n : Int) := by omega
    clear h10
    go_enter Try.func3, Try.ntmps3
    go_upto_region 1 with fail
    rw [← HX.out, ← HP.out]
    go_wp2_with fail
    refine KN.out.mono ?_
    rintro e w1 ⟨rfl, t1⟩
    have HT := Lib.hid (below_of (H0.out.2.1.trans t1 (by simp)))
    clear t1
    go_wp2_with fail
    go_ret
    exact ⟨rfl, HT.out⟩
  have h1i : ¬ (10 : Int) < (n : Int) := by omega
  have HN := Lib.hid h10
  clear h10
  go_enter Try.func3, Try.ntmps3
  go_upto_region 1 with fail
  rw [← HX.out, ← HP.out]
  go_wp2_with fail
  refine KN.out.mono ?_
  rintro e w1 ⟨rfl, t1⟩
  have v1 := Lib.hid (H0.out.1.turns t1 (by simp))
  have HT1 := Lib.hid (H0.out.2.1.trans t1 (by simp))
  clear t1 KN
  go_wp2_with fail
  go_loopw [7, 8] (fun v i wr => ∃ k : Nat, k ≤ n ∧ i = .int .i64 k ∧ SumW w1 wr ps k v) (fun _ i _ => n - (intOf i).toNat)
  case atStart => exact ⟨0, by omega, rfl, none, 0, 0, rfl, Mine.nil (Turns.refl _ _), rfl, by omega⟩
  case round =>
    obtain ⟨k, hk, rfl, A3, m, c3, rfl, mk, hm, hm2⟩ := hrel
    have TK := Lib.hid (HT1.out.trans mk.turns (by simp))
    have VK := Lib.hid (v1.out.turns mk.turns (by simp))
    by_cases hlt : k < n
    · have hki : (k : Int) < (n : Int) := by omega
      obtain ⟨b, off, u, rfl, _, hu, cb⟩ := (HV.out.1.below_le (below_of TK.out) (Nat.le_refl _)).cell1 hlt
      have hkl : k < ps.length := by rw [HV.out.2.2]; exact hlt
      have hpk := HV.out.2.1 _ (List.getElem_mem hkl)
      obtain rfl : u = ps[k].1 := by rw [List.getElem?_map, List.getElem?_eq_getElem hkl] at hu; injection hu with hu; exact hu.symm
      have hfs := flat_snoc ps k hkl
      obtain ⟨p, hpe⟩ : ∃ p, p = ps[k] := ⟨_, rfl⟩
      rw [← hpe] at hpk cb hfs
      obtain ⟨pv, pl⟩ := p
      obtain ⟨Ak, ck, hpv, _, _⟩ := hpk.form
      simp only at hpv hpk cb hfs
      subst hpv
      have hpr := hpk.below_le (below_of TK.out) (Nat.le_refl _)
      by_cases h200 : 200 < pl.length
      · have h2i : (200 : Int) < (pl.length : Int) := by omega
        clear mk hm hm2 hlt hk hu hkl hpk hfs hpe hpr h200
        go_wp2_with fail
        go_ret
        exact ⟨rfl, below_of TK.out⟩
      · have h2i : ¬ (200 : Int) < (pl.length : Int) := by omega
        obtain ⟨v9, w9, hr9, m9⟩ := mine_append mk hpr (by rw [← hm]; have := HN.out; omega) 26
        rw [← hfs] at m9
        obtain ⟨A9, c9, rfl, _⟩ := m9.len
        have hl9 : (flat (ps.take (k + 1))).length = m + pl.length := by rw [hfs, List.length_append, ← hm]
        have M9 := Lib.hid (show SumW w1 w9 ps (k + 1) (.slice A9 (flat (ps.take (k + 1))).length c9) from ⟨A9, _, c9, rfl, m9, rfl, by rw [hl9]; omega⟩)
        clear mk hm hm2 hlt hk hu hkl hpk hfs hpe hpr h200 m9 hl9
        go_wp2_with (first
          | (at_builtin; refine wpList_append_at rfl (.tmp 27) (.tmp 31) rfl hr9 rfl rfl ?_)
          | fail)
        go_roundw
        case rel => exact ⟨k + 1, by omega, by go_num, M9.out⟩
        case measure => (simp [intOf] <;> omega)
    · obtain rfl : k = n := by omega
      rw [List.take_of_length_le (by rw [HV.out.2.2]; omega)] at mk hm
      obtain ⟨bs, hbs⟩ : ∃ bs, bs = flat ps := ⟨_, rfl⟩
      rw [← hbs] at mk hm
      have hmi : (m : Int) ≤ 2000 := by have := HN.out; omega
      obtain ⟨q, hq⟩ : ∃ x : Nat, (x : Int) = cut % ((m : Int) + 1) := ⟨(cut % ((m : Int) + 1)).toNat, by have := Int.emod_nonneg cut (show (m : Int) + 1 ≠ 0 by omega); omega⟩
      have hqm : q ≤ m := by have := Int.emod_lt_of_pos cut (show 0 < (m : Int) + 1 by omega); omega
      have hsl : Sl wr wr.heap.size 1 (.slice A3 m c3) m (bvs bs) := by have := mk.sl; rwa [← hm] at this
      obtain ⟨_, _, hv3, hmc, hcm⟩ := hsl.form
      injection hv3 with e1 e2 e3
      subst e3
      clear e1 e2
      have HQ := Lib.hid (And.intro hq (And.intro hqm (And.intro hm (And.intro hmc hbs.symm))))
      have HSL := Lib.hid hsl
      clear hq hqm hm hbs mk hsl hlt hk hm2 hmc hcm
      go_wp2_with fail
      refine (within_any cut ((m : Int) + 1) wr HC.out.1 HC.out.2 (by omega) (by omega)).mono ?_
      rintro e w5 ⟨rfl, rfl⟩
      rw [← HQ.out.1]
      go_upto_region 13 with fail
      obtain ⟨Y, hY⟩ : ∃ q, q = wr.drew := ⟨_, rfl⟩
      have tWY : Turns [] wr Y := by rw [hY]; exact (Turns.refl _ _).drew
      have HY := Lib.hid hY
      have S0 : Turns [] Y Y := Turns.refl _ _
      have TY := Lib.hid (TK.out.trans tWY (by simp))
      have hlY := tWY.slice HSL.out (Nat.le_refl _) (by simp)
      have HLY := Lib.hid (hlY.more tWY.size)
      have hvY := HV.out.1.below_le (below_of TY.out) (Nat.le_refl _)
      have hpY := fun p hp => (HV.out.2.1 p hp).below_le (below_of TY.out) (Nat.le_refl _)
      have HVY := Lib.hid (And.intro (hvY.more TY.out.size) (show ∀ p ∈ ps, Sl Y Y.heap.size 1 p.1 p.2.length (bvs p.2) from fun p hp => (hpY p hp).more TY.out.size))
      have r1 := (VK.out.turns tWY (by simp)).range 0 32
      rw [List.drop_zero, List.take_of_length_le (by rw [bvs_length, hh]; omega)] at r1
      have HR := Lib.hid r1
      have hst := sl_off HLY.out HQ.out.2.1
      rw [bvs_drop] at hst
      have hto := HLY.out.to HQ.out.2.1
      rw [bvs_take] at hto
      have hbl : bs.length = m := HQ.out.2.2.1.symm
      have HL2 := Lib.hid (And.intro hto (And.intro hst (And.intro hbl (show bs.take q ++ bs.drop q = bs from List.take_append_drop q bs))))
      have hr1 := run_to A3 m c3 q HQ.out.2.1 HQ.out.2.2.2.1
      have hr2 := run_off A3 m c3 q HQ.out.2.1 HQ.out.2.2.2.1
      have eq1 := eqlS (sha bs) (sha_len bs)
      clear hY tWY hlY hvY hpY r1 hst hto hbl
      refine reg_begin (fun W => Turns [] Y W) (fun _ => True) 34 34 #[false, false, false, false, false, false, false, false, false, false, false, false, false, false, false, false, false, false, false, false, false, false, false, false, false, false, false, false, false, false, false, false, false, false] (by kernel_rfl) (by kernel_rfl) (by kernel_rfl) ?_
      rw [← HY.out]
      refine reg_take 0 38 33 #[true, false, false, false, false, false, false, false, false, false, false, false, false, false, false, false, false, false, false, false, false, false, false, false, false, false, false, false, false, false, false, false, false, false] (by rfl) (v := ?_) rfl rfl (by kernel_rfl) (by kernel_rfl) (by kernel_rfl) (by kernel_rfl) (fun _ _ _ h => h) (by rfl) ?_ (Till.mk' S0 trivial) ?_
      rotate_left
      · intro W hS; go_simp; all_goals with_reducible rfl
      try simp only [List.setIfInBounds_toArray, List.set_cons_succ, List.set_cons_zero]
      refine reg_take 2 40 32 #[true, false, true, false, false, false, false, false, false, false, false, false, false, false, false, false, false, false, false, false, false, false, false, false, false, false, false, false, false, false, false, false, false, false] (by rfl) (v := ?_) rfl rfl (by kernel_rfl) (by kernel_rfl) (by kernel_rfl) (by kernel_rfl) (fun _ _ _ h => h) (by rfl) ?_ (Till.mk' S0 trivial) ?_
      rotate_left
      · intro W hS; go_simp; all_goals with_reducible rfl
      try simp only [List.setIfInBounds_toArray, List.set_cons_succ, List.set_cons_zero]
      refine reg_one 1 31 #[true, true, true, false, false, false, false, false, false, false, false, false, false, false, false, false, false, false, false, false, false, false, false, false, false, false, false, false, false, false, false, false, false, false] (by kernel_rfl) rfl (by rfl) (by kernel_rfl) (fun K hK => ?_)
      go_simp
      refine (Sum_any _ ps Y (by rw [HV.out.2.2]; exact ((S0).slice HVY.out.1 (Nat.le_refl _) (by simp) |>.more S0.size)) (fun p hp => ((S0).slice (HVY.out.2 p hp) (Nat.le_refl _) (by simp) |>.more S0.size)) (by rw [HQ.out.2.2.2.2, HL2.out.2.2.1]; have := HN.out; omega) (by rw [HV.out.2.2]; have := HN.out; omega)).mono ?_
      rintro e X1 ⟨rfl, D1⟩
      rw [HQ.out.2.2.2.2]
      refine hK _ _ (Till.mk' (S0.trans D1 (by simp)) trivial) ?_
      clear hK K
      try simp only [List.setIfInBounds_toArray, List.set_cons_succ, List.set_cons_zero]
      refine reg_one 3 30 #[true, true, true, true, false, false, false, false, false, false, false, false, false, false, false, false, false, false, false, false, false, false, false, false, false, false, false, false, false, false, false, false, false, false] (by kernel_rfl) rfl (by rfl) (by kernel_rfl) (fun K hK => ?_)
      go_simp
      refine (refSum_any A3 m c3 Y.heap.size bs X1 ((S0.trans D1 (by simp)).slice HLY.out (Nat.le_refl _) (by simp)) (S0.trans D1 (by simp)).size (by rw [HL2.out.2.2.1]; have := HN.out; omega)).mono ?_
      rintro e X3 ⟨rfl, D3⟩
      refine hK _ _ (Till.mk' ((S0.trans D1 (by simp)).trans D3 (by simp)) trivial) ?_
      clear hK K
      try simp only [List.setIfInBounds_toArray, List.set_cons_succ, List.set_cons_zero]
      refine reg_take 4 42 29 #[true, true, true, true, true, false, false, false, false, false, false, false, false, false, false, false, false, false, false, false, false, false, false, false, false, false, false, false, false, false, false, false, false, false] (by rfl) (v := ?_) rfl rfl (by kernel_rfl) (by kernel_rfl) (by kernel_rfl) (by kernel_rfl) (fun _ _ _ h => h) (by rfl) ?_ (Till.mk' ((S0.trans D1 (by simp)).trans D3 (by simp)) trivial) ?_
      rotate_left
      · intro W hS; go_simp; all_goals with_reducible rfl
      try simp only [List.setIfInBounds_toArray, List.set_cons_succ, List.set_cons_zero]
      refine reg_take 5 43 28 #[true, true, true, true, true, true, false, false, false, false, false, false, false, false, false, false, false, false, false, false, false, false, false, false, false, false, false, false, false, false, false, false, false, false] (by rfl) (v := ?_) rfl rfl (by kernel_rfl) (by kernel_rfl) (by kernel_rfl) (by kernel_rfl) (fun _ _ _ h => h) (by rfl) ?_ (Till.mk' ((S0.trans D1 (by simp)).trans D3 (by simp)) trivial) ?_
      rotate_left
      · intro W hS; go_simp; all_goals with_reducible rfl
      try simp only [List.setIfInBounds_toArray, List.set_cons_succ, List.set_cons_zero]
      refine reg_take 6 44 27 #[true, true, true, true, true, true, true, false, false, false, false, false, false, false, false, false, false, false, false, false, false, false, false, false, false, false, false, false, false, false, false, false, false, false] (by rfl) (v := ?_) rfl rfl (by kernel_rfl) (by kernel_rfl) (by kernel_rfl) (by kernel_rfl) (fun _ _ _ h => h) (by rfl) ?_ (Till.mk' ((S0.trans D1 (by simp)).trans D3 (by simp)) trivial) ?_
      rotate_left
      · intro W hS; go_simp; all_goals with_reducible rfl
      try simp only [List.setIfInBounds_toArray, List.set_cons_succ, List.set_cons_zero]
      refine reg_take 7 45 26 #[true, true, true, true, true, true, true, true, false, false, false, false, false, false, false, false, false, false, false, false, false, false, false, false, false, false, false, false, false, false, false, false, false, false] (by rfl) (v := ?_) rfl rfl (by kernel_rfl) (by kernel_rfl) (by kernel_rfl) (by kernel_rfl) (fun _ _ _ h => h) (by rfl) ?_ (Till.mk' ((S0.trans D1 (by simp)).trans D3 (by simp)) trivial) ?_
      rotate_left
      · intro W hS; go_simp; all_goals with_reducible rfl
      try simp only [List.setIfInBounds_toArray, List.set_cons_succ, List.set_cons_zero]
      refine reg_take 8 46 25 #[true, true, true, true, true, true, true, true, true, false, false, false, false, false, false, false, false, false, false, false, false, false, false, false, false, false, false, false, false, false, false, false, false, false] (by rfl) (v := ?_) rfl rfl (by kernel_rfl) (by kernel_rfl) (by kernel_rfl) (by kernel_rfl) (fun _ _ _ h => h) (by rfl) ?_ (Till.mk' ((S0.trans D1 (by simp)).trans D3 (by simp)) trivial) ?_
      rotate_left
      · intro W hS; go_simp; all_goals with_reducible rfl
      try simp only [List.setIfInBounds_toArray, List.set_cons_succ, List.set_cons_zero]
      refine reg_take 9 47 24 #[true, true, true, true, true, true, true, true, true, true, false, false, false, false, false, false, false, false, false, false, false, false, false, false, false, false, false, false, false, false, false, false, false, false] (by rfl) (v := ?_) rfl rfl (by kernel_rfl) (by kernel_rfl) (by kernel_rfl) (by kernel_rfl) (fun _ _ _ h => h) (by rfl) ?_ (Till.mk' ((S0.trans D1 (by simp)).trans D3 (by simp)) trivial) ?_
      rotate_left
      · intro W hS; go_simp; all_goals with_reducible rfl
      try simp only [List.setIfInBounds_toArray, List.set_cons_succ, List.set_cons_zero]
      refine reg_take 10 48 23 #[true, true, true, true, true, true, true, true, true, true, true, false, false, false, false, false, false, false, false, false, false, false, false, false, false, false, false, false, false, false, false, false, false, false] (by rfl) (v := ?_) rfl rfl (by kernel_rfl) (by kernel_rfl) (by kernel_rfl) (by kernel_rfl) (fun _ _ _ h => h) (by rfl) ?_ (Till.mk' ((S0.trans D1 (by simp)).trans D3 (by simp)) trivial) ?_
      rotate_left
      · intro W hS; go_simp; all_goals with_reducible rfl
      try simp only [List.setIfInBounds_toArray, List.set_cons_succ, List.set_cons_zero]
      refine reg_take 11 49 22 #[true, true, true, true, true, true, true, true, true, true, true, true, false, false, false, false, false, false, false, false, false, false, false, false, false, false, false, false, false, false, false, false, false, false] (by rfl) (v := ?_) rfl rfl (by kernel_rfl) (by kernel_rfl) (by kernel_rfl) (by kernel_rfl) (fun _ _ _ h => h) (by rfl) ?_ (Till.mk' ((S0.trans D1 (by simp)).trans D3 (by simp)) trivial) ?_
      rotate_left
      · intro W hS; go_simp; all_goals with_reducible rfl
      try simp only [List.setIfInBounds_toArray, List.set_cons_succ, List.set_cons_zero]
      refine reg_take 14 52 21 #[true, true, true, true, true, true, true, true, true, true, true, true, false, false, true, false, false, false, false, false, false, false, false, false, false, false, false, false, false, false, false, false, false, false] (by rfl) (v := ?_) rfl rfl (by kernel_rfl) (by kernel_rfl) (by kernel_rfl) (by kernel_rfl) (fun _ _ _ h => h) (by rfl) ?_ (Till.mk' ((S0.trans D1 (by simp)).trans D3 (by simp)) trivial) ?_
      rotate_left
      · intro W hS; go_simp; all_goals with_reducible rfl
      try simp only [List.setIfInBounds_toArray, List.set_cons_succ, List.set_cons_zero]
      refine reg_one 12 20 #[true, true, true, true, true, true, true, true, true, true, true, true, true, false, true, false, false, false, false, false, false, false, false, false, false, false, false, false, false, false, false, false, false, false] (by kernel_rfl) rfl (by rfl) (by kernel_rfl) (fun K hK => ?_)
      go_simp
      refine hK _ _ (Till.mk' (((S0.trans D1 (by simp)).trans D3 (by simp)).alloc _) trivial) ?_
      clear hK K
      try simp only [List.setIfInBounds_toArray, List.set_cons_succ, List.set_cons_zero]
      refine reg_one 13 19 #[true, true, true, true, true, true, true, true, true, true, true, true, true, true, true, false, false, false, false, false, false, false, false, false, false, false, false, false, false, false, false, false, false, false] (by kernel_rfl) rfl (by rfl) (by kernel_rfl) (fun K hK => ?_)
      go_simp
      refine (Sum_two _ _ (bs.take q) (bs.drop q) X3 (by first | exact Sl.nil | (rw [show (bs.take q).length = q by rw [List.length_take, HL2.out.2.2.1]; have := HQ.out.2.1; omega]; exact ((((S0.trans D1 (by simp)).trans D3 (by simp))).slice HL2.out.1 (Nat.le_refl _) (by simp) |>.more ((S0.trans D1 (by simp)).trans D3 (by simp)).size))) (by first | exact Sl.nil | (rw [show (bs.drop q).length = m - q by rw [List.length_drop, HL2.out.2.2.1]]; exact ((((S0.trans D1 (by simp)).trans D3 (by simp))).slice HL2.out.2.1 (Nat.le_refl _) (by simp) |>.more ((S0.trans D1 (by simp)).trans D3 (by simp)).size))) (by rw [List.length_take, List.length_drop, HL2.out.2.2.1]; have := HN.out; omega)).mono ?_
      rintro e X13 ⟨rfl, D13⟩
      rw [HL2.out.2.2.2]
      refine hK _ _ (Till.mk' (((S0.trans D1 (by simp)).trans D3 (by simp)).trans D13 (by simp)) trivial) ?_
      clear hK K
      try simp only [List.setIfInBounds_toArray, List.set_cons_succ, List.set_cons_zero]
      refine reg_one 15 18 #[true, true, true, true, true, true, true, true, true, true, true, true, true, true, true, true, false, false, false, false, false, false, false, false, false, false, false, false, false, false, false, false, false, false] (by kernel_rfl) rfl (by rfl) (by kernel_rfl) (fun K hK => ?_)
      go_simp
      refine (refSum_any A3 m c3 Y.heap.size bs X13 ((((S0.trans D1 (by simp)).trans D3 (by simp)).trans D13 (by simp)).slice HLY.out (Nat.le_refl _) (by simp)) (((S0.trans D1 (by simp)).trans D3 (by simp)).trans D13 (by simp)).size (by rw [HL2.out.2.2.1]; have := HN.out; omega)).mono ?_
      rintro e X15 ⟨rfl, D15⟩
      refine hK _ _ (Till.mk' ((((S0.trans D1 (by simp)).trans D3 (by simp)).trans D13 (by simp)).trans D15 (by simp)) trivial) ?_
      clear hK K
      try simp only [List.setIfInBounds_toArray, List.set_cons_succ, List.set_cons_zero]
      refine reg_take 16 54 17 #[true, true, true, true, true, true, true, true, true, true, true, true, true, true, true, true, true, false, false, false, false, false, false, false, false, false, false, false, false, false, false, false, false, false] (by rfl) (v := ?_) rfl rfl (by kernel_rfl) (by kernel_rfl) (by kernel_rfl) (by kernel_rfl) (fun _ _ _ h => h) (by rfl) ?_ (Till.mk' ((((S0.trans D1 (by simp)).trans D3 (by simp)).trans D13 (by simp)).trans D15 (by simp)) trivial) ?_
      rotate_left
      · intro W hS; go_simp; all_goals with_reducible rfl
      try simp only [List.setIfInBounds_toArray, List.set_cons_succ, List.set_cons_zero]
      refine reg_take 17 55 16 #[true, true, true, true, true, true, true, true, true, true, true, true, true, true, true, true, true, true, false, false, false, false, false, false, false, false, false, false, false, false, false, false, false, false] (by rfl) (v := ?_) rfl rfl (by kernel_rfl) (by kernel_rfl) (by kernel_rfl) (by kernel_rfl) (fun _ _ _ h => h) (by rfl) ?_ (Till.mk' ((((S0.trans D1 (by simp)).trans D3 (by simp)).trans D13 (by simp)).trans D15 (by simp)) trivial) ?_
      rotate_left
      · intro W hS; go_simp; all_goals with_reducible rfl
      try simp only [List.setIfInBounds_toArray, List.set_cons_succ, List.set_cons_zero]
      refine reg_take 18 56 15 #[true, true, true, true, true, true, true, true, true, true, true, true, true, true, true, true, true, true, true, false, false, false, false, false, false, false, false, false, false, false, false, false, false, false] (by rfl) (v := ?_) rfl rfl (by kernel_rfl) (by kernel_rfl) (by kernel_rfl) (by kernel_rfl) (fun _ _ _ h => h) (by rfl) ?_ (Till.mk' ((((S0.trans D1 (by simp)).trans D3 (by simp)).trans D13 (by simp)).trans D15 (by simp)) trivial) ?_
      rotate_left
      · intro W hS; go_simp; all_goals with_reducible rfl
      try simp only [List.setIfInBounds_toArray, List.set_cons_succ, List.set_cons_zero]
      refine reg_take 19 57 14 #[true, true, true, true, true, true, true, true, true, true, true, true, true, true, true, true, true, true, true, true, false, false, false, false, false, false, false, false, false, false, false, false, false, false] (by rfl) (v := ?_) rfl rfl (by kernel_rfl) (by kernel_rfl) (by kernel_rfl) (by kernel_rfl) (fun _ _ _ h => h) (by rfl) ?_ (Till.mk' ((((S0.trans D1 (by simp)).trans D3 (by simp)).trans D13 (by simp)).trans D15 (by simp)) trivial) ?_
      rotate_left
      · intro W hS; go_simp; all_goals with_reducible rfl
      try simp only [List.setIfInBounds_toArray, List.set_cons_succ, List.set_cons_zero]
      refine reg_take 22 60 13 #[true, true, true, true, true, true, true, true, true, true, true, true, true, true, true, true, true, true, true, true, false, false, true, false, false, false, false, false, false, false, false, false, false, false] (by rfl) (v := ?_) rfl rfl (by kernel_rfl) (by kernel_rfl) (by kernel_rfl) (by kernel_rfl) (fun _ _ _ h => h) (by rfl) ?_ (Till.mk' ((((S0.trans D1 (by simp)).trans D3 (by simp)).trans D13 (by simp)).trans D15 (by simp)) trivial) ?_
      rotate_left
      · intro W hS; go_simp; all_goals with_reducible rfl
      try simp only [List.setIfInBounds_toArray, List.set_cons_succ, List.set_cons_zero]
      refine reg_one 20 12 #[true, true, true, true, true, true, true, true, true, true, true, true, true, true, true, true, true, true, true, true, true, false, true, false, false, false, false, false, false, false, false, false, false, false] (by kernel_rfl) rfl (by rfl) (by kernel_rfl) (fun K hK => ?_)
      go_simp
      refine hK _ _ (Till.mk' (((((S0.trans D1 (by simp)).trans D3 (by simp)).trans D13 (by simp)).trans D15 (by simp)).alloc _) trivial) ?_
      clear hK K
      try simp only [List.setIfInBounds_toArray, List.set_cons_succ, List.set_cons_zero]
      refine reg_one 21 11 #[true, true, true, true, true, true, true, true, true, true, true, true, true, true, true, true, true, true, true, true, true, true, true, false, false, false, false, false, false, false, false, false, false, false] (by kernel_rfl) rfl (by rfl) (by kernel_rfl) (fun K hK => ?_)
      go_simp
      refine (Sum_two _ _ bs [] X15 (by first | exact Sl.nil | (rw [HL2.out.2.2.1]; exact ((((((S0.trans D1 (by simp)).trans D3 (by simp)).trans D13 (by simp)).trans D15 (by simp))).slice HLY.out (Nat.le_refl _) (by simp) |>.more ((((S0.trans D1 (by simp)).trans D3 (by simp)).trans D13 (by simp)).trans D15 (by simp)).size))) (by first | exact Sl.nil | (rw [rfl]; exact ((((((S0.trans D1 (by simp)).trans D3 (by simp)).trans D13 (by simp)).trans D15 (by simp))).slice Sl.nil (Nat.le_refl _) (by simp) |>.more ((((S0.trans D1 (by simp)).trans D3 (by simp)).trans D13 (by simp)).trans D15 (by simp)).size))) (by rw [HL2.out.2.2.1]; simp; have := HN.out; omega)).mono ?_
      rintro e X21 ⟨rfl, D21⟩
      rw [List.append_nil]
      refine hK _ _ (Till.mk' (((((S0.trans D1 (by simp)).trans D3 (by simp)).trans D13 (by simp)).trans D15 (by simp)).trans D21 (by simp)) trivial) ?_
      clear hK K
      try simp only [List.setIfInBounds_toArray, List.set_cons_succ, List.set_cons_zero]
      refine reg_one 23 10 #[true, true, true, true, true, true, true, true, true, true, true, true, true, true, true, true, true, true, true, true, true, true, true, true, false, false, false, false, false, false, false, false, false, false] (by kernel_rfl) rfl (by rfl) (by kernel_rfl) (fun K hK => ?_)
      go_simp
      refine (refSum_any A3 m c3 Y.heap.size bs X21 ((((((S0.trans D1 (by simp)).trans D3 (by simp)).trans D13 (by simp)).trans D15 (by simp)).trans D21 (by simp)).slice HLY.out (Nat.le_refl _) (by simp)) (((((S0.trans D1 (by simp)).trans D3 (by simp)).trans D13 (by simp)).trans D15 (by simp)).trans D21 (by simp)).size (by rw [HL2.out.2.2.1]; have := HN.out; omega)).mono ?_
      rintro e X23 ⟨rfl, D23⟩
      refine hK _ _ (Till.mk' ((((((S0.trans D1 (by simp)).trans D3 (by simp)).trans D13 (by simp)).trans D15 (by simp)).trans D21 (by simp)).trans D23 (by simp)) trivial) ?_
      clear hK K
      try simp only [List.setIfInBounds_toArray, List.set_cons_succ, List.set_cons_zero]
      refine reg_take 24 62 9 #[true, true, true, true, true, true, true, true, true, true, true, true, true, true, true, true, true, true, true, true, true, true, true, true, true, false, false, false, false, false, false, false, false, false] (by rfl) (v := ?_) rfl rfl (by kernel_rfl) (by kernel_rfl) (by kernel_rfl) (by kernel_rfl) (fun _ _ _ h => h) (by rfl) ?_ (Till.mk' ((((((S0.trans D1 (by simp)).trans D3 (by simp)).trans D13 (by simp)).trans D15 (by simp)).trans D21 (by simp)).trans D23 (by simp)) trivial) ?_
      rotate_left
      · intro W hS; go_simp; all_goals with_reducible rfl
      try simp only [List.setIfInBounds_toArray, List.set_cons_succ, List.set_cons_zero]
      refine reg_take 25 63 8 #[true, true, true, true, true, true, true, true, true, true, true, true, true, true, true, true, true, true, true, true, true, true, true, true, true, true, false, false, false, false, false, false, false, false] (by rfl) (v := ?_) rfl rfl (by kernel_rfl) (by kernel_rfl) (by kernel_rfl) (by kernel_rfl) (fun _ _ _ h => h) (by rfl) ?_ (Till.mk' ((((((S0.trans D1 (by simp)).trans D3 (by simp)).trans D13 (by simp)).trans D15 (by simp)).trans D21 (by simp)).trans D23 (by simp)) trivial) ?_
      rotate_left
      · intro W hS; go_simp; all_goals with_reducible rfl
      try simp only [List.setIfInBounds_toArray, List.set_cons_succ, List.set_cons_zero]
      refine reg_take 26 64 7 #[true, true, true, true, true, true, true, true, true, true, true, true, true, true, true, true, true, true, true, true, true, true, true, true, true, true, true, false, false, false, false, false, false, false] (by rfl) (v := ?_) rfl rfl (by kernel_rfl) (by kernel_rfl) (by kernel_rfl) (by kernel_rfl) (fun _ _ _ h => h) (by rfl) ?_ (Till.mk' ((((((S0.trans D1 (by simp)).trans D3 (by simp)).trans D13 (by simp)).trans D15 (by simp)).trans D21 (by simp)).trans D23 (by simp)) trivial) ?_
      rotate_left
      · intro W hS; go_simp; all_goals with_reducible rfl
      try simp only [List.setIfInBounds_toArray, List.set_cons_succ, List.set_cons_zero]
      refine reg_take_y 27 65 6 #[true, true, true, true, true, true, true, true, true, true, true, true, true, true, true, true, true, true, true, true, true, true, true, true, true, true, true, true, false, false, false, false, false, false] (by rfl) rfl rfl (by kernel_rfl) (by kernel_rfl) (by kernel_rfl) (by kernel_rfl) (fun _ _ _ h => h) (yieldsIf_load_mid (by rfl) _ _ rfl p1 0 (by rfl) (bvs h) _ (fun W hS => rangeT hS HR.out (by simp)) Try.underlying24 rfl hs32.out) (Till.mk' ((((((S0.trans D1 (by simp)).trans D3 (by simp)).trans D13 (by simp)).trans D15 (by simp)).trans D21 (by simp)).trans D23 (by simp)) trivial) ?_
      try simp only [List.setIfInBounds_toArray, List.set_cons_succ, List.set_cons_zero]
      refine reg_take_y 29 67 5 #[true, true, true, true, true, true, true, true, true, true, true, true, true, true, true, true, true, true, true, true, true, true, true, true, true, true, true, true, false, true, false, false, false, false] (by rfl) rfl rfl (by kernel_rfl) (by kernel_rfl) (by kernel_rfl) (by kernel_rfl) (fun _ _ _ h => h) (yieldsIf_load_mid (by rfl) _ _ rfl p1 0 (by rfl) (bvs h) _ (fun W hS => rangeT hS HR.out (by simp)) Try.underlying24 rfl hs32.out) (Till.mk' ((((((S0.trans D1 (by simp)).trans D3 (by simp)).trans D13 (by simp)).trans D15 (by simp)).trans D21 (by simp)).trans D23 (by simp)) trivial) ?_
      try simp only [List.setIfInBounds_toArray, List.set_cons_succ, List.set_cons_zero]
      refine reg_one 28 4 #[true, true, true, true, true, true, true, true, true, true, true, true, true, true, true, true, true, true, true, true, true, true, true, true, true, true, true, true, true, true, false, false, false, false] (by kernel_rfl) rfl (by rfl) (by kernel_rfl) (fun K hK => ?_)
      go_simp
      refine (Hex_any h hh _).mono ?_
      rintro e X28 ⟨rfl, D28⟩
      refine hK _ _ (Till.mk' (((((((S0.trans D1 (by simp)).trans D3 (by simp)).trans D13 (by simp)).trans D15 (by simp)).trans D21 (by simp)).trans D23 (by simp)).trans D28 (by simp)) trivial) ?_
      clear hK K
      try simp only [List.setIfInBounds_toArray, List.set_cons_succ, List.set_cons_zero]
      refine reg_one 30 3 #[true, true, true, true, true, true, true, true, true, true, true, true, true, true, true, true, true, true, true, true, true, true, true, true, true, true, true, true, true, true, true, false, false, false] (by kernel_rfl) rfl (by rfl) (by kernel_rfl) (fun K hK => ?_)
      go_simp
      refine (refHex_any h hh _).mono ?_
      rintro e X30 ⟨rfl, D30⟩
      refine hK _ _ (Till.mk' ((((((((S0.trans D1 (by simp)).trans D3 (by simp)).trans D13 (by simp)).trans D15 (by simp)).trans D21 (by simp)).trans D23 (by simp)).trans D28 (by simp)).trans D30 (by simp)) trivial) ?_
      clear hK K
      try simp only [List.setIfInBounds_toArray, List.set_cons_succ, List.set_cons_zero]
      refine reg_take 31 69 2 #[true, true, true, true, true, true, true, true, true, true, true, true, true, true, true, true, true, true, true, true, true, true, true, true, true, true, true, true, true, true, true, true, false, false] (by rfl) (v := ?_) rfl rfl (by kernel_rfl) (by kernel_rfl) (by kernel_rfl) (by kernel_rfl) (fun _ _ _ h => h) (by rfl) ?_ (Till.mk' ((((((((S0.trans D1 (by simp)).trans D3 (by simp)).trans D13 (by simp)).trans D15 (by simp)).trans D21 (by simp)).trans D23 (by simp)).trans D28 (by simp)).trans D30 (by simp)) trivial) ?_
      rotate_left
      · intro W hS; go_simp; all_goals with_reducible rfl
      try simp only [List.setIfInBounds_toArray, List.set_cons_succ, List.set_cons_zero]
      refine reg_take 32 70 1 #[true, true, true, true, true, true, true, true, true, true, true, true, true, true, true, true, true, true, true, true, true, true, true, true, true, true, true, true, true, true, true, true, true, false] (by rfl) (v := ?_) rfl rfl (by kernel_rfl) (by kernel_rfl) (by kernel_rfl) (by kernel_rfl) (fun _ _ _ h => h) (by rfl) ?_ (Till.mk' ((((((((S0.trans D1 (by simp)).trans D3 (by simp)).trans D13 (by simp)).trans D15 (by simp)).trans D21 (by simp)).trans D23 (by simp)).trans D28 (by simp)).trans D30 (by simp)) trivial) ?_
      rotate_left
      · intro W hS; go_simp; all_goals with_reducible rfl
      try simp only [List.setIfInBounds_toArray, List.set_cons_succ, List.set_cons_zero]
      refine reg_take 33 6 0 #[true, true, true, true, true, true, true, true, true, true, true, true, true, true, true, true, true, true, true, true, true, true, true, true, true, true, true, true, true, true, true, true, true, true] (by rfl) (v := ?_) rfl rfl (by kernel_rfl) (by kernel_rfl) (by kernel_rfl) (by kernel_rfl) (fun _ _ _ h => h) (by rfl) ?_ (Till.mk' ((((((((S0.trans D1 (by simp)).trans D3 (by simp)).trans D13 (by simp)).trans D15 (by simp)).trans D21 (by simp)).trans D23 (by simp)).trans D28 (by simp)).trans D30 (by simp)) trivial) ?_
      rotate_left
      · intro W hS; go_simp; all_goals with_reducible rfl
      try simp only [List.setIfInBounds_toArray, List.set_cons_succ, List.set_cons_zero]
      refine reg_done (by kernel_rfl) ?_ _
      have T9 := ((((((((S0.trans D1 (by simp)).trans D3 (by simp)).trans D13 (by simp)).trans D15 (by simp)).trans D21 (by simp)).trans D23 (by simp)).trans D28 (by simp)).trans D30 (by simp))
      go_wp2_with fail
      go_ret
      exact ⟨rfl, below_of (TY.out.trans T9 (by simp))⟩
end Go.Proofs.Ytibolcekhdapaaa
