/- Two sums joined; roots. -/
import Derived.Test.YtnjnealphbcamaaMkC
namespace Go.Proofs.Ytnjnealphbcamaa
open Go.RowKit
set_option linter.unusedVariables false
set_option maxRecDepth 10000
set_option linter.unusedSimpArgs false
set_option linter.unnecessarySimpa false

def jn (k : Nat) (a b : List UInt8) : List UInt8 := if k = 0 then a else twoH a b
set_option maxRecDepth 100000 in
set_option maxHeartbeats 2000000 in
theorem joined_any (a b : List UInt8) (ha : a.length = 32) (A : Option Addr) (c B : Nat) (w0 : World) (h : Hs w0 B (.slice A 1 c) [b]) (hB : B ≤ w0.heap.size) :
    Calls Try.prog 27 #[.agg (bvs a).toArray, .slice A 1 c] w0 fun e w' => e = .returned (.agg (bvs (twoH a b)).toArray) ∧ Turns [] w0 w' := by
  have hb : b.length = 32 := h.all b (by simp)
  obtain ⟨w, hw⟩ : ∃ x, x = w0.alloc (.cells (bvs a).toArray 27) := ⟨_, rfl⟩
  have ba := Blk.new w0 (bvs a) 27
  have t0 := (Turns.refl [] w0).alloc (.cells (bvs a).toArray 27)
  have hs0 : w.heap.size = w0.heap.size + 1 := by rw [hw]; simp
  rw [← hw] at ba t0
  have HW0 := Lib.hid hw
  have HT0 := Lib.hid t0
  have HS0 := Lib.hid hs0
  obtain ⟨res, hres⟩ : ∃ r, r = bvs (twoH a b) := ⟨_, rfl⟩
  rw [← hres]
  have HRES := Lib.hid hres
  have hz32 := zero_hash
  have hzl := zeros32_len
  have b2 := Blk.new w (bvs (zeros 32)) 27
  have t1 := (Turns.refl [] w).alloc (.cells (bvs (zeros 32)).toArray 27)
  generalize hzz : bvs (zeros 32) = zz at hz32 hzl b2 t1
  obtain ⟨w1, hw1⟩ : ∃ x, x = w.alloc (.cells zz.toArray 27) := ⟨_, rfl⟩
  rw [← hw1] at b2 t1
  have hs1 : w1.heap.size = w.heap.size + 1 := by rw [hw1]; simp
  have HS1 := Lib.hid hs1
  have HW1 := Lib.hid hw1
  have HZL := Lib.hid hzl
  have H0 := Lib.hid (And.intro b2 t1)
  clear hres hzz hw1 hzl b2 t1 hs1
  have HLEN := Lib.hid (show (twoH a b).length = 32 from sha_len _)
  obtain ⟨b0, off, rfl, hb0, r0⟩ := h.at_ (i := 0) (by simp)
  rw [Nat.zero_mul, Nat.add_zero, List.getElem_cons_zero] at r0
  obtain ⟨p2, hp2⟩ : ∃ q, q = w0.heap.size := ⟨_, rfl⟩
  rw [← hp2] at ba
  have hbp : b0 ≠ p2 := by omega
  have HJ := Lib.hid (And.intro (ba.turns H0.out.2 (by simp)) (And.intro r0 (And.intro hbp (And.intro ha hb))))
  have HP2 := Lib.hid hp2
  have hc1 : 1 ≤ c := by obtain ⟨_, _, hv, h1, _⟩ := h.form; injection hv with _ _ e; subst e; simpa using h1
  clear ha hb hw t0 hs0 ba r0 hb0 h hB hbp
  rw [← hp2] at HS0
  clear hp2
  go_enter Try.func27, Try.ntmps27
  go_upto_region 1 with (first | (refine wpList_alloc_arr (o := ⟨some 4, _, _, _, _, _⟩) rfl 27 rfl zz.toArray hz32 ?_) | fail)
  try simp only [Act.put, List.setIfInBounds_toArray, List.set_cons_succ, List.set_cons_zero]
  rw [← HW0.out, ← HW1.out, ← HP2.out]
  go_wp2_with fail
  go_loopw [9] (fun i wr => ∃ k : Nat, k ≤ 1 ∧ i = .int .i64 k ∧ Blk wr p2 (bvs (jn k a b)) 27 ∧ Turns [p2] w1 wr) (fun i _ => 1 - (intOf i).toNat)
  case atStart => exact ⟨0, by omega, rfl, HJ.out.1, Turns.refl _ _⟩
  case round =>
    obtain ⟨k, hk, rfl, v2, td⟩ := hrel
    by_cases hlt : k < 1
    · obtain rfl : k = 0 := by omega
      rw [show jn 0 a b = a from rfl] at v2
      have tall : Turns [p2] w0 wr := (((HT0.out.trans H0.out.2 (by simp)).mono (by simp)).trans td (by simp))
      have r1 := rangeT tall HJ.out.2.1 (by simpa using HJ.out.2.2.1)
      have hbl : (bvs b).length = 32 := by rw [bvs_length, HJ.out.2.2.2.2]
      have hb1 := bvs_one b
      have b6 := Blk.new wr zz 27
      have t6 : Turns [] wr (wr.alloc (.cells zz.toArray 27)) := (Turns.refl _ _).alloc _
      have HB := Lib.hid (And.intro v2 (And.intro td (And.intro b6 t6)))
      have hlt2 := v2.lt
      obtain ⟨bs, hbs⟩ : ∃ bs, bs = bvs b := ⟨_, rfl⟩
      rw [← hbs] at r1 hbl hb1
      have R1 := Lib.hid r1
      have HBS := Lib.hid hbs
      have P_sz := Lib.hid (show (Try.prog.info? 27).map (·.size) = some bs.length by rw [size_hash, hbl])
      have P_l := Lib.hid (show zz.length = bs.length by rw [HZL.out, hbl])
      have P_1 := Lib.hid hb1
      have HLT := Lib.hid hlt2
      clear v2 td tall r1 hbl hb1 b6 t6 hbs hlt2
      go_upto_region 4 with (first
        | (refine wpList_load_mid rfl 27 (.tmp 11) rfl b0 off (by kernel_rfl) bs _ R1.out Try.underlying27 rfl P_sz.out ?_)
        | (refine wpList_alloc_arr (o := ⟨some 6, _, _, _, _, _⟩) rfl 27 rfl zz.toArray hz32 ?_)
        | (refine wpList_store_blk rfl 27 (.tmp 6) (.tmp 12) rfl wr.heap.size (by kernel_rfl) bs zz 27 (by kernel_rfl) HB.out.2.2.1 P_l.out P_sz.out P_1.out (fun y1 hb1 ht1 hs1 => ?_); have HQ := Lib.hid (And.intro hb1 ht1); clear hb1 ht1 hs1)
        | fail)
      try simp only [Act.put, List.setIfInBounds_toArray, List.set_cons_succ, List.set_cons_zero]
      obtain ⟨p6, hp6⟩ : ∃ q, q = wr.heap.size := ⟨_, rfl⟩
      rw [← hp6] at HQ HLT ⊢
      have ty : Turns [] wr y1 := HB.out.2.2.2.trans HQ.out.2 (by intro x hx; simp at hx; exact .inr (by omega))
      have v2 := HB.out.1.turns ty (by simp)
      have v6 := HQ.out.1
      rw [HBS.out] at v6
      have l6 := v6.lt
      have l2 := HLT.out
      have sa := ((v2.drew.bytes (by simp [maxLen, HJ.out.2.2.2.1])).more (show p2 + 1 ≤ y1.drew.heap.size by show p2 + 1 ≤ y1.heap.size; omega)).alloc (Nat.le_refl _) (.cells #[.int .u8 1] 5)
      have sb := ((v6.drew.bytes (by simp [maxLen, HJ.out.2.2.2.2])).more (show p6 + 1 ≤ y1.drew.heap.size by show p6 + 1 ≤ y1.heap.size; omega)).alloc (Nat.le_refl _) (.cells #[.int .u8 1] 5)
      have s1 := Sl.byte y1.drew 1 (.int .u8 1) rfl
      have SU := Sum_lit [(.slice (some ⟨y1.drew.heap.size, 0, none⟩) 1 1, [1]), (.slice (some ⟨p2, 0, none⟩) a.length a.length, a), (.slice (some ⟨p6, 0, none⟩) b.length b.length, b)] (y1.drew.alloc (.cells #[.int .u8 1] 5)) (by
        intro p hp
        simp at hp
        rcases hp with rfl | rfl | rfl
        · exact s1.more (by simp)
        · exact sa.more (by simp)
        · exact sb.more (by simp)) (by simp [flat]; have := HJ.out.2.2.2; omega) (by simp)
      rw [show flat [(Value.slice (some ⟨y1.drew.heap.size, 0, none⟩) 1 1, [(1 : UInt8)]), (Value.slice (some ⟨p2, 0, none⟩) a.length a.length, a), (Value.slice (some ⟨p6, 0, none⟩) b.length b.length, b)] = 1 :: (a ++ b) by simp [flat]] at SU
      rw [HJ.out.2.2.2.1, HJ.out.2.2.2.2] at SU
      simp only [List.length_cons, List.length_nil, List.map_cons, List.map_nil, World.size_alloc, World.size_drew] at SU
      rw [show bvs (sha (1 :: (a ++ b))) = res from HRES.out.symm] at SU
      have SH := Lib.hid SU
      have HV2 := Lib.hid (And.intro v2 ty)
      have hrl : res.length = 32 := by rw [HRES.out, bvs_length]; exact HLEN.out
      have hr1 : ∀ u ∈ res, u.oneCell' = true := by rw [HRES.out]; exact bvs_one _
      have Q_sz := Lib.hid (show (Try.prog.info? 27).map (·.size) = some res.length by rw [size_hash, hrl])
      have Q_l := Lib.hid (show (bvs a).length = res.length by rw [bvs_length, HJ.out.2.2.2.1, hrl])
      have Q_1 := Lib.hid hr1
      clear ty v2 v6 sa sb s1 SU hp6 l6 l2 hrl hr1
      refine reg_begin (fun _ => True) (fun _ => True) 6 6 #[false, false, false, false, false, false] (by kernel_rfl) (by kernel_rfl) (by kernel_rfl) ?_
      refine reg_take 1 14 5 #[false, true, false, false, false, false] (by rfl) (v := ?_) rfl rfl (by kernel_rfl) (by kernel_rfl) (by kernel_rfl) (by kernel_rfl) (fun _ _ _ h => h) (by rfl) ?_ (Till.mk' trivial trivial) ?_
      rotate_left
      · intro W hS; go_simp; all_goals with_reducible rfl
      try simp only [List.setIfInBounds_toArray, List.set_cons_succ, List.set_cons_zero]
      refine reg_take 2 15 4 #[false, true, true, false, false, false] (by rfl) (v := ?_) rfl rfl (by kernel_rfl) (by kernel_rfl) (by kernel_rfl) (by kernel_rfl) (fun _ _ _ h => h) (by rfl) ?_ (Till.mk' trivial trivial) ?_
      rotate_left
      · intro W hS; go_simp; all_goals with_reducible rfl
      try simp only [List.setIfInBounds_toArray, List.set_cons_succ, List.set_cons_zero]
      refine reg_one 0 3 #[true, true, true, false, false, false] (by kernel_rfl) rfl (by rfl) (by kernel_rfl) (fun K hK => ?_)
      go_simp
      refine hK _ _ (Till.mk' trivial trivial) ?_
      clear hK K
      try simp only [List.setIfInBounds_toArray, List.set_cons_succ, List.set_cons_zero]
      refine reg_one 3 2 #[true, true, true, true, false, false] (by kernel_rfl) rfl (by rfl) (by kernel_rfl) (fun K hK => ?_)
      go_simp
      refine hK _ _ (Till.mk' trivial trivial) ?_
      clear hK K
      try simp only [List.setIfInBounds_toArray, List.set_cons_succ, List.set_cons_zero]
      refine reg_one 4 1 #[true, true, true, true, true, false] (by kernel_rfl) rfl (by rfl) (by kernel_rfl) (fun K hK => ?_)
      go_simp
      refine SH.out.mono ?_
      rintro e w5 ⟨rfl, t5⟩
      refine hK _ _ (Till.mk' trivial trivial) ?_
      clear hK K
      try simp only [List.setIfInBounds_toArray, List.set_cons_succ, List.set_cons_zero]
      refine reg_one 5 0 #[true, true, true, true, true, true] (by kernel_rfl) rfl (by rfl) (by kernel_rfl) (fun K hK => ?_)
      refine wp_store_blk 27 _ _ (by rfl) p2 (by rfl) res (bvs a) 27 (by rfl) (HV2.out.1.turns (((Turns.refl [] y1).drew.alloc _).trans t5 (by simp)) (by simp)) Q_l.out Q_sz.out Q_1.out (fun w6 hb6 ht6 => ?_)
      refine hK _ _ (Till.mk' trivial trivial) ?_
      clear hK K
      try simp only [List.setIfInBounds_toArray, List.set_cons_succ, List.set_cons_zero]
      refine reg_done (by kernel_rfl) ?_ _
      have tt : Turns [p2] wr w6 := ((HV2.out.2.drew.alloc (.cells #[.int .u8 1] 5)).trans t5 (by simp) |> fun t => (t.mono (by simp) : Turns [p2] wr w5)).trans ht6 (by simp)
      have HF := Lib.hid (And.intro hb6 (HB.out.2.1.trans tt (by simp)))
      clear hb6 ht6 tt t5
      go_wp2_with fail
      go_roundw
      case rel => exact ⟨1, by omega, by go_num, by rw [show jn 1 a b = twoH a b from rfl, ← HRES.out]; exact HF.out.1, HF.out.2⟩
      case measure => (simp [intOf] <;> omega)
    · obtain rfl : k = 1 := by omega
      rw [show jn 1 a b = twoH a b from rfl, ← HRES.out] at v2
      have HV := Lib.hid (And.intro v2 td)
      have hwp := HS0.out
      clear v2 td
      have hrl : res.length = 32 := by rw [HRES.out, bvs_length]; exact HLEN.out
      have hr1 : ∀ u ∈ res, u.oneCell' = true := by rw [HRES.out]; exact bvs_one _
      have Q_b2 := Lib.hid (H0.out.1.turns HV.out.2 (by simp; omega))
      have Q_l := Lib.hid (show zz.length = res.length by rw [HZL.out, hrl])
      have Q_sz := Lib.hid (show (Try.prog.info? 27).map (·.size) = some res.length by rw [size_hash, hrl])
      have Q_1 := Lib.hid hr1
      clear hrl hr1
      go_wp2_with (first
        | (refine wpList_load_blk rfl 27 (.tmp 2) rfl p2 (by kernel_rfl) res _ _ HV.out.1 Try.underlying27 rfl Q_sz.out ?_)
        | (refine wpList_store_blk rfl 27 (.tmp 4) (.tmp 19) rfl w.heap.size (by kernel_rfl) res zz 27 (by kernel_rfl) Q_b2.out Q_l.out Q_sz.out Q_1.out (fun w9 hb9 ht9 hs9 => ?_); have HQ9 := Lib.hid (And.intro hb9 ht9); clear hb9 ht9 hs9)
        | fail)
      refine bodyPost_ret (results_cell_row rfl _ _ w.heap.size _ _ _ _ (by kernel_rfl) HQ9.out.1 Try.underlying27 rfl (by rw [List.size_toArray]; exact Q_sz.out)) rfl ?_
      have hS0 := HS0.out
      exact ⟨rfl, ((HT0.out.trans H0.out.2 (by simp)).trans HV.out.2 (by simp; have := HP2.out; omega)).trans HQ9.out.2 (by simp; have := HP2.out; omega)⟩
end Go.Proofs.Ytnjnealphbcamaa
