/- The document's roots, walked. -/
import Derived.Test.YtnjnealphbcamaaMkD
namespace Go.Proofs.Ytnjnealphbcamaa
open Go.RowKit
set_option linter.unusedVariables false
set_option maxRecDepth 10000
set_option linter.unusedSimpArgs false
set_option linter.unnecessarySimpa false

set_option maxRecDepth 100000 in
set_option maxHeartbeats 2000000 in
theorem refRoot_any : ∀ (N : Nat) (hs : List (List UInt8)) (n : Nat), hs.length = n → n ≤ N → n ≤ 1000000 → ∀ (A : Option Addr) (c B : Nat) (w : World), Hs w B (.slice A n c) hs → B ≤ w.heap.size →
    Calls Try.prog 16 #[.slice A n c] w fun e w' => e = .returned (.agg (bvs (mroot hs)).toArray) ∧ Turns [] w w'
  | N, hs, n, hn, hnN, hnm, A, c, B, w, h, hB => by
    obtain ⟨res, hres⟩ : ∃ r, r = bvs (mroot hs) := ⟨_, rfl⟩
    rw [← hres]
    have HRES := Lib.hid hres
    have hz32 := zero_hash
    have hzl := zeros32_len
    have b2 := Blk.new w (bvs (zeros 32)) 27
    have t1 := (Turns.refl [] w).alloc (.cells (bvs (zeros 32)).toArray 27)
    generalize hzz : bvs (zeros 32) = zz at hz32 hzl b2 t1
    obtain ⟨w1, hw1⟩ : ∃ x, x = w.alloc (.cells zz.toArray 27) := ⟨_, rfl⟩
    rw [← hw1] at b2 t1
    have hs1 : w1.heap.size = w.heap.size + 1 := by rw [hw1]; simp
    have HS1 := Lib.hid hs1
    have HW1 := Lib.hid hw1
    have HZL := Lib.hid hzl
    have H0 := Lib.hid (And.intro b2 t1)
    clear hres hzz hw1 hzl b2 t1 hs1
    have HLEN := Lib.hid (show (mroot hs).length = 32 from mroot_len hs h.all)
    have h1 := (h.turns H0.out.2 hB (by simp))
    have hB1 := Nat.le_trans hB H0.out.2.size
    obtain ⟨_, _, hv, hnc, hcm⟩ := h.form
    injection hv with e1 e2 e3
    subst e1 e3
    clear e2 h hB
    rcases Nat.lt_or_ge n 1 with hn0 | hn0
    · obtain rfl : n = 0 := by omega
      have : hs = [] := List.eq_nil_of_length_eq_zero hn
      subst this
      have SU := refSum_any none 0 0 0 [] w1 Sl.nil (by simp) (by simp)
      rw [show bvs (sha []) = res by rw [HRES.out, mroot_nil]] at SU
      have SH := Lib.hid SU
      clear SU hn hnN hnm h1 hB1 hnc hcm hn0
      go_enter Try.func16, Try.ntmps16
      go_upto_region 1 with (first | (refine wpList_alloc_arr (o := ⟨some 2, _, _, _, _, _⟩) rfl 27 rfl zz.toArray hz32 ?_) | fail)
      try simp only [Act.put, List.setIfInBounds_toArray, List.set_cons_succ, List.set_cons_zero]
      rw [← HW1.out]
      go_wp2_with fail
      refine SH.out.mono ?_
      rintro e w2 ⟨rfl, t2⟩
      have H2 := Lib.hid t2
      clear t2 SH
      have hrl : res.length = 32 := by rw [HRES.out, bvs_length]; exact HLEN.out
      have hr1 : ∀ u ∈ res, u.oneCell' = true := by rw [HRES.out]; exact bvs_one _
      have Q_b2 := Lib.hid (H0.out.1.turns H2.out (by simp))
      have Q_l := Lib.hid (show zz.length = res.length by rw [HZL.out, hrl])
      have Q_sz := Lib.hid (show (Try.prog.info? 27).map (·.size) = some res.length by rw [size_hash, hrl])
      have Q_1 := Lib.hid hr1
      clear hrl hr1
      go_wp2_with (first
        | (refine wpList_store_blk rfl 27 (.tmp 2) (.tmp 8) rfl w.heap.size (by kernel_rfl) res zz 27 (by kernel_rfl) Q_b2.out Q_l.out Q_sz.out Q_1.out (fun w9 hb9 ht9 hs9 => ?_); have HQ9 := Lib.hid (And.intro hb9 ht9); clear hb9 ht9 hs9)
        | fail)
      refine bodyPost_ret (results_cell_row rfl _ _ w.heap.size _ _ _ _ (by kernel_rfl) HQ9.out.1 Try.underlying27 rfl (by rw [List.size_toArray]; exact Q_sz.out)) rfl ?_
      exact ⟨rfl, (H0.out.2.trans H2.out (by simp)).trans HQ9.out.2 (by simp)⟩
    · rcases Nat.lt_or_ge n 2 with hn2 | hn2
      · obtain rfl : n = 1 := by omega
        obtain ⟨x, rfl⟩ := List.length_eq_one_iff.1 hn
        rw [mroot_one] at HRES
        have HLX := Lib.hid (show x.length = 32 from h1.all x (by simp))
        obtain ⟨b0, off, rfl, hb0, r0⟩ := h1.at_ (i := 0) (by simp)
        rw [Nat.zero_mul, Nat.add_zero, List.getElem_cons_zero, ← HRES.out] at r0
        have R0 := Lib.hid r0
        have hc1 : (1 : Int) ≤ (c : Int) := by omega
        have HLEN := Lib.hid (show (x).length = 32 from h1.all x (by simp))
        clear r0 hn hnN hnm h1 hB1 hnc hcm hn0 hb0 hn2
        go_enter Try.func16, Try.ntmps16
        go_upto_region 1 with (first | (refine wpList_alloc_arr (o := ⟨some 2, _, _, _, _, _⟩) rfl 27 rfl zz.toArray hz32 ?_) | fail)
        try simp only [Act.put, List.setIfInBounds_toArray, List.set_cons_succ, List.set_cons_zero]
        rw [← HW1.out]
        have hrl : res.length = 32 := by rw [HRES.out, bvs_length]; exact HLEN.out
        have hr1 : ∀ u ∈ res, u.oneCell' = true := by rw [HRES.out]; exact bvs_one _
        have Q_b2 := Lib.hid (H0.out.1)
        have Q_l := Lib.hid (show zz.length = res.length by rw [HZL.out, hrl])
        have Q_sz := Lib.hid (show (Try.prog.info? 27).map (·.size) = some res.length by rw [size_hash, hrl])
        have Q_1 := Lib.hid hr1
        clear hrl hr1
        go_wp2_with (first
          | (refine wpList_load_mid rfl 27 (.tmp 12) rfl b0 off (by kernel_rfl) res _ R0.out Try.underlying27 rfl Q_sz.out ?_)
          | (refine wpList_store_blk rfl 27 (.tmp 2) (.tmp 13) rfl w.heap.size (by kernel_rfl) res zz 27 (by kernel_rfl) Q_b2.out Q_l.out Q_sz.out Q_1.out (fun w9 hb9 ht9 hs9 => ?_); have HQ9 := Lib.hid (And.intro hb9 ht9); clear hb9 ht9 hs9)
          | fail)
        refine bodyPost_ret (results_cell_row rfl _ _ w.heap.size _ _ _ _ (by kernel_rfl) HQ9.out.1 Try.underlying27 rfl (by rw [List.size_toArray]; exact Q_sz.out)) rfl ?_
        exact ⟨rfl, H0.out.2.trans HQ9.out.2 (by simp)⟩
      · have hk1 := mcut_pos n
        have hk2 := mcut_lt n hn2
        have hm2 := mroot_two hs (by omega)
        rw [hn] at hm2
        have CU := part_any n (by omega) w1
        obtain ⟨k, hk⟩ : ∃ k, k = mcut n := ⟨_, rfl⟩
        rw [← hk] at hk1 hk2 hm2 CU
        have hto := h1.to (k := k) (by omega)
        have hfr := h1.from_ (k := k) (by omega) hn.symm
        have htl : (hs.take k).length = k := by rw [List.length_take]; omega
        have hdl : (hs.drop k).length = n - k := by rw [List.length_drop]; omega
        have IH1 := refRoot_any (n - 1) (hs.take k) k htl (by omega) (by omega) A c B
        have IH2 := refRoot_any (n - 1) (hs.drop k) (n - k) hdl (by omega) (by omega) (if c = k then A else A.map fun x => x.add (k * 32)) (c - k) B
        have HC := Lib.hid CU
        have HT := Lib.hid (And.intro hto (And.intro hfr hB1))
        have I1 := Lib.hid IH1
        have I2 := Lib.hid IH2
        have HM2 := Lib.hid hm2
        have HHN := Lib.hid (And.intro hn (And.intro htl (And.intro hdl (And.intro hto.all hfr.all))))
        have z0 : ((n : Int) == 0) = false := by simp; omega
        have z1 : ((n : Int) == 1) = false := by simp; omega
        have z2 : (n : Int) ≤ 1000000 := by omega
        have z3 : (k : Int) ≤ (c : Int) := by omega
        have z4 : (k : Int) ≤ (n : Int) := by omega
        have HK := Lib.hid hk
        clear h1 hB1 hto hfr htl hdl IH1 IH2 CU hm2 hn hnN hnm hn0 hk hk1 hnc hcm hk2 hn2
        go_enter Try.func16, Try.ntmps16
        go_upto_region 1 with (first | (refine wpList_alloc_arr (o := ⟨some 2, _, _, _, _, _⟩) rfl 27 rfl zz.toArray hz32 ?_) | fail)
        try simp only [Act.put, List.setIfInBounds_toArray, List.set_cons_succ, List.set_cons_zero]
        rw [← HW1.out]
        go_wp2_with fail
        refine HC.out.mono ?_
        rintro e w2 ⟨rfl, rfl⟩
        clear HC
        go_upto_region 7 with fail
        refine reg_begin (fun _ => True) (fun _ => True) 10 10 #[false, false, false, false, false, false, false, false, false, false] (by kernel_rfl) (by kernel_rfl) (by kernel_rfl) ?_
        refine reg_take 0 17 9 #[true, false, false, false, false, false, false, false, false, false] (by rfl) (v := ?_) rfl rfl (by kernel_rfl) (by kernel_rfl) (by kernel_rfl) (by kernel_rfl) (fun _ _ _ h => h) (by rfl) ?_ (Till.mk' trivial trivial) ?_
        rotate_left
        · intro W hS; go_simp; all_goals with_reducible rfl
        try simp only [List.setIfInBounds_toArray, List.set_cons_succ, List.set_cons_zero]
        refine reg_take 1 18 8 #[true, true, false, false, false, false, false, false, false, false] (by rfl) (v := ?_) rfl rfl (by kernel_rfl) (by kernel_rfl) (by kernel_rfl) (by kernel_rfl) (fun _ _ _ h => h) (by rfl) ?_ (Till.mk' trivial trivial) ?_
        rotate_left
        · intro W hS; go_simp; all_goals with_reducible rfl
        try simp only [List.setIfInBounds_toArray, List.set_cons_succ, List.set_cons_zero]
        refine reg_take 2 19 7 #[true, true, true, false, false, false, false, false, false, false] (by rfl) (v := ?_) rfl rfl (by kernel_rfl) (by kernel_rfl) (by kernel_rfl) (by kernel_rfl) (fun _ _ _ h => h) (by rfl) ?_ (Till.mk' trivial trivial) ?_
        rotate_left
        · intro W hS; go_simp; all_goals with_reducible rfl
        try simp only [List.setIfInBounds_toArray, List.set_cons_succ, List.set_cons_zero]
        refine reg_take 4 21 6 #[true, true, true, false, true, false, false, false, false, false] (by rfl) (v := ?_) rfl rfl (by kernel_rfl) (by kernel_rfl) (by kernel_rfl) (by kernel_rfl) (fun _ _ _ h => h) (by rfl) ?_ (Till.mk' trivial trivial) ?_
        rotate_left
        · intro W hS; go_simp; all_goals with_reducible rfl
        try simp only [List.setIfInBounds_toArray, List.set_cons_succ, List.set_cons_zero]
        refine reg_take 5 22 5 #[true, true, true, false, true, true, false, false, false, false] (by rfl) (v := ?_) rfl rfl (by kernel_rfl) (by kernel_rfl) (by kernel_rfl) (by kernel_rfl) (fun _ _ _ h => h) (by rfl) ?_ (Till.mk' trivial trivial) ?_
        rotate_left
        · intro W hS; go_simp; all_goals with_reducible rfl
        try simp only [List.setIfInBounds_toArray, List.set_cons_succ, List.set_cons_zero]
        refine reg_take 6 23 4 #[true, true, true, false, true, true, true, false, false, false] (by rfl) (v := ?_) rfl rfl (by kernel_rfl) (by kernel_rfl) (by kernel_rfl) (by kernel_rfl) (fun _ _ _ h => h) (by rfl) ?_ (Till.mk' trivial trivial) ?_
        rotate_left
        · intro W hS; go_simp; all_goals with_reducible rfl
        try simp only [List.setIfInBounds_toArray, List.set_cons_succ, List.set_cons_zero]
        refine reg_one 3 3 #[true, true, true, true, true, true, true, false, false, false] (by kernel_rfl) rfl (by rfl) (by kernel_rfl) (fun K hK => ?_)
        go_simp
        refine (I1.out _ HT.out.1.drew HT.out.2.2).mono ?_
        rintro e w3 ⟨rfl, t3⟩
        refine hK _ _ (Till.mk' trivial trivial) ?_
        clear hK K
        try simp only [List.setIfInBounds_toArray, List.set_cons_succ, List.set_cons_zero]
        refine reg_one 7 2 #[true, true, true, true, true, true, true, true, false, false] (by kernel_rfl) rfl (by rfl) (by kernel_rfl) (fun K hK => ?_)
        go_simp
        refine (I2.out _ (HT.out.2.1.turns ((Turns.refl [] w1).drew.trans t3 (by simp)) HT.out.2.2 (by simp)) (Nat.le_trans HT.out.2.2 t3.size)).mono ?_
        rintro e w4 ⟨rfl, t4⟩
        refine hK _ _ (Till.mk' trivial trivial) ?_
        clear hK K
        try simp only [List.setIfInBounds_toArray, List.set_cons_succ, List.set_cons_zero]
        refine reg_one 8 1 #[true, true, true, true, true, true, true, true, true, false] (by kernel_rfl) rfl (by rfl) (by kernel_rfl) (fun K hK => ?_)
        go_simp
        refine (Two_any (mroot (hs.take k)) (mroot (hs.drop k)) (mroot_len _ HHN.out.2.2.2.1) (mroot_len _ HHN.out.2.2.2.2) _).mono ?_
        rintro e w5 ⟨rfl, t5⟩
        rw [show bvs (twoH (mroot (hs.take k)) (mroot (hs.drop k))) = res by rw [HRES.out, HM2.out]]
        have t15 : Turns [] w1 w5 := (((Turns.refl [] w1).drew.trans t3 (by simp)).trans t4 (by simp)).trans t5 (by simp)
        have hrl : res.length = 32 := by rw [HRES.out, bvs_length]; exact HLEN.out
        have hr1 : ∀ u ∈ res, u.oneCell' = true := by rw [HRES.out]; exact bvs_one _
        have Q_sz := Lib.hid (show (Try.prog.info? 27).map (·.size) = some res.length by rw [size_hash, hrl])
        have Q_l := Lib.hid (show zz.length = res.length by rw [HZL.out, hrl])
        have Q_1 := Lib.hid hr1
        clear hrl hr1
        refine hK _ _ (Till.mk' trivial trivial) ?_
        clear hK K
        try simp only [List.setIfInBounds_toArray, List.set_cons_succ, List.set_cons_zero]
        refine reg_one 9 0 #[true, true, true, true, true, true, true, true, true, true] (by kernel_rfl) rfl (by rfl) (by kernel_rfl) (fun K hK => ?_)
        refine wp_store_blk 27 _ _ (by rfl) w.heap.size (by rfl) res zz 27 (by rfl) (H0.out.1.turns t15 (by simp)) Q_l.out Q_sz.out Q_1.out (fun w6 hb6 ht6 => ?_)
        refine hK _ _ (Till.mk' trivial trivial) ?_
        clear hK K
        try simp only [List.setIfInBounds_toArray, List.set_cons_succ, List.set_cons_zero]
        refine reg_done (by kernel_rfl) ?_ _
        have HF := Lib.hid (And.intro hb6 (And.intro t15 ht6))
        clear hb6 ht6 t15 t3 t4 t5
        go_wp2_with fail
        all_goals refine bodyPost_ret (results_cell_row rfl _ _ w.heap.size _ _ _ _ (by kernel_rfl) HF.out.1 Try.underlying27 rfl (by rw [List.size_toArray]; exact Q_sz.out)) rfl ?_
        all_goals exact ⟨rfl, (H0.out.2.trans HF.out.2.1 (by simp)).trans HF.out.2.2 (by simp)⟩
  termination_by N => N
  decreasing_by all_goals omega
end Go.Proofs.Ytnjnealphbcamaa
