/- The chapter's example holds. -/
import Derived.Test.YtnjnealphbcamaaMkG
namespace Go.Proofs.Ytnjnealphbcamaa
open Go.RowKit
set_option linter.unusedVariables false
set_option maxRecDepth 10000
set_option linter.unusedSimpArgs false
set_option linter.unnecessarySimpa false

theorem mroot_pair (a b : List UInt8) : mroot [a, b] = twoH a b := by
  rw [mroot_two [a, b] (by simp)]
  have e : mcut [a, b].length = 1 := rfl
  rw [e]
  simp [mroot_one]
theorem leafH_len (b : List UInt8) : (leafH b).length = 32 := sha_len _
set_option maxRecDepth 100000 in
set_option maxHeartbeats 2000000 in
theorem known_any (w : World) : Calls Try.prog 11 #[] w fun e w' => e = .returned (.bool true) ∧ Turns [] w w' := by
  have by1 := Sl.byte w 1 (.int .u8 1) rfl
  have LF := Leaf_any _ _ _ _ [1] _ by1 (by simp) (by simp)
  have HL1 := Lib.hid LF
  have hz32 := zero_hash
  have hzl := zeros32_len
  generalize hzz : bvs (zeros 32) = zz at hz32 hzl
  have HZL := Lib.hid hzl
  clear LF by1 hzz hzl
  obtain ⟨la, hla⟩ : ∃ l, l = leafH [1] := ⟨_, rfl⟩
  obtain ⟨lb, hlb⟩ : ∃ l, l = leafH [2] := ⟨_, rfl⟩
  have ha : la.length = 32 := by rw [hla]; exact leafH_len _
  have hb : lb.length = 32 := by rw [hlb]; exact leafH_len _
  have HAB := Lib.hid (And.intro (And.intro hla hlb) (And.intro ha hb))
  clear hla hlb ha hb
  go_enter Try.func11, Try.ntmps11
  go_wp2_with fail
  refine HL1.out.mono ?_
  rintro e w1 ⟨rfl, t1⟩
  have t1 : Turns [] w w1 := ((Turns.refl [] w).alloc _).trans t1 (by simp)
  have by2 := Sl.byte w1 2 (.int .u8 2) rfl
  have HL2 := Lib.hid (Leaf_any _ _ _ _ [2] _ by2 (by simp) (by simp))
  have T1 := Lib.hid t1
  clear t1 by2 HL1
  go_wp2_with fail
  refine HL2.out.mono ?_
  rintro e w2 ⟨rfl, t2⟩
  rw [← HAB.out.1.1, ← HAB.out.1.2]
  have T2 := Lib.hid (T1.out.trans (((Turns.refl [] w1).alloc _).trans t2 (by simp)) (by simp))
  clear t2 HL2
  have b1 := (Blk.new w2 zz 27).alloc (.cells zz.toArray 27)
  have b2 := Blk.new (w2.alloc (.cells zz.toArray 27)) zz 27
  have ta := ((Turns.refl [] w2).alloc (.cells zz.toArray 27)).alloc (.cells zz.toArray 27)
  have HB := Lib.hid (And.intro b1 (And.intro b2 ta))
  have la1 := bvs_one la
  have lb1 := bvs_one lb
  have lal : (bvs la).length = 32 := by rw [bvs_length, HAB.out.2.1]
  have lbl : (bvs lb).length = 32 := by rw [bvs_length, HAB.out.2.2]
  obtain ⟨ca, hca⟩ : ∃ x, x = bvs la := ⟨_, rfl⟩
  obtain ⟨cb, hcb⟩ : ∃ x, x = bvs lb := ⟨_, rfl⟩
  rw [← hca] at la1 lal ⊢
  rw [← hcb] at lb1 lbl
  rw [← hcb]
  have HC := Lib.hid (And.intro hca hcb)
  have Qa_l := Lib.hid (show zz.length = ca.length by rw [HZL.out, lal])
  have Qb_l := Lib.hid (show zz.length = cb.length by rw [HZL.out, lbl])
  have Qa_s := Lib.hid (show (Try.prog.info? 27).map (·.size) = some ca.length by rw [size_hash, lal])
  have Qb_s := Lib.hid (show (Try.prog.info? 27).map (·.size) = some cb.length by rw [size_hash, lbl])
  have Qa_1 := Lib.hid la1
  have Qb_1 := Lib.hid lb1
  clear b1 b2 ta hca hcb la1 lb1 lal lbl
  go_upto_region 2 with (first
    | (refine wpList_alloc_arr (o := ⟨some 1, _, _, _, _, _⟩) rfl 27 rfl zz.toArray hz32 ?_)
    | (refine wpList_alloc_arr (o := ⟨some 2, _, _, _, _, _⟩) rfl 27 rfl zz.toArray hz32 ?_)
    | (refine wpList_store_blk rfl 27 (.tmp 1) (.tmp 4) rfl w2.heap.size (by kernel_rfl) ca zz 27 (by kernel_rfl) HB.out.1 Qa_l.out Qa_s.out Qa_1.out (fun y1 hb1 ht1 hs1 => ?_); have HQ1 := Lib.hid (And.intro hb1 ht1); clear hb1 ht1 hs1)
    | (refine wpList_store_blk rfl 27 (.tmp 2) (.tmp 6) rfl (w2.alloc (.cells zz.toArray 27)).heap.size (by kernel_rfl) cb zz 27 (by kernel_rfl) (HB.out.2.1.turns HQ1.out.2 (by simp)) Qb_l.out Qb_s.out Qb_1.out (fun y2 hb1 ht1 hs1 => ?_); have HQ2 := Lib.hid (And.intro hb1 ht1); clear hb1 ht1 hs1)
    | fail)
  try simp only [Act.put, List.setIfInBounds_toArray, List.set_cons_succ, List.set_cons_zero]
  obtain ⟨p2, hp2⟩ : ∃ q, q = (w2.alloc (.cells zz.toArray 27)).heap.size := ⟨_, rfl⟩
  obtain ⟨p1, hp1⟩ : ∃ q, q = w2.heap.size := ⟨_, rfl⟩
  have h21 : p2 = p1 + 1 := by rw [hp2, hp1]; simp
  rw [← hp2] at HQ2 ⊢
  rw [← hp1] at HQ1 ⊢
  have ty : Turns [] w2 y2 := (HB.out.2.2.trans HQ1.out.2 (by intro x hx; simp at hx; exact .inr (by omega))).trans HQ2.out.2 (by intro x hx; simp at hx; exact .inr (by omega))
  have k1 := HQ1.out.1.turns HQ2.out.2 (by simp; omega)
  have k2 := HQ2.out.1
  have r1 := k1.range 0 32
  have r2 := k2.range 0 32
  have hcal : ca.length = 32 := by rw [HC.out.1, bvs_length, HAB.out.2.1]
  have hcbl : cb.length = 32 := by rw [HC.out.2, bvs_length, HAB.out.2.2]
  rw [List.drop_zero, List.take_of_length_le (by omega)] at r1 r2
  have l1 := k1.lt
  have l2 := k2.lt
  have HR := Lib.hid (And.intro r1 (And.intro r2 (And.intro k1 (And.intro k2 (And.intro l1 l2)))))
  have T3 := Lib.hid (T2.out.trans ty (by simp))
  obtain ⟨res, hres⟩ : ∃ r, r = bvs (twoH la lb) := ⟨_, rfl⟩
  obtain ⟨em, hem⟩ : ∃ r, r = bvs (sha []) := ⟨_, rfl⟩
  have eq1 := eqlS (twoH la lb) (twoH_len _ _)
  have eq2 := eqlS (sha []) (sha_len _)
  rw [← hres] at eq1
  rw [← hem] at eq2
  have HRES := Lib.hid (And.intro hres hem)
  have R := Root_any
  obtain ⟨Y, hY⟩ : ∃ Y, Y = y2.drew := ⟨_, rfl⟩
  have S0 : Turns [] y2 Y := by rw [hY]; exact (Turns.refl _ _).drew
  have HY := Lib.hid hY
  have HRT := Lib.hid R
  clear ty k1 k2 r1 r2 hcal hcbl l1 l2 hp1 hp2 h21 hres hem R hY HQ1 HQ2 HB
  rw [HC.out.1, HC.out.2] at *
  refine reg_begin (fun W => Turns [] y2 W) (fun _ => True) 17 17 #[false, false, false, false, false, false, false, false, false, false, false, false, false, false, false, false, false] (by kernel_rfl) (by kernel_rfl) (by kernel_rfl) ?_
  rw [← HY.out]
  refine reg_take_y 0 7 16 #[true, false, false, false, false, false, false, false, false, false, false, false, false, false, false, false, false] (by rfl) rfl rfl (by kernel_rfl) (by kernel_rfl) (by kernel_rfl) (by kernel_rfl) (fun _ _ _ h => h) (yieldsIf_load_mid (by rfl) _ _ rfl p1 0 (by rfl) _ _ (fun W hS => rangeT hS HR.out.1 (by simp)) Try.underlying27 rfl Qa_s.out) (Till.mk' S0 trivial) ?_
  try simp only [List.setIfInBounds_toArray, List.set_cons_succ, List.set_cons_zero]
  refine reg_take_y 1 8 15 #[true, true, false, false, false, false, false, false, false, false, false, false, false, false, false, false, false] (by rfl) rfl rfl (by kernel_rfl) (by kernel_rfl) (by kernel_rfl) (by kernel_rfl) (fun _ _ _ h => h) (yieldsIf_load_mid (by rfl) _ _ rfl p2 0 (by rfl) _ _ (fun W hS => rangeT hS HR.out.2.1 (by simp)) Try.underlying27 rfl Qb_s.out) (Till.mk' S0 trivial) ?_
  try simp only [List.setIfInBounds_toArray, List.set_cons_succ, List.set_cons_zero]
  refine reg_take 5 12 14 #[true, true, false, false, false, true, false, false, false, false, false, false, false, false, false, false, false] (by rfl) (v := ?_) rfl rfl (by kernel_rfl) (by kernel_rfl) (by kernel_rfl) (by kernel_rfl) (fun _ _ _ h => h) (by rfl) ?_ (Till.mk' S0 trivial) ?_
  rotate_left
  · intro W hS; go_simp; all_goals with_reducible rfl
  try simp only [List.setIfInBounds_toArray, List.set_cons_succ, List.set_cons_zero]
  refine reg_take 7 14 13 #[true, true, false, false, false, true, false, true, false, false, false, false, false, false, false, false, false] (by rfl) (v := ?_) rfl rfl (by kernel_rfl) (by kernel_rfl) (by kernel_rfl) (by kernel_rfl) (fun _ _ _ h => h) (by rfl) ?_ (Till.mk' S0 trivial) ?_
  rotate_left
  · intro W hS; go_simp; all_goals with_reducible rfl
  try simp only [List.setIfInBounds_toArray, List.set_cons_succ, List.set_cons_zero]
  refine reg_two 2 4 12 #[true, true, true, false, false, true, false, true, false, false, false, false, false, false, false, false, false] #[true, true, false, false, true, true, false, true, false, false, false, false, false, false, false, false, false] (by kernel_rfl) rfl rfl (by rfl) (by rfl) (by kernel_rfl) (by kernel_rfl) (fun K hK => ?_) (fun K hK => ?_)
  · refine wp_build_hash2 la lb HAB.out.2.1 HAB.out.2.2 (.tmp 7) (.tmp 8) (by rfl) (by rfl) (by rfl) ?_
    obtain ⟨X2, hX2⟩ : ∃ x, x = (Y).alloc (.cells (hcells [la, lb]).toArray 27) := ⟨_, rfl⟩
    have D2 : Turns [] (Y) X2 := by rw [hX2]; exact (Turns.refl _ _).alloc _
    have hh2 : Hs X2 X2.heap.size (.slice (some ⟨(Y).heap.size, 0, none⟩) 2 2) [la, lb] := by rw [hX2]; exact (Hs.lit _ [la, lb] (by intro h hh; simp at hh; rcases hh with rfl | rfl; exact HAB.out.2.1; exact HAB.out.2.2) (by simp [maxLen]) _).more (by simp)
    rw [← hX2]
    clear hX2
    refine hK _ _ (Till.mk' (S0.trans D2 (by simp)) trivial) ?_
    clear hK K
    try simp only [List.setIfInBounds_toArray, List.set_cons_succ, List.set_cons_zero]
    refine reg_two 3 4 11 #[true, true, true, true, false, true, false, true, false, false, false, false, false, false, false, false, false] #[true, true, true, false, true, true, false, true, false, false, false, false, false, false, false, false, false] (by kernel_rfl) rfl rfl (by rfl) (by rfl) (by kernel_rfl) (by kernel_rfl) (fun K hK => ?_) (fun K hK => ?_)
    · go_simp
      refine (HRT.out 2 [la, lb] 2 rfl (by omega) (by omega) _ _ _ _ (hh2.turns (Turns.refl [] X2) (Nat.le_refl _) (by simp)) (Turns.refl [] X2).size).mono ?_
      rintro e X3 ⟨rfl, D3⟩
      rw [show bvs (mroot [la, lb]) = res by rw [mroot_pair, HRES.out.1]]
      refine hK _ _ (Till.mk' ((S0.trans D2 (by simp)).trans D3 (by simp)) trivial) ?_
      clear hK K
      try simp only [List.setIfInBounds_toArray, List.set_cons_succ, List.set_cons_zero]
      refine reg_one 4 10 #[true, true, true, true, true, true, false, true, false, false, false, false, false, false, false, false, false] (by kernel_rfl) rfl (by rfl) (by kernel_rfl) (fun K hK => ?_)
      go_simp
      obtain ⟨X4, hX4⟩ : ∃ x, x = (X3).alloc (.cells #[.int .u8 1] 5) := ⟨_, rfl⟩
      have M4 : Mine (X3) X4 (.slice (some ⟨(X3).heap.size, 0, none⟩) 1 1) [1] := by rw [hX4]; exact mine_lit (X3) [1] (by simp [maxLen])
      have D4 : Turns [] (X3) X4 := M4.turns
      rw [← hX4]
      clear hX4
      refine hK _ _ (Till.mk' (((S0.trans D2 (by simp)).trans D3 (by simp)).trans D4 (by simp)) trivial) ?_
      clear hK K
      try simp only [List.setIfInBounds_toArray, List.set_cons_succ, List.set_cons_zero]
      refine reg_one 6 9 #[true, true, true, true, true, true, true, true, false, false, false, false, false, false, false, false, false] (by kernel_rfl) rfl (by rfl) (by kernel_rfl) (fun K hK => ?_)
      have T6 := (((S0.trans D2 (by simp)).trans D3 (by simp)).trans D4 (by simp))
      have m6 := M4.on (Turns.refl [] X4)
      have s6 := (((HR.out.2.2.1.turns T6 (by simp)).bytes (by simp [maxLen, HAB.out.2.1])).more (show p1 + 1 ≤ (X4).heap.size from Nat.le_trans HR.out.2.2.2.2.1 T6.size))
      obtain ⟨v6, X6, hr6, M6⟩ := mine_append m6 s6 (by simp [HAB.out.2.1]) 22
      obtain ⟨A6, c6, rfl, _⟩ := M6.len
      rw [show ([(1 : UInt8)] ++ la).length = 33 by simp [HAB.out.2.1]] at hr6
      rw [HAB.out.2.1] at hr6
      refine wp_append_run (P := Try.prog) (w := X4) (.tmp 11) (.tmp 12) (by rfl) (vs := _) (vx := _) (by rfl) (by rfl) (R := fun v w' => Value.slice A6 33 c6 = v ∧ X6 = w') ⟨_, _, hr6, rfl, rfl⟩ ?_
      rintro _ _ ⟨rfl, rfl⟩
      clear hr6
      have T8 : Turns [] y2 X6 := (((S0.trans D2 (by simp)).trans D3 (by simp))).trans M6.turns (by simp)
      have s8 := (((HR.out.2.2.2.1.turns T8 (by simp)).bytes (by simp [maxLen, HAB.out.2.2])).more (show p2 + 1 ≤ X6.heap.size from Nat.le_trans HR.out.2.2.2.2.2 T8.size))
      obtain ⟨v8, X8, hr8, M8⟩ := mine_append M6 s8 (by simp [HAB.out.2.1, HAB.out.2.2]) 22
      obtain ⟨A8, c8, rfl, _⟩ := M8.len
      rw [show ([(1 : UInt8)] ++ la).length = 33 by simp [HAB.out.2.1], show ([(1 : UInt8)] ++ la ++ lb).length = 65 by simp [HAB.out.2.1, HAB.out.2.2]] at hr8
      rw [HAB.out.2.2] at hr8
      have T9 : Turns [] y2 X8 := (((S0.trans D2 (by simp)).trans D3 (by simp))).trans M8.turns (by simp)
      have SU := refSum_any A8 _ c8 X8.heap.size ([1] ++ la ++ lb) X8 M8.sl (Nat.le_refl _) (by simp [HAB.out.2.1, HAB.out.2.2])
      rw [show ([(1 : UInt8)] ++ la ++ lb).length = 65 by simp [HAB.out.2.1, HAB.out.2.2], show bvs (sha ([1] ++ la ++ lb)) = res by rw [HRES.out.1]; rfl] at SU
      have SH := Lib.hid SU
      clear SU
      refine hK _ _ (Till.mk' T8 trivial) ?_
      clear hK K
      try simp only [List.setIfInBounds_toArray, List.set_cons_succ, List.set_cons_zero]
      refine reg_one 8 8 #[true, true, true, true, true, true, true, true, true, false, false, false, false, false, false, false, false] (by kernel_rfl) rfl (by rfl) (by kernel_rfl) (fun K hK => ?_)
      refine wp_append_run (P := Try.prog) (w := X6) (.tmp 13) (.tmp 14) (by rfl) (vs := _) (vx := _) (by rfl) (by rfl) (R := fun v w' => Value.slice A8 65 c8 = v ∧ X8 = w') ⟨_, _, hr8, rfl, rfl⟩ ?_
      rintro _ _ ⟨rfl, rfl⟩
      clear hr8
      refine hK _ _ (Till.mk' T9 trivial) ?_
      clear hK K
      try simp only [List.setIfInBounds_toArray, List.set_cons_succ, List.set_cons_zero]
      refine reg_one 9 7 #[true, true, true, true, true, true, true, true, true, true, false, false, false, false, false, false, false] (by kernel_rfl) rfl (by rfl) (by kernel_rfl) (fun K hK => ?_)
      go_simp
      refine SH.out.mono ?_
      rintro e X9 ⟨rfl, D9⟩
      have T10 : Turns [] y2 X9 := T9.trans D9 (by simp)
      refine hK _ _ (Till.mk' T10 trivial) ?_
      clear hK K
      try simp only [List.setIfInBounds_toArray, List.set_cons_succ, List.set_cons_zero]
      refine reg_take 10 17 6 #[true, true, true, true, true, true, true, true, true, true, true, false, false, false, false, false, false] (by rfl) (v := ?_) rfl rfl (by kernel_rfl) (by kernel_rfl) (by kernel_rfl) (by kernel_rfl) (fun _ _ _ h => h) (by rfl) ?_ (Till.mk' T10 trivial) ?_
      rotate_left
      · intro W hS; go_simp; all_goals with_reducible rfl
      try simp only [List.setIfInBounds_toArray, List.set_cons_succ, List.set_cons_zero]
      refine reg_take 11 18 5 #[true, true, true, true, true, true, true, true, true, true, true, true, false, false, false, false, false] (by rfl) (v := ?_) rfl rfl (by kernel_rfl) (by kernel_rfl) (by kernel_rfl) (by kernel_rfl) (fun _ _ _ h => h) (by rfl) ?_ (Till.mk' T10 trivial) ?_
      rotate_left
      · intro W hS; go_simp; all_goals with_reducible rfl
      try simp only [List.setIfInBounds_toArray, List.set_cons_succ, List.set_cons_zero]
      refine reg_one 12 4 #[true, true, true, true, true, true, true, true, true, true, true, true, true, false, false, false, false] (by kernel_rfl) rfl (by rfl) (by kernel_rfl) (fun K hK => ?_)
      go_simp
      refine (HRT.out 0 [] 0 rfl (by omega) (by omega) none 0 0 X9 Hs.nil (by omega)).mono ?_
      rintro e X12 ⟨rfl, D12⟩
      rw [show bvs (mroot []) = em by rw [mroot_nil, HRES.out.2]]
      have T12 : Turns [] y2 X12 := T10.trans D12 (by simp)
      refine hK _ _ (Till.mk' T12 trivial) ?_
      clear hK K
      try simp only [List.setIfInBounds_toArray, List.set_cons_succ, List.set_cons_zero]
      refine reg_one 13 3 #[true, true, true, true, true, true, true, true, true, true, true, true, true, true, false, false, false] (by kernel_rfl) rfl (by rfl) (by kernel_rfl) (fun K hK => ?_)
      go_simp
      refine (refSum_any none 0 0 0 [] X12 Sl.nil (by omega) (by simp)).mono ?_
      rintro e X13 ⟨rfl, D13⟩
      rw [← HRES.out.2]
      have T13 : Turns [] y2 X13 := T12.trans D13 (by simp)
      refine hK _ _ (Till.mk' T13 trivial) ?_
      clear hK K
      try simp only [List.setIfInBounds_toArray, List.set_cons_succ, List.set_cons_zero]
      refine reg_take 14 21 2 #[true, true, true, true, true, true, true, true, true, true, true, true, true, true, true, false, false] (by rfl) (v := ?_) rfl rfl (by kernel_rfl) (by kernel_rfl) (by kernel_rfl) (by kernel_rfl) (fun _ _ _ h => h) (by rfl) ?_ (Till.mk' T13 trivial) ?_
      rotate_left
      · intro W hS; go_simp; all_goals with_reducible rfl
      try simp only [List.setIfInBounds_toArray, List.set_cons_succ, List.set_cons_zero]
      refine reg_take 15 22 1 #[true, true, true, true, true, true, true, true, true, true, true, true, true, true, true, true, false] (by rfl) (v := ?_) rfl rfl (by kernel_rfl) (by kernel_rfl) (by kernel_rfl) (by kernel_rfl) (fun _ _ _ h => h) (by rfl) ?_ (Till.mk' T13 trivial) ?_
      rotate_left
      · intro W hS; go_simp; all_goals with_reducible rfl
      try simp only [List.setIfInBounds_toArray, List.set_cons_succ, List.set_cons_zero]
      refine reg_take 16 0 0 #[true, true, true, true, true, true, true, true, true, true, true, true, true, true, true, true, true] (by rfl) (v := ?_) rfl rfl (by kernel_rfl) (by kernel_rfl) (by kernel_rfl) (by kernel_rfl) (fun _ _ _ h => h) (by rfl) ?_ (Till.mk' T13 trivial) ?_
      rotate_left
      · intro W hS; go_simp; all_goals with_reducible rfl
      try simp only [List.setIfInBounds_toArray, List.set_cons_succ, List.set_cons_zero]
      refine reg_done (by kernel_rfl) ?_ _
      go_wp2_with fail
      go_ret
      exact ⟨rfl, T3.out.trans T13 (by simp)⟩
    · go_simp
      obtain ⟨X4, hX4⟩ : ∃ x, x = (X2).alloc (.cells #[.int .u8 1] 5) := ⟨_, rfl⟩
      have M4 : Mine (X2) X4 (.slice (some ⟨(X2).heap.size, 0, none⟩) 1 1) [1] := by rw [hX4]; exact mine_lit (X2) [1] (by simp [maxLen])
      have D4 : Turns [] (X2) X4 := M4.turns
      rw [← hX4]
      clear hX4
      refine hK _ _ (Till.mk' ((S0.trans D2 (by simp)).trans D4 (by simp)) trivial) ?_
      clear hK K
      try simp only [List.setIfInBounds_toArray, List.set_cons_succ, List.set_cons_zero]
      refine reg_one 3 10 #[true, true, true, true, true, true, false, true, false, false, false, false, false, false, false, false, false] (by kernel_rfl) rfl (by rfl) (by kernel_rfl) (fun K hK => ?_)
      go_simp
      refine (HRT.out 2 [la, lb] 2 rfl (by omega) (by omega) _ _ _ _ (hh2.turns ((Turns.refl [] X2).trans D4 (by simp)) (Nat.le_refl _) (by simp)) ((Turns.refl [] X2).trans D4 (by simp)).size).mono ?_
      rintro e X3 ⟨rfl, D3⟩
      rw [show bvs (mroot [la, lb]) = res by rw [mroot_pair, HRES.out.1]]
      refine hK _ _ (Till.mk' (((S0.trans D2 (by simp)).trans D4 (by simp)).trans D3 (by simp)) trivial) ?_
      clear hK K
      try simp only [List.setIfInBounds_toArray, List.set_cons_succ, List.set_cons_zero]
      refine reg_one 6 9 #[true, true, true, true, true, true, true, true, false, false, false, false, false, false, false, false, false] (by kernel_rfl) rfl (by rfl) (by kernel_rfl) (fun K hK => ?_)
      have T6 := (((S0.trans D2 (by simp)).trans D4 (by simp)).trans D3 (by simp))
      have m6 := M4.on ((Turns.refl [] X4).trans D3 (by simp))
      have s6 := (((HR.out.2.2.1.turns T6 (by simp)).bytes (by simp [maxLen, HAB.out.2.1])).more (show p1 + 1 ≤ (X3).heap.size from Nat.le_trans HR.out.2.2.2.2.1 T6.size))
      obtain ⟨v6, X6, hr6, M6⟩ := mine_append m6 s6 (by simp [HAB.out.2.1]) 22
      obtain ⟨A6, c6, rfl, _⟩ := M6.len
      rw [show ([(1 : UInt8)] ++ la).length = 33 by simp [HAB.out.2.1]] at hr6
      rw [HAB.out.2.1] at hr6
      refine wp_append_run (P := Try.prog) (w := X3) (.tmp 11) (.tmp 12) (by rfl) (vs := _) (vx := _) (by rfl) (by rfl) (R := fun v w' => Value.slice A6 33 c6 = v ∧ X6 = w') ⟨_, _, hr6, rfl, rfl⟩ ?_
      rintro _ _ ⟨rfl, rfl⟩
      clear hr6
      have T8 : Turns [] y2 X6 := ((S0.trans D2 (by simp))).trans M6.turns (by simp)
      have s8 := (((HR.out.2.2.2.1.turns T8 (by simp)).bytes (by simp [maxLen, HAB.out.2.2])).more (show p2 + 1 ≤ X6.heap.size from Nat.le_trans HR.out.2.2.2.2.2 T8.size))
      obtain ⟨v8, X8, hr8, M8⟩ := mine_append M6 s8 (by simp [HAB.out.2.1, HAB.out.2.2]) 22
      obtain ⟨A8, c8, rfl, _⟩ := M8.len
      rw [show ([(1 : UInt8)] ++ la).length = 33 by simp [HAB.out.2.1], show ([(1 : UInt8)] ++ la ++ lb).length = 65 by simp [HAB.out.2.1, HAB.out.2.2]] at hr8
      rw [HAB.out.2.2] at hr8
      have T9 : Turns [] y2 X8 := ((S0.trans D2 (by simp))).trans M8.turns (by simp)
      have SU := refSum_any A8 _ c8 X8.heap.size ([1] ++ la ++ lb) X8 M8.sl (Nat.le_refl _) (by simp [HAB.out.2.1, HAB.out.2.2])
      rw [show ([(1 : UInt8)] ++ la ++ lb).length = 65 by simp [HAB.out.2.1, HAB.out.2.2], show bvs (sha ([1] ++ la ++ lb)) = res by rw [HRES.out.1]; rfl] at SU
      have SH := Lib.hid SU
      clear SU
      refine hK _ _ (Till.mk' T8 trivial) ?_
      clear hK K
      try simp only [List.setIfInBounds_toArray, List.set_cons_succ, List.set_cons_zero]
      refine reg_one 8 8 #[true, true, true, true, true, true, true, true, true, false, false, false, false, false, false, false, false] (by kernel_rfl) rfl (by rfl) (by kernel_rfl) (fun K hK => ?_)
      refine wp_append_run (P := Try.prog) (w := X6) (.tmp 13) (.tmp 14) (by rfl) (vs := _) (vx := _) (by rfl) (by rfl) (R := fun v w' => Value.slice A8 65 c8 = v ∧ X8 = w') ⟨_, _, hr8, rfl, rfl⟩ ?_
      rintro _ _ ⟨rfl, rfl⟩
      clear hr8
      refine hK _ _ (Till.mk' T9 trivial) ?_
      clear hK K
      try simp only [List.setIfInBounds_toArray, List.set_cons_succ, List.set_cons_zero]
      refine reg_one 9 7 #[true, true, true, true, true, true, true, true, true, true, false, false, false, false, false, false, false] (by kernel_rfl) rfl (by rfl) (by kernel_rfl) (fun K hK => ?_)
      go_simp
      refine SH.out.mono ?_
      rintro e X9 ⟨rfl, D9⟩
      have T10 : Turns [] y2 X9 := T9.trans D9 (by simp)
      refine hK _ _ (Till.mk' T10 trivial) ?_
      clear hK K
      try simp only [List.setIfInBounds_toArray, List.set_cons_succ, List.set_cons_zero]
      refine reg_take 10 17 6 #[true, true, true, true, true, true, true, true, true, true, true, false, false, false, false, false, false] (by rfl) (v := ?_) rfl rfl (by kernel_rfl) (by kernel_rfl) (by kernel_rfl) (by kernel_rfl) (fun _ _ _ h => h) (by rfl) ?_ (Till.mk' T10 trivial) ?_
      rotate_left
      · intro W hS; go_simp; all_goals with_reducible rfl
      try simp only [List.setIfInBounds_toArray, List.set_cons_succ, List.set_cons_zero]
      refine reg_take 11 18 5 #[true, true, true, true, true, true, true, true, true, true, true, true, false, false, false, false, false] (by rfl) (v := ?_) rfl rfl (by kernel_rfl) (by kernel_rfl) (by kernel_rfl) (by kernel_rfl) (fun _ _ _ h => h) (by rfl) ?_ (Till.mk' T10 trivial) ?_
      rotate_left
      · intro W hS; go_simp; all_goals with_reducible rfl
      try simp only [List.setIfInBounds_toArray, List.set_cons_succ, List.set_cons_zero]
      refine reg_one 12 4 #[true, true, true, true, true, true, true, true, true, true, true, true, true, false, false, false, false] (by kernel_rfl) rfl (by rfl) (by kernel_rfl) (fun K hK => ?_)
      go_simp
      refine (HRT.out 0 [] 0 rfl (by omega) (by omega) none 0 0 X9 Hs.nil (by omega)).mono ?_
      rintro e X12 ⟨rfl, D12⟩
      rw [show bvs (mroot []) = em by rw [mroot_nil, HRES.out.2]]
      have T12 : Turns [] y2 X12 := T10.trans D12 (by simp)
      refine hK _ _ (Till.mk' T12 trivial) ?_
      clear hK K
      try simp only [List.setIfInBounds_toArray, List.set_cons_succ, List.set_cons_zero]
      refine reg_one 13 3 #[true, true, true, true, true, true, true, true, true, true, true, true, true, true, false, false, false] (by kernel_rfl) rfl (by rfl) (by kernel_rfl) (fun K hK => ?_)
      go_simp
      refine (refSum_any none 0 0 0 [] X12 Sl.nil (by omega) (by simp)).mono ?_
      rintro e X13 ⟨rfl, D13⟩
      rw [← HRES.out.2]
      have T13 : Turns [] y2 X13 := T12.trans D13 (by simp)
      refine hK _ _ (Till.mk' T13 trivial) ?_
      clear hK K
      try simp only [List.setIfInBounds_toArray, List.set_cons_succ, List.set_cons_zero]
      refine reg_take 14 21 2 #[true, true, true, true, true, true, true, true, true, true, true, true, true, true, true, false, false] (by rfl) (v := ?_) rfl rfl (by kernel_rfl) (by kernel_rfl) (by kernel_rfl) (by kernel_rfl) (fun _ _ _ h => h) (by rfl) ?_ (Till.mk' T13 trivial) ?_
      rotate_left
      · intro W hS; go_simp; all_goals with_reducible rfl
      try simp only [List.setIfInBounds_toArray, List.set_cons_succ, List.set_cons_zero]
      refine reg_take 15 22 1 #[true, true, true, true, true, true, true, true, true, true, true, true, true, true, true, true, false] (by rfl) (v := ?_) rfl rfl (by kernel_rfl) (by kernel_rfl) (by kernel_rfl) (by kernel_rfl) (fun _ _ _ h => h) (by rfl) ?_ (Till.mk' T13 trivial) ?_
      rotate_left
      · intro W hS; go_simp; all_goals with_reducible rfl
      try simp only [List.setIfInBounds_toArray, List.set_cons_succ, List.set_cons_zero]
      refine reg_take 16 0 0 #[true, true, true, true, true, true, true, true, true, true, true, true, true, true, true, true, true] (by rfl) (v := ?_) rfl rfl (by kernel_rfl) (by kernel_rfl) (by kernel_rfl) (by kernel_rfl) (fun _ _ _ h => h) (by rfl) ?_ (Till.mk' T13 trivial) ?_
      rotate_left
      · intro W hS; go_simp; all_goals with_reducible rfl
      try simp only [List.setIfInBounds_toArray, List.set_cons_succ, List.set_cons_zero]
      refine reg_done (by kernel_rfl) ?_ _
      go_wp2_with fail
      go_ret
      exact ⟨rfl, T3.out.trans T13 (by simp)⟩
  · go_simp
    obtain ⟨X4, hX4⟩ : ∃ x, x = (Y).alloc (.cells #[.int .u8 1] 5) := ⟨_, rfl⟩
    have M4 : Mine (Y) X4 (.slice (some ⟨(Y).heap.size, 0, none⟩) 1 1) [1] := by rw [hX4]; exact mine_lit (Y) [1] (by simp [maxLen])
    have D4 : Turns [] (Y) X4 := M4.turns
    rw [← hX4]
    clear hX4
    refine hK _ _ (Till.mk' (S0.trans D4 (by simp)) trivial) ?_
    clear hK K
    try simp only [List.setIfInBounds_toArray, List.set_cons_succ, List.set_cons_zero]
    refine reg_one 2 11 #[true, true, true, false, true, true, false, true, false, false, false, false, false, false, false, false, false] (by kernel_rfl) rfl (by rfl) (by kernel_rfl) (fun K hK => ?_)
    refine wp_build_hash2 la lb HAB.out.2.1 HAB.out.2.2 (.tmp 7) (.tmp 8) (by rfl) (by rfl) (by rfl) ?_
    obtain ⟨X2, hX2⟩ : ∃ x, x = (X4).alloc (.cells (hcells [la, lb]).toArray 27) := ⟨_, rfl⟩
    have D2 : Turns [] (X4) X2 := by rw [hX2]; exact (Turns.refl _ _).alloc _
    have hh2 : Hs X2 X2.heap.size (.slice (some ⟨(X4).heap.size, 0, none⟩) 2 2) [la, lb] := by rw [hX2]; exact (Hs.lit _ [la, lb] (by intro h hh; simp at hh; rcases hh with rfl | rfl; exact HAB.out.2.1; exact HAB.out.2.2) (by simp [maxLen]) _).more (by simp)
    rw [← hX2]
    clear hX2
    refine hK _ _ (Till.mk' ((S0.trans D4 (by simp)).trans D2 (by simp)) trivial) ?_
    clear hK K
    try simp only [List.setIfInBounds_toArray, List.set_cons_succ, List.set_cons_zero]
    refine reg_one 3 10 #[true, true, true, true, true, true, false, true, false, false, false, false, false, false, false, false, false] (by kernel_rfl) rfl (by rfl) (by kernel_rfl) (fun K hK => ?_)
    go_simp
    refine (HRT.out 2 [la, lb] 2 rfl (by omega) (by omega) _ _ _ _ (hh2.turns (Turns.refl [] X2) (Nat.le_refl _) (by simp)) (Turns.refl [] X2).size).mono ?_
    rintro e X3 ⟨rfl, D3⟩
    rw [show bvs (mroot [la, lb]) = res by rw [mroot_pair, HRES.out.1]]
    refine hK _ _ (Till.mk' (((S0.trans D4 (by simp)).trans D2 (by simp)).trans D3 (by simp)) trivial) ?_
    clear hK K
    try simp only [List.setIfInBounds_toArray, List.set_cons_succ, List.set_cons_zero]
    refine reg_one 6 9 #[true, true, true, true, true, true, true, true, false, false, false, false, false, false, false, false, false] (by kernel_rfl) rfl (by rfl) (by kernel_rfl) (fun K hK => ?_)
    have T6 := (((S0.trans D4 (by simp)).trans D2 (by simp)).trans D3 (by simp))
    have m6 := M4.on (((Turns.refl [] X4).trans D2 (by simp)).trans D3 (by simp))
    have s6 := (((HR.out.2.2.1.turns T6 (by simp)).bytes (by simp [maxLen, HAB.out.2.1])).more (show p1 + 1 ≤ (X3).heap.size from Nat.le_trans HR.out.2.2.2.2.1 T6.size))
    obtain ⟨v6, X6, hr6, M6⟩ := mine_append m6 s6 (by simp [HAB.out.2.1]) 22
    obtain ⟨A6, c6, rfl, _⟩ := M6.len
    rw [show ([(1 : UInt8)] ++ la).length = 33 by simp [HAB.out.2.1]] at hr6
    rw [HAB.out.2.1] at hr6
    refine wp_append_run (P := Try.prog) (w := X3) (.tmp 11) (.tmp 12) (by rfl) (vs := _) (vx := _) (by rfl) (by rfl) (R := fun v w' => Value.slice A6 33 c6 = v ∧ X6 = w') ⟨_, _, hr6, rfl, rfl⟩ ?_
    rintro _ _ ⟨rfl, rfl⟩
    clear hr6
    have T8 : Turns [] y2 X6 := (S0).trans M6.turns (by simp)
    have s8 := (((HR.out.2.2.2.1.turns T8 (by simp)).bytes (by simp [maxLen, HAB.out.2.2])).more (show p2 + 1 ≤ X6.heap.size from Nat.le_trans HR.out.2.2.2.2.2 T8.size))
    obtain ⟨v8, X8, hr8, M8⟩ := mine_append M6 s8 (by simp [HAB.out.2.1, HAB.out.2.2]) 22
    obtain ⟨A8, c8, rfl, _⟩ := M8.len
    rw [show ([(1 : UInt8)] ++ la).length = 33 by simp [HAB.out.2.1], show ([(1 : UInt8)] ++ la ++ lb).length = 65 by simp [HAB.out.2.1, HAB.out.2.2]] at hr8
    rw [HAB.out.2.2] at hr8
    have T9 : Turns [] y2 X8 := (S0).trans M8.turns (by simp)
    have SU := refSum_any A8 _ c8 X8.heap.size ([1] ++ la ++ lb) X8 M8.sl (Nat.le_refl _) (by simp [HAB.out.2.1, HAB.out.2.2])
    rw [show ([(1 : UInt8)] ++ la ++ lb).length = 65 by simp [HAB.out.2.1, HAB.out.2.2], show bvs (sha ([1] ++ la ++ lb)) = res by rw [HRES.out.1]; rfl] at SU
    have SH := Lib.hid SU
    clear SU
    refine hK _ _ (Till.mk' T8 trivial) ?_
    clear hK K
    try simp only [List.setIfInBounds_toArray, List.set_cons_succ, List.set_cons_zero]
    refine reg_one 8 8 #[true, true, true, true, true, true, true, true, true, false, false, false, false, false, false, false, false] (by kernel_rfl) rfl (by rfl) (by kernel_rfl) (fun K hK => ?_)
    refine wp_append_run (P := Try.prog) (w := X6) (.tmp 13) (.tmp 14) (by rfl) (vs := _) (vx := _) (by rfl) (by rfl) (R := fun v w' => Value.slice A8 65 c8 = v ∧ X8 = w') ⟨_, _, hr8, rfl, rfl⟩ ?_
    rintro _ _ ⟨rfl, rfl⟩
    clear hr8
    refine hK _ _ (Till.mk' T9 trivial) ?_
    clear hK K
    try simp only [List.setIfInBounds_toArray, List.set_cons_succ, List.set_cons_zero]
    refine reg_one 9 7 #[true, true, true, true, true, true, true, true, true, true, false, false, false, false, false, false, false] (by kernel_rfl) rfl (by rfl) (by kernel_rfl) (fun K hK => ?_)
    go_simp
    refine SH.out.mono ?_
    rintro e X9 ⟨rfl, D9⟩
    have T10 : Turns [] y2 X9 := T9.trans D9 (by simp)
    refine hK _ _ (Till.mk' T10 trivial) ?_
    clear hK K
    try simp only [List.setIfInBounds_toArray, List.set_cons_succ, List.set_cons_zero]
    refine reg_take 10 17 6 #[true, true, true, true, true, true, true, true, true, true, true, false, false, false, false, false, false] (by rfl) (v := ?_) rfl rfl (by kernel_rfl) (by kernel_rfl) (by kernel_rfl) (by kernel_rfl) (fun _ _ _ h => h) (by rfl) ?_ (Till.mk' T10 trivial) ?_
    rotate_left
    · intro W hS; go_simp; all_goals with_reducible rfl
    try simp only [List.setIfInBounds_toArray, List.set_cons_succ, List.set_cons_zero]
    refine reg_take 11 18 5 #[true, true, true, true, true, true, true, true, true, true, true, true, false, false, false, false, false] (by rfl) (v := ?_) rfl rfl (by kernel_rfl) (by kernel_rfl) (by kernel_rfl) (by kernel_rfl) (fun _ _ _ h => h) (by rfl) ?_ (Till.mk' T10 trivial) ?_
    rotate_left
    · intro W hS; go_simp; all_goals with_reducible rfl
    try simp only [List.setIfInBounds_toArray, List.set_cons_succ, List.set_cons_zero]
    refine reg_one 12 4 #[true, true, true, true, true, true, true, true, true, true, true, true, true, false, false, false, false] (by kernel_rfl) rfl (by rfl) (by kernel_rfl) (fun K hK => ?_)
    go_simp
    refine (HRT.out 0 [] 0 rfl (by omega) (by omega) none 0 0 X9 Hs.nil (by omega)).mono ?_
    rintro e X12 ⟨rfl, D12⟩
    rw [show bvs (mroot []) = em by rw [mroot_nil, HRES.out.2]]
    have T12 : Turns [] y2 X12 := T10.trans D12 (by simp)
    refine hK _ _ (Till.mk' T12 trivial) ?_
    clear hK K
    try simp only [List.setIfInBounds_toArray, List.set_cons_succ, List.set_cons_zero]
    refine reg_one 13 3 #[true, true, true, true, true, true, true, true, true, true, true, true, true, true, false, false, false] (by kernel_rfl) rfl (by rfl) (by kernel_rfl) (fun K hK => ?_)
    go_simp
    refine (refSum_any none 0 0 0 [] X12 Sl.nil (by omega) (by simp)).mono ?_
    rintro e X13 ⟨rfl, D13⟩
    rw [← HRES.out.2]
    have T13 : Turns [] y2 X13 := T12.trans D13 (by simp)
    refine hK _ _ (Till.mk' T13 trivial) ?_
    clear hK K
    try simp only [List.setIfInBounds_toArray, List.set_cons_succ, List.set_cons_zero]
    refine reg_take 14 21 2 #[true, true, true, true, true, true, true, true, true, true, true, true, true, true, true, false, false] (by rfl) (v := ?_) rfl rfl (by kernel_rfl) (by kernel_rfl) (by kernel_rfl) (by kernel_rfl) (fun _ _ _ h => h) (by rfl) ?_ (Till.mk' T13 trivial) ?_
    rotate_left
    · intro W hS; go_simp; all_goals with_reducible rfl
    try simp only [List.setIfInBounds_toArray, List.set_cons_succ, List.set_cons_zero]
    refine reg_take 15 22 1 #[true, true, true, true, true, true, true, true, true, true, true, true, true, true, true, true, false] (by rfl) (v := ?_) rfl rfl (by kernel_rfl) (by kernel_rfl) (by kernel_rfl) (by kernel_rfl) (fun _ _ _ h => h) (by rfl) ?_ (Till.mk' T13 trivial) ?_
    rotate_left
    · intro W hS; go_simp; all_goals with_reducible rfl
    try simp only [List.setIfInBounds_toArray, List.set_cons_succ, List.set_cons_zero]
    refine reg_take 16 0 0 #[true, true, true, true, true, true, true, true, true, true, true, true, true, true, true, true, true] (by rfl) (v := ?_) rfl rfl (by kernel_rfl) (by kernel_rfl) (by kernel_rfl) (by kernel_rfl) (fun _ _ _ h => h) (by rfl) ?_ (Till.mk' T13 trivial) ?_
    rotate_left
    · intro W hS; go_simp; all_goals with_reducible rfl
    try simp only [List.setIfInBounds_toArray, List.set_cons_succ, List.set_cons_zero]
    refine reg_done (by kernel_rfl) ?_ _
    go_wp2_with fail
    go_ret
    exact ⟨rfl, T3.out.trans T13 (by simp)⟩
end Go.Proofs.Ytnjnealphbcamaa
