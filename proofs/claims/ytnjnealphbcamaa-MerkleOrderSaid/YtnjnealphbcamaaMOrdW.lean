/- MerkleOrder, walked. -/
import Derived.Test.YtnjnealphbcamaaMOrder
namespace Go.Proofs.Ytnjnealphbcamaa
open Go.RowKit
set_option linter.unusedVariables false
set_option maxRecDepth 10000
set_option linter.unusedSimpArgs false
set_option linter.unnecessarySimpa false

set_option maxRecDepth 100000 in
set_option maxHeartbeats 4000000 in
theorem MerkleOrder_walk (n0 i0 j0 : Int) (w : World) (hn1 : -9223372036854775808 ≤ n0 ∧ n0 ≤ 9223372036854775807) (hi1 : -9223372036854775808 ≤ i0 ∧ i0 ≤ 9223372036854775807) (hj1 : -9223372036854775808 ≤ j0 ∧ j0 ≤ 9223372036854775807) :
    Calls Try.prog 5 #[.int .i64 n0, .int .i64 i0, .int .i64 j0] w fun e w' => e = .returned (.bool true) ∧ Below w.heap.size w w' := by
  obtain ⟨q, hq, hq20⟩ : ∃ q : Nat, (q : Int) = n0 % 30 ∧ q < 30 := ⟨(n0 % 30).toNat, by omega, by omega⟩
  have WI := fun w => within_any n0 30 w hn1.1 hn1.2 (by omega) (by omega)
  rw [← hq] at WI
  have HWI := Lib.hid WI
  have KN := Lib.hid (known_any w)
  have hqi : (q : Int) < 30 := by omega
  have HN := Lib.hid hq20
  have HI := Lib.hid (And.intro hi1 hj1)
  clear hq WI hn1 hq20 hi1 hj1
  go_enter Try.func5, Try.ntmps5
  go_wp2_with fail
  refine KN.out.mono ?_
  rintro e w1 ⟨rfl, t1⟩
  have HT1 := Lib.hid t1
  clear t1 KN
  go_wp2_with fail
  refine (HWI.out w1).mono ?_
  rintro e w2 ⟨rfl, rfl⟩
  clear HWI
  go_wp2_with fail
  obtain ⟨n, hn⟩ : ∃ n, n = q + 2 := ⟨_, rfl⟩
  rw [show (2 : Int) + (q : Int) = ((n : Nat) : Int) by omega]
  have hni : (n : Int) ≤ 32 := by omega
  have hn0 : 0 < (n : Int) := by omega
  have HN2 := Lib.hid (show 0 < n ∧ n ≤ 32 by have := HN.out; omega)
  clear hn hqi HN
  refine (within_any i0 n w1 HI.out.1.1 HI.out.1.2 (by have := HN2.out; omega) (by have := HN2.out; omega)).mono ?_
  rintro e w2 ⟨rfl, rfl⟩
  obtain ⟨i, hi⟩ : ∃ x : Nat, (x : Int) = i0 % (n : Int) := ⟨(i0 % (n : Int)).toNat, by have := Int.emod_nonneg i0 (show (n : Int) ≠ 0 by omega); omega⟩
  have hin : i < n := by have := Int.emod_lt_of_pos i0 hn0; omega
  rw [← hi]
  clear hi
  go_wp2_with fail
  refine (within_any j0 n w1 HI.out.2.1 HI.out.2.2 (by have := HN2.out; omega) (by have := HN2.out; omega)).mono ?_
  rintro e w2 ⟨rfl, rfl⟩
  obtain ⟨j, hj⟩ : ∃ x : Nat, (x : Int) = j0 % (n : Int) := ⟨(j0 % (n : Int)).toNat, by have := Int.emod_nonneg j0 (show (n : Int) ≠ 0 by omega); omega⟩
  have hjn : j < n := by have := Int.emod_lt_of_pos j0 hn0; omega
  rw [← hj]
  have HIJ := Lib.hid (And.intro hin hjn)
  clear hj hin hjn
  go_wp2_with fail
  refine (Hashes_any n (by have := HN2.out; omega) w1).mono ?_
  rintro e w2 ⟨A3, c3, rfl, m3⟩
  have M3 := Lib.hid m3
  clear m3
  go_wp2_with fail
  refine (Hashes_any n (by have := HN2.out; omega) w2).mono ?_
  rintro e w3 ⟨A4, c4, rfl, m4⟩
  obtain ⟨g, rfl, hg1, hg2, hrow⟩ := m4.hrow (hashesL_len n) HN2.out.1
  obtain ⟨_, _, hv, hnc, hcm⟩ := m4.hs.form
  injection hv with e1 e2 e3
  subst e3
  clear e1 e2
  rw [hashesL_len] at hnc
  have hil : i < (hashesL n).length := by rw [hashesL_len]; exact HIJ.out.1
  have hjl : j < (hashesL n).length := by rw [hashesL_len]; exact HIJ.out.2
  have hall := hashesL_all n
  obtain ⟨x, hx⟩ : ∃ x, (hashesL n)[i]? = some x := ⟨_, List.getElem?_eq_getElem hil⟩
  obtain ⟨y, hy⟩ : ∃ y, (hashesL n)[j]? = some y := ⟨_, List.getElem?_eq_getElem hjl⟩
  have hx32 := hall x (List.mem_of_getElem? hx)
  have hy32 := hall y (List.mem_of_getElem? hy)
  have rx := hrow i x hx
  have ry := hrow j y hy
  have hrowd : HRow w3.drew g (hashesL n) := fun k z hz => hrow k z hz
  have hset1 := hrowd.set i hil y hy32 hall
  have hall1 : ∀ z ∈ (hashesL n).set i y, z.length = 32 := by
    intro z hz
    rcases List.mem_or_eq_of_mem_set hz with h | h
    · exact hall z h
    · rw [h]; exact hy32
  have hset2 := hset1.set j (by simpa using hjl) x hx32 hall1
  have hall2 : ∀ z ∈ ((hashesL n).set i y).set j x, z.length = 32 := by
    intro z hz
    rcases List.mem_or_eq_of_mem_set hz with h | h
    · exact hall1 z h
    · rw [h]; exact hx32
  have hlen2 : (((hashesL n).set i y).set j x).length = n := by simp [hashesL_len]
  have hsame : i = j → ((hashesL n).set i y).set j x = hashesL n := by
    intro e
    subst e
    rw [List.set_set]
    apply List.ext_getElem?
    intro q
    by_cases eq : i = q
    · subst eq; rw [List.getElem?_set_self hil, hx]
    · rw [List.getElem?_set_ne eq]
  have hth := (hset1 j _ (List.getElem?_eq_getElem (by simpa using hjl))).2
  obtain ⟨ms, hms⟩ : ∃ ms, ms = ((hashesL n).set i y).set j x := ⟨_, rfl⟩
  rw [← hms] at hset2 hall2 hlen2 hsame
  have hT : Turns [] w3 w3.drew := (Turns.refl _ _).drew
  have HG := Lib.hid (And.intro (And.intro rx ry) (And.intro hset2 (And.intro hall2 (And.intro hlen2 (And.intro hsame (And.intro hth (And.intro hg1 (And.intro hg2 (And.intro hnc hcm)))))))))
  have hsx := Lib.hid (show (Try.prog.info? 27).map (·.size) = some (bvs x).length by rw [size_hash, bvs_length, hx32])
  have hsy := Lib.hid (show (Try.prog.info? 27).map (·.size) = some (bvs y).length by rw [size_hash, bvs_length, hy32])
  have HXY := Lib.hid (And.intro hx32 hy32)
  have T4 := Lib.hid m4.turns
  have zi : (i : Int) < (n : Int) := by have := HIJ.out; omega
  have zj : (j : Int) < (n : Int) := by have := HIJ.out; omega
  clear m4 hrow hrowd hil hjl hall hx hy rx ry hset1 hset2 hall1 hall2 hlen2 hsame hth hms hg1 hg2 hnc hcm hx32 hy32
  go_upto_region 6 with fail
  refine reg_begin (fun _ => True) (fun W => Turns [] w3 W) 13 16 #[false, false, false, false, false, false, false, false, false, false, false, false, false, false, false, false] (by kernel_rfl) (by kernel_rfl) (by kernel_rfl) ?_
  refine reg_take 0 24 15 #[true, false, false, false, false, false, false, false, false, false, false, false, false, false, false, false] (by rfl) (v := ?_) rfl rfl (by kernel_rfl) (by kernel_rfl) (by kernel_rfl) (by kernel_rfl) (fun _ _ _ h => h) (by rfl) ?_ (Till.mk' trivial hT) ?_
  rotate_left
  · intro W hS; go_simp; all_goals with_reducible rfl
  try simp only [List.setIfInBounds_toArray, List.set_cons_succ, List.set_cons_zero]
  refine reg_take 1 25 14 #[true, true, false, false, false, false, false, false, false, false, false, false, false, false, false, false] (by rfl) (v := ?_) rfl rfl (by kernel_rfl) (by kernel_rfl) (by kernel_rfl) (by kernel_rfl) (fun _ _ _ h => h) (by rfl) ?_ (Till.mk' trivial hT) ?_
  rotate_left
  · intro W hS; go_simp; all_goals with_reducible rfl
  try simp only [List.setIfInBounds_toArray, List.set_cons_succ, List.set_cons_zero]
  refine reg_take 2 26 13 #[true, true, true, false, false, false, false, false, false, false, false, false, false, false, false, false] (by rfl) (v := ?_) rfl rfl (by kernel_rfl) (by kernel_rfl) (by kernel_rfl) (by kernel_rfl) (fun _ _ _ h => h) (by rfl) ?_ (Till.mk' trivial hT) ?_
  rotate_left
  · intro W hS; go_simp; all_goals with_reducible rfl
  try simp only [List.setIfInBounds_toArray, List.set_cons_succ, List.set_cons_zero]
  refine reg_take 3 27 12 #[true, true, true, true, false, false, false, false, false, false, false, false, false, false, false, false] (by rfl) (v := ?_) rfl rfl (by kernel_rfl) (by kernel_rfl) (by kernel_rfl) (by kernel_rfl) (fun _ _ _ h => h) (by rfl) ?_ (Till.mk' trivial hT) ?_
  rotate_left
  · intro W hS; go_simp; all_goals with_reducible rfl
  try simp only [List.setIfInBounds_toArray, List.set_cons_succ, List.set_cons_zero]
  refine reg_take 4 28 11 #[true, true, true, true, true, false, false, false, false, false, false, false, false, false, false, false] (by rfl) (v := ?_) rfl rfl (by kernel_rfl) (by kernel_rfl) (by kernel_rfl) (by kernel_rfl) (fun _ _ _ h => h) (by rfl) ?_ (Till.mk' trivial hT) ?_
  rotate_left
  · intro W hS; go_simp; all_goals with_reducible rfl
  try simp only [List.setIfInBounds_toArray, List.set_cons_succ, List.set_cons_zero]
  refine reg_take 5 29 10 #[true, true, true, true, true, true, false, false, false, false, false, false, false, false, false, false] (by rfl) (v := ?_) rfl rfl (by kernel_rfl) (by kernel_rfl) (by kernel_rfl) (by kernel_rfl) (fun _ _ _ h => h) (by rfl) ?_ (Till.mk' trivial hT) ?_
  rotate_left
  · intro W hS; go_simp; all_goals with_reducible rfl
  try simp only [List.setIfInBounds_toArray, List.set_cons_succ, List.set_cons_zero]
  refine reg_take 6 30 9 #[true, true, true, true, true, true, true, false, false, false, false, false, false, false, false, false] (by rfl) (v := ?_) rfl rfl (by kernel_rfl) (by kernel_rfl) (by kernel_rfl) (by kernel_rfl) (fun _ _ _ h => h) (by rfl) ?_ (Till.mk' trivial hT) ?_
  rotate_left
  · intro W hS; go_simp; all_goals with_reducible rfl
  try simp only [List.setIfInBounds_toArray, List.set_cons_succ, List.set_cons_zero]
  refine reg_take_yt 7 31 8 #[true, true, true, true, true, true, true, true, false, false, false, false, false, false, false, false] (by rfl) rfl rfl (by kernel_rfl) (by kernel_rfl) (by kernel_rfl) (by kernel_rfl) (fun _ _ _ h => h) (by kernel_rfl) (by kernel_rfl) (yieldsIf_load_mid (by rfl) _ _ rfl g (j * 32) (by rfl) (bvs y) _ (fun W hS => rangeT hS.2 HG.out.1.2.1 (by simp)) Try.underlying27 rfl hsy.out) (Till.mk' trivial hT) ?_
  try simp only [List.setIfInBounds_toArray, List.set_cons_succ, List.set_cons_zero]
  refine reg_take 8 32 7 #[true, true, true, true, true, true, true, true, true, false, false, false, false, false, false, false] (by rfl) (v := ?_) rfl rfl (by kernel_rfl) (by kernel_rfl) (by kernel_rfl) (by kernel_rfl) (fun _ _ _ h => h) (by rfl) ?_ (Till.mk' trivial hT) ?_
  rotate_left
  · intro W hS; go_simp; all_goals with_reducible rfl
  try simp only [List.setIfInBounds_toArray, List.set_cons_succ, List.set_cons_zero]
  refine reg_take 9 33 6 #[true, true, true, true, true, true, true, true, true, true, false, false, false, false, false, false] (by rfl) (v := ?_) rfl rfl (by kernel_rfl) (by kernel_rfl) (by kernel_rfl) (by kernel_rfl) (fun _ _ _ h => h) (by rfl) ?_ (Till.mk' trivial hT) ?_
  rotate_left
  · intro W hS; go_simp; all_goals with_reducible rfl
  try simp only [List.setIfInBounds_toArray, List.set_cons_succ, List.set_cons_zero]
  refine reg_take 10 34 5 #[true, true, true, true, true, true, true, true, true, true, true, false, false, false, false, false] (by rfl) (v := ?_) rfl rfl (by kernel_rfl) (by kernel_rfl) (by kernel_rfl) (by kernel_rfl) (fun _ _ _ h => h) (by rfl) ?_ (Till.mk' trivial hT) ?_
  rotate_left
  · intro W hS; go_simp; all_goals with_reducible rfl
  try simp only [List.setIfInBounds_toArray, List.set_cons_succ, List.set_cons_zero]
  refine reg_take_yt 11 35 4 #[true, true, true, true, true, true, true, true, true, true, true, true, false, false, false, false] (by rfl) rfl rfl (by kernel_rfl) (by kernel_rfl) (by kernel_rfl) (by kernel_rfl) (fun _ _ _ h => h) (by kernel_rfl) (by kernel_rfl) (yieldsIf_load_mid (by rfl) _ _ rfl g (i * 32) (by rfl) (bvs x) _ (fun W hS => rangeT hS.2 HG.out.1.1.1 (by simp)) Try.underlying27 rfl hsx.out) (Till.mk' trivial hT) ?_
  try simp only [List.setIfInBounds_toArray, List.set_cons_succ, List.set_cons_zero]
  refine reg_take 12 36 3 #[true, true, true, true, true, true, true, true, true, true, true, true, true, false, false, false] (by rfl) (v := ?_) rfl rfl (by kernel_rfl) (by kernel_rfl) (by kernel_rfl) (by kernel_rfl) (fun _ _ _ h => h) (by rfl) ?_ (Till.mk' trivial hT) ?_
  rotate_left
  · intro W hS; go_simp; all_goals with_reducible rfl
  try simp only [List.setIfInBounds_toArray, List.set_cons_succ, List.set_cons_zero]
  refine reg_one 13 2 #[true, true, true, true, true, true, true, true, true, true, true, true, true, true, false, false] (by kernel_rfl) rfl (by rfl) (by kernel_rfl) (fun K hK => ?_)
  refine wp_store_mid 27 _ _ (by rfl) g (i * 32) (bvs y).toArray (by rfl) (by rfl) (by rw [List.size_toArray, bvs_length, HXY.out.2]; exact HG.out.1.1.2) (by rw [List.size_toArray]; exact hsy.out) (all_oneCell_toArray (bvs_one y)) ?_
  refine hK _ _ (Till.past trivial (by kernel_rfl)) ?_
  clear hK K
  try simp only [List.setIfInBounds_toArray, List.set_cons_succ, List.set_cons_zero]
  refine reg_take 14 37 1 #[true, true, true, true, true, true, true, true, true, true, true, true, true, true, true, false] (by rfl) (v := ?_) rfl rfl (by kernel_rfl) (by kernel_rfl) (by kernel_rfl) (by kernel_rfl) (fun _ _ _ h => h) (by rfl) ?_ (Till.past trivial (by kernel_rfl)) ?_
  rotate_left
  · intro W hS; go_simp; all_goals with_reducible rfl
  try simp only [List.setIfInBounds_toArray, List.set_cons_succ, List.set_cons_zero]
  refine reg_one 15 0 #[true, true, true, true, true, true, true, true, true, true, true, true, true, true, true, true] (by kernel_rfl) rfl (by rfl) (by kernel_rfl) (fun K hK => ?_)
  refine wp_store_mid 27 _ _ (by rfl) g (j * 32) (bvs x).toArray (by rfl) (by rfl) (by rw [List.size_toArray, bvs_length, HXY.out.1]; exact HG.out.2.2.2.2.2.1) (by rw [List.size_toArray]; exact hsx.out) (all_oneCell_toArray (bvs_one x)) ?_
  refine hK _ _ (Till.past trivial (by kernel_rfl)) ?_
  clear hK K
  try simp only [List.setIfInBounds_toArray, List.set_cons_succ, List.set_cons_zero]
  refine reg_done (by kernel_rfl) ?_ _
  obtain ⟨w6, hw6⟩ : ∃ W, W = (w3.drew.setCells g (i * 32) (bvs y)).setCells g (j * 32) (bvs x) := ⟨_, rfl⟩
  have t36 : Turns [g] w3 w6 := by rw [hw6]; exact Turns.setCells (.inl (by simp)) _ _ (Turns.setCells (.inl (by simp)) _ _ (Turns.refl [g] w3).drew)
  have hr6 : HRow w6 g ms := by rw [hw6]; exact HG.out.2.1
  have hgw6 : g < w6.heap.size := Nat.lt_of_lt_of_le HG.out.2.2.2.2.2.2.2.1 t36.size
  have hs6 := hr6.hs HG.out.2.2.2.1 HG.out.2.2.2.2.2.2.2.2.1 HG.out.2.2.2.2.2.2.2.2.2 HG.out.2.2.1 hgw6
  have t26 : Turns [] w2 w6 := T4.out.trans t36 (by intro q hq; simp at hq; subst hq; exact .inr HG.out.2.2.2.2.2.2.1)
  have hl6 := M3.out.hs.turns t26 (Nat.le_refl _) (by simp)
  have H6 := Lib.hid (And.intro hs6 (And.intro t26 hl6))
  have rl := mroot_len (hashesL n) (hashesL_all n)
  have rm := mroot_len ms HG.out.2.2.1
  have hse := HG.out.2.2.2.2.1
  obtain ⟨ml, hml⟩ : ∃ r, r = mroot (hashesL n) := ⟨_, rfl⟩
  obtain ⟨mm, hmm⟩ : ∃ r, r = mroot ms := ⟨_, rfl⟩
  rw [← hml] at rl
  rw [← hmm] at rm
  have hsm : i = j → ml = mm := fun e => by rw [hml, hmm, hse e]
  have HR := Lib.hid (And.intro hml hmm)
  have eq1 := eqlS mm rm
  have eq2 := eqlH ml mm rl rm
  have fin : Turns [] w w6 := (HT1.out.trans M3.out.turns (by simp)).trans t26 (by simp)
  have HFIN := Lib.hid fin
  have hn32 := Lib.hid HN2.out.2
  have HLM := Lib.hid HG.out.2.2.2.1
  clear t36 hr6 hgw6 hs6 t26 hl6 rl rm hse hml hmm fin
  by_cases hij : i = j
  · have e0 := hsm hij
    have zb : ((i : Int) == (j : Int)) = true := by simp [hij]
    have zb2 : (i == j) = true := by simp [hij]
    rw [show (ml == mm) = true by simp [e0]] at eq2
    clear hsm e0 hij
    rw [← hw6]
    clear hw6
    go_wp2_with fail
    refine (Root_any n (ms) n HLM.out (Nat.le_refl _) (by have := hn32.out; omega) (some ⟨g, 0, none⟩) c4 (w6.heap.size) w6 H6.out.1 (Nat.le_refl _)).mono ?_
    rintro e wa ⟨rfl, t_wa⟩
    rw [← HR.out.2]
    have H7_wa := Lib.hid (show Turns [] w6 wa from t_wa)
    clear t_wa
    go_wp2_with fail
    refine (refRoot_any n (ms) n HLM.out (Nat.le_refl _) (by have := hn32.out; omega) (some ⟨g, 0, none⟩) c4 (w6.heap.size) wa (H6.out.1.turns H7_wa.out (Nat.le_refl _) (by simp)) (Nat.le_trans (Nat.le_refl _) H7_wa.out.size)).mono ?_
    rintro e wb ⟨rfl, t_wb⟩
    rw [← HR.out.2]
    have H7_wb := Lib.hid (show Turns [] w6 wb from (H7_wa.out.trans t_wb (by simp)))
    clear t_wb
    go_wp2_with fail
    refine (Root_any n (hashesL n) n (hashesL_len n) (Nat.le_refl _) (by have := hn32.out; omega) A3 c3 (w2.heap.size) wb (H6.out.2.2.turns H7_wb.out H6.out.2.1.size (by simp)) (Nat.le_trans H6.out.2.1.size H7_wb.out.size)).mono ?_
    rintro e wc ⟨rfl, t_wc⟩
    rw [← HR.out.1]
    have H7_wc := Lib.hid (show Turns [] w6 wc from (H7_wb.out.trans t_wc (by simp)))
    clear t_wc
    go_wp2_with fail
    refine (Root_any n (ms) n HLM.out (Nat.le_refl _) (by have := hn32.out; omega) (some ⟨g, 0, none⟩) c4 (w6.heap.size) wc (H6.out.1.turns H7_wc.out (Nat.le_refl _) (by simp)) (Nat.le_trans (Nat.le_refl _) H7_wc.out.size)).mono ?_
    rintro e wd ⟨rfl, t_wd⟩
    rw [← HR.out.2]
    have H7_wd := Lib.hid (show Turns [] w6 wd from (H7_wc.out.trans t_wd (by simp)))
    clear t_wd
    go_wp2_with fail
    go_ret
    exact ⟨rfl, below_of (HFIN.out.trans H7_wd.out (by simp))⟩
  · have zb : ((i : Int) == (j : Int)) = false := by simp; omega
    have zb2 : (i == j) = false := by simpa using hij
    by_cases hmlm : ml = mm
    · rw [show (ml == mm) = true by simp [hmlm]] at eq2
      clear hsm hij hmlm
      rw [← hw6]
      clear hw6
      go_wp2_with fail
      refine (Root_any n (ms) n HLM.out (Nat.le_refl _) (by have := hn32.out; omega) (some ⟨g, 0, none⟩) c4 (w6.heap.size) w6 H6.out.1 (Nat.le_refl _)).mono ?_
      rintro e wa ⟨rfl, t_wa⟩
      rw [← HR.out.2]
      have H7_wa := Lib.hid (show Turns [] w6 wa from t_wa)
      clear t_wa
      go_wp2_with fail
      refine (refRoot_any n (ms) n HLM.out (Nat.le_refl _) (by have := hn32.out; omega) (some ⟨g, 0, none⟩) c4 (w6.heap.size) wa (H6.out.1.turns H7_wa.out (Nat.le_refl _) (by simp)) (Nat.le_trans (Nat.le_refl _) H7_wa.out.size)).mono ?_
      rintro e wb ⟨rfl, t_wb⟩
      rw [← HR.out.2]
      have H7_wb := Lib.hid (show Turns [] w6 wb from (H7_wa.out.trans t_wb (by simp)))
      clear t_wb
      go_wp2_with fail
      refine (Root_any n (hashesL n) n (hashesL_len n) (Nat.le_refl _) (by have := hn32.out; omega) A3 c3 (w2.heap.size) wb (H6.out.2.2.turns H7_wb.out H6.out.2.1.size (by simp)) (Nat.le_trans H6.out.2.1.size H7_wb.out.size)).mono ?_
      rintro e wc ⟨rfl, t_wc⟩
      rw [← HR.out.1]
      have H7_wc := Lib.hid (show Turns [] w6 wc from (H7_wb.out.trans t_wc (by simp)))
      clear t_wc
      go_wp2_with fail
      refine (Root_any n (ms) n HLM.out (Nat.le_refl _) (by have := hn32.out; omega) (some ⟨g, 0, none⟩) c4 (w6.heap.size) wc (H6.out.1.turns H7_wc.out (Nat.le_refl _) (by simp)) (Nat.le_trans (Nat.le_refl _) H7_wc.out.size)).mono ?_
      rintro e wd ⟨rfl, t_wd⟩
      rw [← HR.out.2]
      have H7_wd := Lib.hid (show Turns [] w6 wd from (H7_wc.out.trans t_wd (by simp)))
      clear t_wd
      go_wp2_with fail
      refine (refRoot_any n (hashesL n) n (hashesL_len n) (Nat.le_refl _) (by have := hn32.out; omega) A3 c3 (w2.heap.size) wd (H6.out.2.2.turns H7_wd.out H6.out.2.1.size (by simp)) (Nat.le_trans H6.out.2.1.size H7_wd.out.size)).mono ?_
      rintro e we ⟨rfl, t_we⟩
      rw [← HR.out.1]
      have H7_we := Lib.hid (show Turns [] w6 we from (H7_wd.out.trans t_we (by simp)))
      clear t_we
      go_wp2_with fail
      refine (refRoot_any n (ms) n HLM.out (Nat.le_refl _) (by have := hn32.out; omega) (some ⟨g, 0, none⟩) c4 (w6.heap.size) we (H6.out.1.turns H7_we.out (Nat.le_refl _) (by simp)) (Nat.le_trans (Nat.le_refl _) H7_we.out.size)).mono ?_
      rintro e wf ⟨rfl, t_wf⟩
      rw [← HR.out.2]
      have H7_wf := Lib.hid (show Turns [] w6 wf from (H7_we.out.trans t_wf (by simp)))
      clear t_wf
      go_wp2_with fail
      go_ret
      exact ⟨rfl, below_of (HFIN.out.trans H7_wf.out (by simp))⟩
    · rw [show (ml == mm) = false by simpa using hmlm] at eq2
      clear hsm hij hmlm
      rw [← hw6]
      clear hw6
      go_wp2_with fail
      refine (Root_any n (ms) n HLM.out (Nat.le_refl _) (by have := hn32.out; omega) (some ⟨g, 0, none⟩) c4 (w6.heap.size) w6 H6.out.1 (Nat.le_refl _)).mono ?_
      rintro e wa ⟨rfl, t_wa⟩
      rw [← HR.out.2]
      have H7_wa := Lib.hid (show Turns [] w6 wa from t_wa)
      clear t_wa
      go_wp2_with fail
      refine (refRoot_any n (ms) n HLM.out (Nat.le_refl _) (by have := hn32.out; omega) (some ⟨g, 0, none⟩) c4 (w6.heap.size) wa (H6.out.1.turns H7_wa.out (Nat.le_refl _) (by simp)) (Nat.le_trans (Nat.le_refl _) H7_wa.out.size)).mono ?_
      rintro e wb ⟨rfl, t_wb⟩
      rw [← HR.out.2]
      have H7_wb := Lib.hid (show Turns [] w6 wb from (H7_wa.out.trans t_wb (by simp)))
      clear t_wb
      go_wp2_with fail
      refine (Root_any n (hashesL n) n (hashesL_len n) (Nat.le_refl _) (by have := hn32.out; omega) A3 c3 (w2.heap.size) wb (H6.out.2.2.turns H7_wb.out H6.out.2.1.size (by simp)) (Nat.le_trans H6.out.2.1.size H7_wb.out.size)).mono ?_
      rintro e wc ⟨rfl, t_wc⟩
      rw [← HR.out.1]
      have H7_wc := Lib.hid (show Turns [] w6 wc from (H7_wb.out.trans t_wc (by simp)))
      clear t_wc
      go_wp2_with fail
      refine (Root_any n (ms) n HLM.out (Nat.le_refl _) (by have := hn32.out; omega) (some ⟨g, 0, none⟩) c4 (w6.heap.size) wc (H6.out.1.turns H7_wc.out (Nat.le_refl _) (by simp)) (Nat.le_trans (Nat.le_refl _) H7_wc.out.size)).mono ?_
      rintro e wd ⟨rfl, t_wd⟩
      rw [← HR.out.2]
      have H7_wd := Lib.hid (show Turns [] w6 wd from (H7_wc.out.trans t_wd (by simp)))
      clear t_wd
      go_wp2_with fail
      go_ret
      exact ⟨rfl, below_of (HFIN.out.trans H7_wd.out (by simp))⟩
end Go.Proofs.Ytnjnealphbcamaa
