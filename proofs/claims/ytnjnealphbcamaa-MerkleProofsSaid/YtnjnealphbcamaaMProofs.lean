/- MerkleProofs, walked. -/
import Derived.Test.YtnjnealphbcamaaMkW
import Derived.Test.YtnjnealphbcamaaMRoots
namespace Go.Proofs.Ytnjnealphbcamaa
open Go.RowKit
set_option linter.unusedVariables false
set_option maxRecDepth 10000
set_option linter.unusedSimpArgs false
set_option linter.unnecessarySimpa false

/-- What Proof tells of any place. -/
def proofZ (hs : List (List UInt8)) (j : Int) : List (List UInt8) := if 0 ≤ j ∧ j < hs.length then mproof hs j.toNat else []
def errZ (hs : List (List UInt8)) (j : Int) : Int := if 0 ≤ j ∧ j < hs.length then 0 else 1
theorem proofZ_le (hs : List (List UInt8)) (j : Int) (hm : hs.length ≤ 1000000) : (proofZ hs j).length ≤ 20 := by
  unfold proofZ
  split
  · exact mproof_le hs _ (by omega) hm
  · simp
theorem Proof_any (hs : List (List UInt8)) (n : Nat) (j : Int) (hn : hs.length = n) (hm : n ≤ 1000000) (A : Option Addr) (c B : Nat) (w : World) (h : Hs w B (.slice A n c) hs) (hB : B ≤ w.heap.size) :
    Calls Try.prog 19 #[.slice A n c, .int .i64 j] w fun e w' => ∃ A' c', e = .returned (.tuple #[.slice A' (proofZ hs j).length c', .int .i64 (errZ hs j)]) ∧ HMine w w' (.slice A' (proofZ hs j).length c') (proofZ hs j) := by
  unfold proofZ errZ
  by_cases hj : 0 ≤ j ∧ j < hs.length
  · rw [if_pos hj, if_pos hj]
    obtain ⟨j', rfl⟩ := Int.eq_ofNat_of_zero_le hj.1
    exact Proof_in hs n j' hn hm (by omega) A c B w h hB
  · rw [if_neg hj, if_neg hj]
    refine (Proof_out n j (by omega) A c w).mono ?_
    rintro e w' ⟨rfl, rfl⟩
    exact ⟨none, 0, rfl, HMine.nil (Turns.refl _ _)⟩
theorem refProof_any (hs : List (List UInt8)) (n : Nat) (j : Int) (hn : hs.length = n) (hm : n ≤ 1000000) (A : Option Addr) (c B : Nat) (w : World) (h : Hs w B (.slice A n c) hs) (hB : B ≤ w.heap.size) :
    Calls Try.prog 21 #[.slice A n c, .int .i64 j] w fun e w' => ∃ A' c', e = .returned (.tuple #[.slice A' (proofZ hs j).length c', .int .i64 (errZ hs j)]) ∧ HMine w w' (.slice A' (proofZ hs j).length c') (proofZ hs j) := by
  unfold proofZ errZ
  by_cases hj : 0 ≤ j ∧ j < hs.length
  · rw [if_pos hj, if_pos hj]
    obtain ⟨j', rfl⟩ := Int.eq_ofNat_of_zero_le hj.1
    exact refProof_in n hs n j' hn (Nat.le_refl _) hm (by omega) A c B w h hB
  · rw [if_neg hj, if_neg hj]
    refine (refProof_out n j (by omega) A c w).mono ?_
    rintro e w' ⟨rfl, rfl⟩
    exact ⟨none, 0, rfl, HMine.nil (Turns.refl _ _)⟩

set_option maxRecDepth 100000 in
set_option maxHeartbeats 4000000 in
theorem MerkleProofs_walk (n0 i k : Int) (root leaf : List UInt8) (hr : root.length = 32) (hf : leaf.length = 32) (A : Option Addr) (m c : Nat) (ps : List (List UInt8)) (w : World) (h : Hs w w.heap.size (.slice A m c) ps)
    (hn1 : -9223372036854775808 ≤ n0 ∧ n0 ≤ 9223372036854775807) (hi1 : -9223372036854775808 ≤ i ∧ i ≤ 9223372036854775807) (hk1 : -9223372036854775808 ≤ k ∧ k ≤ 9223372036854775807) :
    Calls Try.prog 7 #[.int .i64 n0, .int .i64 i, .agg (bvs root).toArray, .agg (bvs leaf).toArray, .slice A m c, .int .i64 k] w fun e w' => e = .returned (.bool true) ∧ Below w.heap.size w w' := by
  obtain ⟨A2, c2, hv, _, _⟩ := h.form
  injection hv with e1 e2 e3
  have hpm : ps.length = m := e2.symm
  clear e1 e2 e3
  obtain ⟨b8, b9, tx⟩ := two_boxes w root leaf 27
  obtain ⟨X0, hX0⟩ : ∃ x, x = (w.alloc (.cells (bvs root).toArray 27)).alloc (.cells (bvs leaf).toArray 27) := ⟨_, rfl⟩
  rw [← hX0] at b8 b9 tx
  have KN := Lib.hid (known_any X0)
  have HX := Lib.hid hX0
  obtain ⟨p8, hp8⟩ : ∃ q, q = w.heap.size := ⟨_, rfl⟩
  obtain ⟨p9, hp9⟩ : ∃ q, q = w.heap.size + 1 := ⟨_, rfl⟩
  rw [← hp8] at b8
  rw [← hp9] at b9
  have HP := Lib.hid (And.intro hp8 hp9)
  have H0 := Lib.hid (And.intro b8 (And.intro b9 (And.intro tx (And.intro h (And.intro hpm (And.intro hr hf))))))
  have hsr := Lib.hid (show (Try.prog.info? 27).map (·.size) = some (bvs root).length by rw [size_hash, bvs_length, hr])
  have hsl := Lib.hid (show (Try.prog.info? 27).map (·.size) = some (bvs leaf).length by rw [size_hash, bvs_length, hf])
  clear b8 b9 tx hX0 hp8 hp9 h hpm hr hf
  by_cases hm40 : 40 < m
  · have z1 : (40 : Int) < (m : Int) := by omega
    clear hm40
    go_enter Try.func7, Try.ntmps7
    go_wp2_with fail
    rw [← HX.out]
    refine KN.out.mono ?_
    rintro e w1 ⟨rfl, t1⟩
    have HT := Lib.hid (below_of (H0.out.2.2.1.trans t1 (by simp)))
    clear t1
    go_wp2_with fail
    go_ret
    exact ⟨rfl, HT.out⟩
  · have z1 : ¬ (40 : Int) < (m : Int) := by omega
    obtain ⟨n, hn, hn40⟩ : ∃ n : Nat, (n : Int) = n0 % 40 ∧ n < 40 := ⟨(n0 % 40).toNat, by omega, by omega⟩
    have WI := fun w => within_any n0 40 w hn1.1 hn1.2 (by omega) (by omega)
    rw [← hn] at WI
    have HWI := Lib.hid WI
    have WX := Lib.hid (fun w => within_any i ((n : Int) + 2) w hi1.1 hi1.2 (by omega) (by omega))
    have WK := Lib.hid (fun w => within_any k 40 w hk1.1 hk1.2 (by omega) (by omega))
    have HM := Lib.hid (And.intro hm40 hn40)
    have hni : (n : Int) < 40 := by omega
    clear hm40 hn hn40 WI hn1 hi1 hk1
    go_enter Try.func7, Try.ntmps7
    go_wp2_with fail
    rw [← HX.out, ← HP.out.2, ← HP.out.1]
    refine KN.out.mono ?_
    rintro e w1 ⟨rfl, t1⟩
    have HT1 := Lib.hid t1
    clear t1 KN
    go_wp2_with fail
    refine (HWI.out w1).mono ?_
    rintro e w2 ⟨rfl, rfl⟩
    clear HWI
    go_wp2_with fail
    refine (Hashes_any n (by have := HM.out.2; omega) w1).mono ?_
    rintro e w2 ⟨A3, c3, rfl, m3⟩
    have M3 := Lib.hid m3
    have T2 := Lib.hid (HT1.out.trans m3.turns (by simp))
    clear m3
    go_wp2_with fail
    go_loopw [14] (fun u wr => ∃ j : Int, -1 ≤ j ∧ j ≤ n + 1 ∧ u = .int .i64 j ∧ Turns [] w2 wr) (fun u _ => ((n : Int) + 2 - intOf u).toNat)
    case atStart => exact ⟨-1, by omega, by omega, rfl, Turns.refl _ _⟩
    case round =>
      obtain ⟨j, hj1, hj2, rfl, td⟩ := hrel
      have HTD := Lib.hid td
      have hml := Lib.hid (And.intro (hashesL_len n) (proofZ_le (hashesL n) j (by rw [hashesL_len]; have := HM.out.2; omega)))
      clear td
      by_cases hlt : j ≤ (n : Int)
      · go_wp2_with fail
        refine (Proof_any (hashesL n) n j (hashesL_len n) (by have := HM.out.2; omega) A3 c3 w2.heap.size wr (M3.out.hs.turns HTD.out (Nat.le_refl _) (by simp)) HTD.out.size).mono ?_
        rintro e w3 ⟨A4, c4, rfl, m4⟩
        have M4 := Lib.hid m4
        clear m4
        go_wp2_with fail
        refine (refProof_any (hashesL n) n j (hashesL_len n) (by have := HM.out.2; omega) A3 c3 w2.heap.size w3 (M3.out.hs.turns (HTD.out.trans M4.out.turns (by simp)) (Nat.le_refl _) (by simp)) (HTD.out.trans M4.out.turns (by simp)).size).mono ?_
        rintro e w4 ⟨A5, c5, rfl, m5⟩
        have M5 := Lib.hid m5
        clear m5
        have hq := hml.out.2
        obtain ⟨P, hP⟩ : ∃ P, P = proofZ (hashesL n) j := ⟨_, rfl⟩
        obtain ⟨er, her⟩ : ∃ er, er = errZ (hashesL n) j := ⟨_, rfl⟩
        rw [← hP] at M4 M5 hq
        rw [← hP, ← her]
        have HQ := Lib.hid hq
        clear hP her hq hml
        go_wp2_with fail
        refine (hashes_any P P A4 A5 P.length P.length c4 c5 w4.heap.size w4.heap.size w4 rfl rfl ((M4.out.hs.turns M5.out.turns (Nat.le_refl _) (by simp)).more M5.out.turns.size) M5.out.hs (by have := HQ.out; omega) (by have := HQ.out; omega)).mono ?_
        rintro e w5 ⟨rfl, t5⟩
        have HT5 := Lib.hid (((HTD.out.trans M4.out.turns (by simp)).trans M5.out.turns (by simp)).trans t5 (by simp))
        rw [show (P == P) = true by simp]
        clear t5
        go_wp2_with fail
        go_roundw
        case rel => exact ⟨j + 1, by omega, by omega, by go_num, HT5.out⟩
        case measure => (simp [intOf] <;> omega)
      · have hml2 := Lib.hid (And.intro (hashesL_len n) (proofZ_le (hashesL n) i (by rw [hashesL_len]; have := HM.out.2; omega)))
        clear hml
        go_wp2_with fail
        refine (Proof_any (hashesL n) n i (hashesL_len n) (by have := HM.out.2; omega) A3 c3 w2.heap.size wr (M3.out.hs.turns HTD.out (Nat.le_refl _) (by simp)) HTD.out.size).mono ?_
        rintro e w3 ⟨A4, c4, rfl, m4⟩
        have M4 := Lib.hid m4
        clear m4
        go_wp2_with fail
        refine (refProof_any (hashesL n) n i (hashesL_len n) (by have := HM.out.2; omega) A3 c3 w2.heap.size w3 (M3.out.hs.turns (HTD.out.trans M4.out.turns (by simp)) (Nat.le_refl _) (by simp)) (HTD.out.trans M4.out.turns (by simp)).size).mono ?_
        rintro e w4 ⟨A5, c5, rfl, m5⟩
        have M5 := Lib.hid m5
        clear m5
        have hq := hml2.out.2
        obtain ⟨P, hP⟩ : ∃ P, P = proofZ (hashesL n) i := ⟨_, rfl⟩
        obtain ⟨er, her⟩ : ∃ er, er = errZ (hashesL n) i := ⟨_, rfl⟩
        rw [← hP] at M4 M5 hq
        rw [← hP, ← her]
        have HQ := Lib.hid hq
        clear hP her hq hml2
        go_wp2_with fail
        refine (WX.out w4).mono ?_
        rintro e w5 ⟨rfl, rfl⟩
        obtain ⟨x, hx⟩ : ∃ x, x = i % ((n : Int) + 2) := ⟨_, rfl⟩
        rw [← hx]
        clear hx
        have TT := (T2.out.trans HTD.out (by simp)).trans (M4.out.turns.trans M5.out.turns (by simp)) (by simp)
        have r8 := (H0.out.1.turns TT (by simp)).range 0 32
        have r9 := (H0.out.2.1.turns TT (by simp)).range 0 32
        rw [List.drop_zero, List.take_of_length_le (by rw [bvs_length, H0.out.2.2.2.2.2.1]; omega)] at r8
        rw [List.drop_zero, List.take_of_length_le (by rw [bvs_length, H0.out.2.2.2.2.2.2]; omega)] at r9
        have hps := (H0.out.2.2.2.1.turns (H0.out.2.2.1.trans TT (by simp)) (Nat.le_refl _) (by simp))
        have hsz := (H0.out.2.2.1.trans TT (by simp)).size
        have HR := Lib.hid (And.intro r8 (And.intro r9 (And.intro hps (And.intro hsz (H0.out.2.2.1.trans TT (by simp))))))
        have hT : Turns [] w4 w4.drew := (Turns.refl _ _).drew
        clear TT r8 r9 hps hsz
        go_upto_region 17 with fail
        refine reg_begin (fun W => Turns [] w4 W) (fun _ => True) 41 41 #[false, false, false, false, false, false, false, false, false, false, false, false, false, false, false, false, false, false, false, false, false, false, false, false, false, false, false, false, false, false, false, false, false, false, false, false, false, false, false, false, false] (by kernel_rfl) (by kernel_rfl) (by kernel_rfl) ?_
        refine reg_take 0 75 40 #[true, false, false, false, false, false, false, false, false, false, false, false, false, false, false, false, false, false, false, false, false, false, false, false, false, false, false, false, false, false, false, false, false, false, false, false, false, false, false, false, false] (by rfl) (v := ?_) rfl rfl (by kernel_rfl) (by kernel_rfl) (by kernel_rfl) (by kernel_rfl) (fun _ _ _ h => h) (by rfl) ?_ (Till.mk' hT trivial) ?_
        rotate_left
        · intro W hS; go_simp; all_goals with_reducible rfl
        try simp only [List.setIfInBounds_toArray, List.set_cons_succ, List.set_cons_zero]
        refine reg_take 1 76 39 #[true, true, false, false, false, false, false, false, false, false, false, false, false, false, false, false, false, false, false, false, false, false, false, false, false, false, false, false, false, false, false, false, false, false, false, false, false, false, false, false, false] (by rfl) (v := ?_) rfl rfl (by kernel_rfl) (by kernel_rfl) (by kernel_rfl) (by kernel_rfl) (fun _ _ _ h => h) (by rfl) ?_ (Till.mk' hT trivial) ?_
        rotate_left
        · intro W hS; go_simp; all_goals with_reducible rfl
        try simp only [List.setIfInBounds_toArray, List.set_cons_succ, List.set_cons_zero]
        refine reg_one 2 38 #[true, true, true, false, false, false, false, false, false, false, false, false, false, false, false, false, false, false, false, false, false, false, false, false, false, false, false, false, false, false, false, false, false, false, false, false, false, false, false, false, false] (by kernel_rfl) rfl (by rfl) (by kernel_rfl) (fun K hK => ?_)
        go_simp
        refine (hashes_any P P A4 A5 P.length P.length c4 c5 w4.heap.size w4.heap.size w4.drew rfl rfl ((M4.out.hs.turns M5.out.turns (Nat.le_refl _) (by simp)).more M5.out.turns.size).drew M5.out.hs.drew (by have := HQ.out; omega) (by have := HQ.out; omega)).mono ?_
        rintro e X2 ⟨rfl, t5⟩
        rw [show (P == P) = true by simp]
        have S2 : Turns [] w4 X2 := hT.trans t5 (by simp)
        clear t5
        refine hK _ _ (Till.mk' S2 trivial) ?_
        clear hK K
        try simp only [List.setIfInBounds_toArray, List.set_cons_succ, List.set_cons_zero]
        refine reg_take 3 78 37 #[true, true, true, true, false, false, false, false, false, false, false, false, false, false, false, false, false, false, false, false, false, false, false, false, false, false, false, false, false, false, false, false, false, false, false, false, false, false, false, false, false] (by rfl) (v := ?_) rfl rfl (by kernel_rfl) (by kernel_rfl) (by kernel_rfl) (by kernel_rfl) (fun _ _ _ h => h) (by rfl) ?_ (Till.mk' S2 trivial) ?_
        rotate_left
        · intro W hS; go_simp; all_goals with_reducible rfl
        try simp only [List.setIfInBounds_toArray, List.set_cons_succ, List.set_cons_zero]
        refine reg_take 4 79 36 #[true, true, true, true, true, false, false, false, false, false, false, false, false, false, false, false, false, false, false, false, false, false, false, false, false, false, false, false, false, false, false, false, false, false, false, false, false, false, false, false, false] (by rfl) (v := ?_) rfl rfl (by kernel_rfl) (by kernel_rfl) (by kernel_rfl) (by kernel_rfl) (fun _ _ _ h => h) (by rfl) ?_ (Till.mk' S2 trivial) ?_
        rotate_left
        · intro W hS; go_simp; all_goals with_reducible rfl
        try simp only [List.setIfInBounds_toArray, List.set_cons_succ, List.set_cons_zero]
        refine reg_take 5 80 35 #[true, true, true, true, true, true, false, false, false, false, false, false, false, false, false, false, false, false, false, false, false, false, false, false, false, false, false, false, false, false, false, false, false, false, false, false, false, false, false, false, false] (by rfl) (v := ?_) rfl rfl (by kernel_rfl) (by kernel_rfl) (by kernel_rfl) (by kernel_rfl) (fun _ _ _ h => h) (by rfl) ?_ (Till.mk' S2 trivial) ?_
        rotate_left
        · intro W hS; go_simp; all_goals with_reducible rfl
        try simp only [List.setIfInBounds_toArray, List.set_cons_succ, List.set_cons_zero]
        refine reg_take 6 81 34 #[true, true, true, true, true, true, true, false, false, false, false, false, false, false, false, false, false, false, false, false, false, false, false, false, false, false, false, false, false, false, false, false, false, false, false, false, false, false, false, false, false] (by rfl) (v := ?_) rfl rfl (by kernel_rfl) (by kernel_rfl) (by kernel_rfl) (by kernel_rfl) (fun _ _ _ h => h) (by rfl) ?_ (Till.mk' S2 trivial) ?_
        rotate_left
        · intro W hS; go_simp; all_goals with_reducible rfl
        try simp only [List.setIfInBounds_toArray, List.set_cons_succ, List.set_cons_zero]
        refine reg_take 7 82 33 #[true, true, true, true, true, true, true, true, false, false, false, false, false, false, false, false, false, false, false, false, false, false, false, false, false, false, false, false, false, false, false, false, false, false, false, false, false, false, false, false, false] (by rfl) (v := ?_) rfl rfl (by kernel_rfl) (by kernel_rfl) (by kernel_rfl) (by kernel_rfl) (fun _ _ _ h => h) (by rfl) ?_ (Till.mk' S2 trivial) ?_
        rotate_left
        · intro W hS; go_simp; all_goals with_reducible rfl
        try simp only [List.setIfInBounds_toArray, List.set_cons_succ, List.set_cons_zero]
        refine reg_take 8 83 32 #[true, true, true, true, true, true, true, true, true, false, false, false, false, false, false, false, false, false, false, false, false, false, false, false, false, false, false, false, false, false, false, false, false, false, false, false, false, false, false, false, false] (by rfl) (v := ?_) rfl rfl (by kernel_rfl) (by kernel_rfl) (by kernel_rfl) (by kernel_rfl) (fun _ _ _ h => h) (by rfl) ?_ (Till.mk' S2 trivial) ?_
        rotate_left
        · intro W hS; go_simp; all_goals with_reducible rfl
        try simp only [List.setIfInBounds_toArray, List.set_cons_succ, List.set_cons_zero]
        refine reg_take_y 9 84 31 #[true, true, true, true, true, true, true, true, true, true, false, false, false, false, false, false, false, false, false, false, false, false, false, false, false, false, false, false, false, false, false, false, false, false, false, false, false, false, false, false, false] (by rfl) rfl rfl (by kernel_rfl) (by kernel_rfl) (by kernel_rfl) (by kernel_rfl) (fun _ _ _ h => h) (yieldsIf_load_mid (by rfl) _ _ rfl p8 0 (by rfl) (bvs root) _ (fun W hS => rangeT hS HR.out.1 (by simp)) Try.underlying27 rfl hsr.out) (Till.mk' S2 trivial) ?_
        try simp only [List.setIfInBounds_toArray, List.set_cons_succ, List.set_cons_zero]
        refine reg_take_y 10 85 30 #[true, true, true, true, true, true, true, true, true, true, true, false, false, false, false, false, false, false, false, false, false, false, false, false, false, false, false, false, false, false, false, false, false, false, false, false, false, false, false, false, false] (by rfl) rfl rfl (by kernel_rfl) (by kernel_rfl) (by kernel_rfl) (by kernel_rfl) (fun _ _ _ h => h) (yieldsIf_load_mid (by rfl) _ _ rfl p9 0 (by rfl) (bvs leaf) _ (fun W hS => rangeT hS HR.out.2.1 (by simp)) Try.underlying27 rfl hsl.out) (Till.mk' S2 trivial) ?_
        try simp only [List.setIfInBounds_toArray, List.set_cons_succ, List.set_cons_zero]
        refine reg_take 11 86 29 #[true, true, true, true, true, true, true, true, true, true, true, true, false, false, false, false, false, false, false, false, false, false, false, false, false, false, false, false, false, false, false, false, false, false, false, false, false, false, false, false, false] (by rfl) (v := ?_) rfl rfl (by kernel_rfl) (by kernel_rfl) (by kernel_rfl) (by kernel_rfl) (fun _ _ _ h => h) (by rfl) ?_ (Till.mk' S2 trivial) ?_
        rotate_left
        · intro W hS; go_simp; all_goals with_reducible rfl
        try simp only [List.setIfInBounds_toArray, List.set_cons_succ, List.set_cons_zero]
        refine reg_take 12 87 28 #[true, true, true, true, true, true, true, true, true, true, true, true, true, false, false, false, false, false, false, false, false, false, false, false, false, false, false, false, false, false, false, false, false, false, false, false, false, false, false, false, false] (by rfl) (v := ?_) rfl rfl (by kernel_rfl) (by kernel_rfl) (by kernel_rfl) (by kernel_rfl) (fun _ _ _ h => h) (by rfl) ?_ (Till.mk' S2 trivial) ?_
        rotate_left
        · intro W hS; go_simp; all_goals with_reducible rfl
        try simp only [List.setIfInBounds_toArray, List.set_cons_succ, List.set_cons_zero]
        refine reg_take 13 88 27 #[true, true, true, true, true, true, true, true, true, true, true, true, true, true, false, false, false, false, false, false, false, false, false, false, false, false, false, false, false, false, false, false, false, false, false, false, false, false, false, false, false] (by rfl) (v := ?_) rfl rfl (by kernel_rfl) (by kernel_rfl) (by kernel_rfl) (by kernel_rfl) (fun _ _ _ h => h) (by rfl) ?_ (Till.mk' S2 trivial) ?_
        rotate_left
        · intro W hS; go_simp; all_goals with_reducible rfl
        try simp only [List.setIfInBounds_toArray, List.set_cons_succ, List.set_cons_zero]
        refine reg_take_y 15 90 26 #[true, true, true, true, true, true, true, true, true, true, true, true, true, true, false, true, false, false, false, false, false, false, false, false, false, false, false, false, false, false, false, false, false, false, false, false, false, false, false, false, false] (by rfl) rfl rfl (by kernel_rfl) (by kernel_rfl) (by kernel_rfl) (by kernel_rfl) (fun _ _ _ h => h) (yieldsIf_load_mid (by rfl) _ _ rfl p8 0 (by rfl) (bvs root) _ (fun W hS => rangeT hS HR.out.1 (by simp)) Try.underlying27 rfl hsr.out) (Till.mk' S2 trivial) ?_
        try simp only [List.setIfInBounds_toArray, List.set_cons_succ, List.set_cons_zero]
        refine reg_take_y 16 91 25 #[true, true, true, true, true, true, true, true, true, true, true, true, true, true, false, true, true, false, false, false, false, false, false, false, false, false, false, false, false, false, false, false, false, false, false, false, false, false, false, false, false] (by rfl) rfl rfl (by kernel_rfl) (by kernel_rfl) (by kernel_rfl) (by kernel_rfl) (fun _ _ _ h => h) (yieldsIf_load_mid (by rfl) _ _ rfl p9 0 (by rfl) (bvs leaf) _ (fun W hS => rangeT hS HR.out.2.1 (by simp)) Try.underlying27 rfl hsl.out) (Till.mk' S2 trivial) ?_
        try simp only [List.setIfInBounds_toArray, List.set_cons_succ, List.set_cons_zero]
        refine reg_take 17 92 24 #[true, true, true, true, true, true, true, true, true, true, true, true, true, true, false, true, true, true, false, false, false, false, false, false, false, false, false, false, false, false, false, false, false, false, false, false, false, false, false, false, false] (by rfl) (v := ?_) rfl rfl (by kernel_rfl) (by kernel_rfl) (by kernel_rfl) (by kernel_rfl) (fun _ _ _ h => h) (by rfl) ?_ (Till.mk' S2 trivial) ?_
        rotate_left
        · intro W hS; go_simp; all_goals with_reducible rfl
        try simp only [List.setIfInBounds_toArray, List.set_cons_succ, List.set_cons_zero]
        refine reg_take 18 93 23 #[true, true, true, true, true, true, true, true, true, true, true, true, true, true, false, true, true, true, true, false, false, false, false, false, false, false, false, false, false, false, false, false, false, false, false, false, false, false, false, false, false] (by rfl) (v := ?_) rfl rfl (by kernel_rfl) (by kernel_rfl) (by kernel_rfl) (by kernel_rfl) (fun _ _ _ h => h) (by rfl) ?_ (Till.mk' S2 trivial) ?_
        rotate_left
        · intro W hS; go_simp; all_goals with_reducible rfl
        try simp only [List.setIfInBounds_toArray, List.set_cons_succ, List.set_cons_zero]
        refine reg_take 19 94 22 #[true, true, true, true, true, true, true, true, true, true, true, true, true, true, false, true, true, true, true, true, false, false, false, false, false, false, false, false, false, false, false, false, false, false, false, false, false, false, false, false, false] (by rfl) (v := ?_) rfl rfl (by kernel_rfl) (by kernel_rfl) (by kernel_rfl) (by kernel_rfl) (fun _ _ _ h => h) (by rfl) ?_ (Till.mk' S2 trivial) ?_
        rotate_left
        · intro W hS; go_simp; all_goals with_reducible rfl
        try simp only [List.setIfInBounds_toArray, List.set_cons_succ, List.set_cons_zero]
        refine reg_one 14 21 #[true, true, true, true, true, true, true, true, true, true, true, true, true, true, true, true, true, true, true, true, false, false, false, false, false, false, false, false, false, false, false, false, false, false, false, false, false, false, false, false, false] (by kernel_rfl) rfl (by rfl) (by kernel_rfl) (fun K hK => ?_)
        go_simp
        refine (Check_any root leaf H0.out.2.2.2.2.2.1 H0.out.2.2.2.2.2.2 i k ps m H0.out.2.2.2.2.1 (by have := HM.out.1; omega) A c w.heap.size X2 (HR.out.2.2.1.turns S2 HR.out.2.2.2.1 (by simp)) (Nat.le_trans HR.out.2.2.2.1 S2.size)).mono ?_
        rintro e X14 ⟨rfl, t14⟩
        have S14 : Turns [] w4 X14 := S2.trans t14 (by simp)
        clear t14
        refine hK _ _ (Till.mk' S14 trivial) ?_
        clear hK K
        try simp only [List.setIfInBounds_toArray, List.set_cons_succ, List.set_cons_zero]
        refine reg_one 20 20 #[true, true, true, true, true, true, true, true, true, true, true, true, true, true, true, true, true, true, true, true, true, false, false, false, false, false, false, false, false, false, false, false, false, false, false, false, false, false, false, false, false] (by kernel_rfl) rfl (by rfl) (by kernel_rfl) (fun K hK => ?_)
        go_simp
        refine (refCheck_any root leaf H0.out.2.2.2.2.2.1 H0.out.2.2.2.2.2.2 i k ps m H0.out.2.2.2.2.1 (by have := HM.out.1; omega) A c w.heap.size X14 (HR.out.2.2.1.turns S14 HR.out.2.2.2.1 (by simp)) (Nat.le_trans HR.out.2.2.2.1 S14.size)).mono ?_
        rintro e X20 ⟨rfl, t20⟩
        have S20 : Turns [] w4 X20 := S14.trans t20 (by simp)
        clear t20
        refine hK _ _ (Till.mk' S20 trivial) ?_
        clear hK K
        try simp only [List.setIfInBounds_toArray, List.set_cons_succ, List.set_cons_zero]
        refine reg_take 21 96 19 #[true, true, true, true, true, true, true, true, true, true, true, true, true, true, true, true, true, true, true, true, true, true, false, false, false, false, false, false, false, false, false, false, false, false, false, false, false, false, false, false, false] (by rfl) (v := ?_) rfl rfl (by kernel_rfl) (by kernel_rfl) (by kernel_rfl) (by kernel_rfl) (fun _ _ _ h => h) (by rfl) ?_ (Till.mk' S20 trivial) ?_
        rotate_left
        · intro W hS; go_simp; all_goals with_reducible rfl
        try simp only [List.setIfInBounds_toArray, List.set_cons_succ, List.set_cons_zero]
        refine reg_take 22 97 18 #[true, true, true, true, true, true, true, true, true, true, true, true, true, true, true, true, true, true, true, true, true, true, true, false, false, false, false, false, false, false, false, false, false, false, false, false, false, false, false, false, false] (by rfl) (v := ?_) rfl rfl (by kernel_rfl) (by kernel_rfl) (by kernel_rfl) (by kernel_rfl) (fun _ _ _ h => h) (by rfl) ?_ (Till.mk' S20 trivial) ?_
        rotate_left
        · intro W hS; go_simp; all_goals with_reducible rfl
        try simp only [List.setIfInBounds_toArray, List.set_cons_succ, List.set_cons_zero]
        refine reg_take 23 98 17 #[true, true, true, true, true, true, true, true, true, true, true, true, true, true, true, true, true, true, true, true, true, true, true, true, false, false, false, false, false, false, false, false, false, false, false, false, false, false, false, false, false] (by rfl) (v := ?_) rfl rfl (by kernel_rfl) (by kernel_rfl) (by kernel_rfl) (by kernel_rfl) (fun _ _ _ h => h) (by rfl) ?_ (Till.mk' S20 trivial) ?_
        rotate_left
        · intro W hS; go_simp; all_goals with_reducible rfl
        try simp only [List.setIfInBounds_toArray, List.set_cons_succ, List.set_cons_zero]
        refine reg_take_y 24 99 16 #[true, true, true, true, true, true, true, true, true, true, true, true, true, true, true, true, true, true, true, true, true, true, true, true, true, false, false, false, false, false, false, false, false, false, false, false, false, false, false, false, false] (by rfl) rfl rfl (by kernel_rfl) (by kernel_rfl) (by kernel_rfl) (by kernel_rfl) (fun _ _ _ h => h) (yieldsIf_load_mid (by rfl) _ _ rfl p8 0 (by rfl) (bvs root) _ (fun W hS => rangeT hS HR.out.1 (by simp)) Try.underlying27 rfl hsr.out) (Till.mk' S20 trivial) ?_
        try simp only [List.setIfInBounds_toArray, List.set_cons_succ, List.set_cons_zero]
        refine reg_take_y 25 100 15 #[true, true, true, true, true, true, true, true, true, true, true, true, true, true, true, true, true, true, true, true, true, true, true, true, true, true, false, false, false, false, false, false, false, false, false, false, false, false, false, false, false] (by rfl) rfl rfl (by kernel_rfl) (by kernel_rfl) (by kernel_rfl) (by kernel_rfl) (fun _ _ _ h => h) (yieldsIf_load_mid (by rfl) _ _ rfl p9 0 (by rfl) (bvs leaf) _ (fun W hS => rangeT hS HR.out.2.1 (by simp)) Try.underlying27 rfl hsl.out) (Till.mk' S20 trivial) ?_
        try simp only [List.setIfInBounds_toArray, List.set_cons_succ, List.set_cons_zero]
        refine reg_take 26 101 14 #[true, true, true, true, true, true, true, true, true, true, true, true, true, true, true, true, true, true, true, true, true, true, true, true, true, true, true, false, false, false, false, false, false, false, false, false, false, false, false, false, false] (by rfl) (v := ?_) rfl rfl (by kernel_rfl) (by kernel_rfl) (by kernel_rfl) (by kernel_rfl) (fun _ _ _ h => h) (by rfl) ?_ (Till.mk' S20 trivial) ?_
        rotate_left
        · intro W hS; go_simp; all_goals with_reducible rfl
        try simp only [List.setIfInBounds_toArray, List.set_cons_succ, List.set_cons_zero]
        refine reg_take 27 102 13 #[true, true, true, true, true, true, true, true, true, true, true, true, true, true, true, true, true, true, true, true, true, true, true, true, true, true, true, true, false, false, false, false, false, false, false, false, false, false, false, false, false] (by rfl) (v := ?_) rfl rfl (by kernel_rfl) (by kernel_rfl) (by kernel_rfl) (by kernel_rfl) (fun _ _ _ h => h) (by rfl) ?_ (Till.mk' S20 trivial) ?_
        rotate_left
        · intro W hS; go_simp; all_goals with_reducible rfl
        try simp only [List.setIfInBounds_toArray, List.set_cons_succ, List.set_cons_zero]
        refine reg_take 29 104 12 #[true, true, true, true, true, true, true, true, true, true, true, true, true, true, true, true, true, true, true, true, true, true, true, true, true, true, true, true, false, true, false, false, false, false, false, false, false, false, false, false, false] (by rfl) (v := ?_) rfl rfl (by kernel_rfl) (by kernel_rfl) (by kernel_rfl) (by kernel_rfl) (fun _ _ _ h => h) (by rfl) ?_ (Till.mk' S20 trivial) ?_
        rotate_left
        · intro W hS; go_simp; all_goals with_reducible rfl
        try simp only [List.setIfInBounds_toArray, List.set_cons_succ, List.set_cons_zero]
        refine reg_take_y 31 106 11 #[true, true, true, true, true, true, true, true, true, true, true, true, true, true, true, true, true, true, true, true, true, true, true, true, true, true, true, true, false, true, false, true, false, false, false, false, false, false, false, false, false] (by rfl) rfl rfl (by kernel_rfl) (by kernel_rfl) (by kernel_rfl) (by kernel_rfl) (fun _ _ _ h => h) (yieldsIf_load_mid (by rfl) _ _ rfl p8 0 (by rfl) (bvs root) _ (fun W hS => rangeT hS HR.out.1 (by simp)) Try.underlying27 rfl hsr.out) (Till.mk' S20 trivial) ?_
        try simp only [List.setIfInBounds_toArray, List.set_cons_succ, List.set_cons_zero]
        refine reg_take_y 32 107 10 #[true, true, true, true, true, true, true, true, true, true, true, true, true, true, true, true, true, true, true, true, true, true, true, true, true, true, true, true, false, true, false, true, true, false, false, false, false, false, false, false, false] (by rfl) rfl rfl (by kernel_rfl) (by kernel_rfl) (by kernel_rfl) (by kernel_rfl) (fun _ _ _ h => h) (yieldsIf_load_mid (by rfl) _ _ rfl p9 0 (by rfl) (bvs leaf) _ (fun W hS => rangeT hS HR.out.2.1 (by simp)) Try.underlying27 rfl hsl.out) (Till.mk' S20 trivial) ?_
        try simp only [List.setIfInBounds_toArray, List.set_cons_succ, List.set_cons_zero]
        refine reg_take 33 108 9 #[true, true, true, true, true, true, true, true, true, true, true, true, true, true, true, true, true, true, true, true, true, true, true, true, true, true, true, true, false, true, false, true, true, true, false, false, false, false, false, false, false] (by rfl) (v := ?_) rfl rfl (by kernel_rfl) (by kernel_rfl) (by kernel_rfl) (by kernel_rfl) (fun _ _ _ h => h) (by rfl) ?_ (Till.mk' S20 trivial) ?_
        rotate_left
        · intro W hS; go_simp; all_goals with_reducible rfl
        try simp only [List.setIfInBounds_toArray, List.set_cons_succ, List.set_cons_zero]
        refine reg_take 34 109 8 #[true, true, true, true, true, true, true, true, true, true, true, true, true, true, true, true, true, true, true, true, true, true, true, true, true, true, true, true, false, true, false, true, true, true, true, false, false, false, false, false, false] (by rfl) (v := ?_) rfl rfl (by kernel_rfl) (by kernel_rfl) (by kernel_rfl) (by kernel_rfl) (fun _ _ _ h => h) (by rfl) ?_ (Till.mk' S20 trivial) ?_
        rotate_left
        · intro W hS; go_simp; all_goals with_reducible rfl
        try simp only [List.setIfInBounds_toArray, List.set_cons_succ, List.set_cons_zero]
        refine reg_take 36 111 7 #[true, true, true, true, true, true, true, true, true, true, true, true, true, true, true, true, true, true, true, true, true, true, true, true, true, true, true, true, false, true, false, true, true, true, true, false, true, false, false, false, false] (by rfl) (v := ?_) rfl rfl (by kernel_rfl) (by kernel_rfl) (by kernel_rfl) (by kernel_rfl) (fun _ _ _ h => h) (by rfl) ?_ (Till.mk' S20 trivial) ?_
        rotate_left
        · intro W hS; go_simp; all_goals with_reducible rfl
        try simp only [List.setIfInBounds_toArray, List.set_cons_succ, List.set_cons_zero]
        refine reg_one 28 6 #[true, true, true, true, true, true, true, true, true, true, true, true, true, true, true, true, true, true, true, true, true, true, true, true, true, true, true, true, true, true, false, true, true, true, true, false, true, false, false, false, false] (by kernel_rfl) rfl (by rfl) (by kernel_rfl) (fun K hK => ?_)
        go_simp
        refine (WK.out X20).mono ?_
        rintro e X28 ⟨rfl, rfl⟩
        refine hK _ _ (Till.mk' S20 trivial) ?_
        clear hK K
        try simp only [List.setIfInBounds_toArray, List.set_cons_succ, List.set_cons_zero]
        refine reg_one 30 5 #[true, true, true, true, true, true, true, true, true, true, true, true, true, true, true, true, true, true, true, true, true, true, true, true, true, true, true, true, true, true, true, true, true, true, true, false, true, false, false, false, false] (by kernel_rfl) rfl (by rfl) (by kernel_rfl) (fun K hK => ?_)
        go_simp
        refine (Check_any root leaf H0.out.2.2.2.2.2.1 H0.out.2.2.2.2.2.2 x (k % 40) ps m H0.out.2.2.2.2.1 (by have := HM.out.1; omega) A c w.heap.size X20 (HR.out.2.2.1.turns S20 HR.out.2.2.2.1 (by simp)) (Nat.le_trans HR.out.2.2.2.1 S20.size)).mono ?_
        rintro e X30 ⟨rfl, t30⟩
        have S30 : Turns [] w4 X30 := S20.trans t30 (by simp)
        clear t30
        refine hK _ _ (Till.mk' S30 trivial) ?_
        clear hK K
        try simp only [List.setIfInBounds_toArray, List.set_cons_succ, List.set_cons_zero]
        refine reg_one 35 4 #[true, true, true, true, true, true, true, true, true, true, true, true, true, true, true, true, true, true, true, true, true, true, true, true, true, true, true, true, true, true, true, true, true, true, true, true, true, false, false, false, false] (by kernel_rfl) rfl (by rfl) (by kernel_rfl) (fun K hK => ?_)
        go_simp
        refine (WK.out X30).mono ?_
        rintro e X35 ⟨rfl, rfl⟩
        refine hK _ _ (Till.mk' S30 trivial) ?_
        clear hK K
        try simp only [List.setIfInBounds_toArray, List.set_cons_succ, List.set_cons_zero]
        refine reg_one 37 3 #[true, true, true, true, true, true, true, true, true, true, true, true, true, true, true, true, true, true, true, true, true, true, true, true, true, true, true, true, true, true, true, true, true, true, true, true, true, true, false, false, false] (by kernel_rfl) rfl (by rfl) (by kernel_rfl) (fun K hK => ?_)
        go_simp
        refine (refCheck_any root leaf H0.out.2.2.2.2.2.1 H0.out.2.2.2.2.2.2 x (k % 40) ps m H0.out.2.2.2.2.1 (by have := HM.out.1; omega) A c w.heap.size X30 (HR.out.2.2.1.turns S30 HR.out.2.2.2.1 (by simp)) (Nat.le_trans HR.out.2.2.2.1 S30.size)).mono ?_
        rintro e X37 ⟨rfl, t37⟩
        have S37 : Turns [] w4 X37 := S30.trans t37 (by simp)
        clear t37
        refine hK _ _ (Till.mk' S37 trivial) ?_
        clear hK K
        try simp only [List.setIfInBounds_toArray, List.set_cons_succ, List.set_cons_zero]
        refine reg_take 38 113 2 #[true, true, true, true, true, true, true, true, true, true, true, true, true, true, true, true, true, true, true, true, true, true, true, true, true, true, true, true, true, true, true, true, true, true, true, true, true, true, true, false, false] (by rfl) (v := ?_) rfl rfl (by kernel_rfl) (by kernel_rfl) (by kernel_rfl) (by kernel_rfl) (fun _ _ _ h => h) (by rfl) ?_ (Till.mk' S37 trivial) ?_
        rotate_left
        · intro W hS; go_simp; all_goals with_reducible rfl
        try simp only [List.setIfInBounds_toArray, List.set_cons_succ, List.set_cons_zero]
        refine reg_take 39 114 1 #[true, true, true, true, true, true, true, true, true, true, true, true, true, true, true, true, true, true, true, true, true, true, true, true, true, true, true, true, true, true, true, true, true, true, true, true, true, true, true, true, false] (by rfl) (v := ?_) rfl rfl (by kernel_rfl) (by kernel_rfl) (by kernel_rfl) (by kernel_rfl) (fun _ _ _ h => h) (by rfl) ?_ (Till.mk' S37 trivial) ?_
        rotate_left
        · intro W hS; go_simp; all_goals with_reducible rfl
        try simp only [List.setIfInBounds_toArray, List.set_cons_succ, List.set_cons_zero]
        refine reg_take 40 12 0 #[true, true, true, true, true, true, true, true, true, true, true, true, true, true, true, true, true, true, true, true, true, true, true, true, true, true, true, true, true, true, true, true, true, true, true, true, true, true, true, true, true] (by rfl) (v := ?_) rfl rfl (by kernel_rfl) (by kernel_rfl) (by kernel_rfl) (by kernel_rfl) (fun _ _ _ h => h) (by rfl) ?_ (Till.mk' S37 trivial) ?_
        rotate_left
        · intro W hS; go_simp; all_goals with_reducible rfl
        try simp only [List.setIfInBounds_toArray, List.set_cons_succ, List.set_cons_zero]
        refine reg_done (by kernel_rfl) ?_ _
        go_wp2_with fail
        go_ret
        exact ⟨rfl, below_of (HR.out.2.2.2.2.trans S37 (by simp))⟩
end Go.Proofs.Ytnjnealphbcamaa
