/- MerkleAll, walked. -/
import Derived.Test.YtnjnealphbcamaaMkW
import Derived.Test.YtnjnealphbcamaaMRoots
import Derived.Deep.DeepCutAuto
import Derived.Deep.CutBlock
namespace Go.Proofs.Ytnjnealphbcamaa
open Go.RowKit
set_option linter.unusedVariables false
set_option maxRecDepth 10000
set_option linter.unusedSimpArgs false
set_option linter.unnecessarySimpa false

set_option maxRecDepth 100000 in
set_option maxHeartbeats 4000000 in
theorem MerkleAll_walk (n0 : Int) (w : World) (hn1 : -9223372036854775808 ≤ n0 ∧ n0 ≤ 9223372036854775807) :
    Calls Try.prog 9 #[.int .i64 n0] w fun e w' => e = .returned (.bool true) ∧ Below w.heap.size w w' := by
  obtain ⟨q, hq, hq33⟩ : ∃ q : Nat, (q : Int) = n0 % 33 ∧ q < 33 := ⟨(n0 % 33).toNat, by omega, by omega⟩
  have WI := fun w => within_any n0 33 w hn1.1 hn1.2 (by omega) (by omega)
  rw [← hq] at WI
  have HWI := Lib.hid WI
  have KN := Lib.hid (known_any w)
  have hqi : (q : Int) < 33 := by omega
  have hz32 := zero_hash
  have hzl := zeros32_len
  generalize hzz : bvs (zeros 32) = zz at hz32 hzl
  have HZL := Lib.hid hzl
  have HN := Lib.hid hq33
  clear hq WI hn1 hzz hzl hq33
  go_enter Try.func9, Try.ntmps9
  go_wp2_with fail
  refine KN.out.mono ?_
  rintro e w1 ⟨rfl, t1⟩
  have HT1 := Lib.hid t1
  clear t1 KN
  go_wp2_with fail
  refine (HWI.out w1).mono ?_
  rintro e w2 ⟨rfl, rfl⟩
  clear HWI
  go_wp2_with fail
  obtain ⟨n, hn⟩ : ∃ n, n = q + 1 := ⟨_, rfl⟩
  rw [show (1 : Int) + (q : Int) = ((n : Nat) : Int) by omega]
  have hni : (n : Int) ≤ 33 := by omega
  have hn0 : 0 < (n : Int) := by omega
  have HN2 := Lib.hid (show 0 < n ∧ n ≤ 33 by have := HN.out; omega)
  clear hn hqi HN
  refine (Hashes_any n (by have := HN2.out; omega) w1).mono ?_
  rintro e w2 ⟨A3, c3, rfl, m3⟩
  have M3 := Lib.hid m3
  clear m3
  go_wp2_with fail
  refine (Root_any n (hashesL n) n (hashesL_len n) (Nat.le_refl _) (by have := HN2.out; omega) A3 c3 w2.heap.size w2 M3.out.hs (Nat.le_refl _)).mono ?_
  rintro e w3 ⟨rfl, t3⟩
  have hrl := mroot_len (hashesL n) (hashesL_all n)
  obtain ⟨r, hr⟩ : ∃ r, r = mroot (hashesL n) := ⟨_, rfl⟩
  rw [← hr] at hrl ⊢
  have b4 := Blk.new w3 zz 27
  have ta : Turns [] w3 (w3.alloc (.cells zz.toArray 27)) := (Turns.refl _ _).alloc _
  have HB := Lib.hid (And.intro b4 (And.intro ta (And.intro t3 (And.intro hr hrl))))
  have hsr := Lib.hid (show (Try.prog.info? 27).map (·.size) = some (bvs r).length by rw [size_hash, bvs_length, hrl])
  have hlr := Lib.hid (show zz.length = (bvs r).length by rw [HZL.out, bvs_length, hrl])
  clear b4 ta t3 hr hrl
  go_upto_region 6 with (first
    | (refine wpList_alloc_arr rfl 27 rfl zz.toArray hz32 ?_)
    | (refine wpList_store_blk rfl 27 (.tmp 4) (.tmp 17) rfl w3.heap.size (by kernel_rfl) (bvs r) zz 27 (by kernel_rfl) HB.out.1 hlr.out hsr.out (bvs_one _) (fun y1 hb1 ht1 hs1 => ?_); have HQ := Lib.hid (And.intro hb1 ht1); clear hb1 ht1 hs1)
    | fail)
  try simp only [Act.put, List.setIfInBounds_toArray, List.set_cons_succ, List.set_cons_zero]
  obtain ⟨p4, hp4⟩ : ∃ x, x = w3.heap.size := ⟨_, rfl⟩
  rw [← hp4] at HQ ⊢
  have ty : Turns [] w2 y1 := (HB.out.2.2.1.trans HB.out.2.1 (by simp)).trans HQ.out.2 (by intro x hx; simp at hx; subst hx; rw [hp4]; exact .inr HB.out.2.2.1.size)
  have HY := Lib.hid (And.intro HQ.out.1 (And.intro ty (And.intro HB.out.2.2.2.1 HB.out.2.2.2.2)))
  clear ty HQ HB hp4
  go_upto_block 0 with fail
  go_cut [5] from 18 to 24 (fun u wx => ∃ d : Nat, d ≤ 6 ∧ u = .int .i64 d ∧ n ≤ 2 ^ d ∧ wx = y1)
  case first =>
    go_wp2_with fail
    go_loop [5] (fun u => ∃ d : Nat, d ≤ 6 ∧ u = .int .i64 d ∧ (d = 6 → n ≤ 2 ^ 6)) (fun u => 6 - (intOf u).toNat)
    case atStart => exact ⟨0, by omega, rfl, by omega⟩
    case round =>
      obtain ⟨d, hd, rfl, h6⟩ := hrel
      have hN := HN2.out
      have hd7 : d = 0 ∨ d = 1 ∨ d = 2 ∨ d = 3 ∨ d = 4 ∨ d = 5 ∨ d = 6 := by omega
      clear h6 hd
      rcases hd7 with rfl | rfl | rfl | rfl | rfl | rfl | rfl
      · by_cases hlt : (1 : Int) < (n : Int)
        · go_wp2_with fail
          go_round
          case rel => exact ⟨1, by omega, by go_num, by omega⟩
          case measure => (simp [intOf] <;> omega)
        · go_wp2_with fail
          go_meet
          exact ⟨0, by omega, rfl, by omega, rfl⟩
      · by_cases hlt : (2 : Int) < (n : Int)
        · go_wp2_with fail
          go_round
          case rel => exact ⟨2, by omega, by go_num, by omega⟩
          case measure => (simp [intOf] <;> omega)
        · go_wp2_with fail
          go_meet
          exact ⟨1, by omega, rfl, by omega, rfl⟩
      · by_cases hlt : (4 : Int) < (n : Int)
        · go_wp2_with fail
          go_round
          case rel => exact ⟨3, by omega, by go_num, by omega⟩
          case measure => (simp [intOf] <;> omega)
        · go_wp2_with fail
          go_meet
          exact ⟨2, by omega, rfl, by omega, rfl⟩
      · by_cases hlt : (8 : Int) < (n : Int)
        · go_wp2_with fail
          go_round
          case rel => exact ⟨4, by omega, by go_num, by omega⟩
          case measure => (simp [intOf] <;> omega)
        · go_wp2_with fail
          go_meet
          exact ⟨3, by omega, rfl, by omega, rfl⟩
      · by_cases hlt : (16 : Int) < (n : Int)
        · go_wp2_with fail
          go_round
          case rel => exact ⟨5, by omega, by go_num, by omega⟩
          case measure => (simp [intOf] <;> omega)
        · go_wp2_with fail
          go_meet
          exact ⟨4, by omega, rfl, by omega, rfl⟩
      · by_cases hlt : (32 : Int) < (n : Int)
        · go_wp2_with fail
          go_round
          case rel => exact ⟨6, by omega, by go_num, by omega⟩
          case measure => (simp [intOf] <;> omega)
        · go_wp2_with fail
          go_meet
          exact ⟨5, by omega, rfl, by omega, rfl⟩
      · have hlt : ¬ (64 : Int) < (n : Int) := by omega
        go_wp2_with fail
        go_meet
        exact ⟨6, by omega, rfl, by omega, rfl⟩
  case rest =>
    obtain ⟨d, hd, rfl, hnd, rfl⟩ := hcut
    have hdi : (d : Int) ≤ 6 := by omega
    have HD := Lib.hid (And.intro hd hnd)
    clear hd hnd
    go_wp2_with fail
    go_loopw [6] (fun u wr => ∃ k : Nat, k ≤ n ∧ u = .int .i64 k ∧ Turns [] wc wr) (fun u _ => n - (intOf u).toNat)
    case atStart => exact ⟨0, by omega, rfl, Turns.refl _ _⟩
    case round =>
      obtain ⟨k, hk, rfl, td⟩ := hrel
      have HTD := Lib.hid td
      clear td
      by_cases hlt : k < n
      · have hki : (k : Int) < (n : Int) := by omega
        have HK := Lib.hid hlt
        have hpl := mproof_len (hashesL n).length (hashesL n) k (Nat.le_refl _) (by rw [hashesL_len]; exact hlt)
        rw [hashesL_len] at hpl
        have hwl := mway_le d n k HD.out.2
        have hck := mcheck_proof (hashesL n) k (by rw [hashesL_len]; exact hlt)
        have hkl : k < (hashesL n).length := by rw [hashesL_len]; exact hlt
        obtain ⟨x, hx⟩ : ∃ x, x = (hashesL n)[k] := ⟨_, rfl⟩
        have hx32 : x.length = 32 := by rw [hx]; exact hashesL_all n _ (List.getElem_mem hkl)
        rw [← HY.out.2.2.1, ← hx, hashesL_len] at hck
        have hsl3 := M3.out.hs.turns (HY.out.2.1.trans HTD.out (by simp)) (Nat.le_refl _) (by simp)
        have PR := Proof_in (hashesL n) n k (hashesL_len n) (by have := HN2.out; omega) hlt A3 c3 w2.heap.size wr hsl3 (HY.out.2.1.trans HTD.out (by simp)).size
        obtain ⟨b0, off, rfl, hb0, r0⟩ := hsl3.at_ (i := k) hkl
        rw [← hx] at r0
        obtain ⟨P, hP⟩ : ∃ P, P = mproof (hashesL n) k := ⟨_, rfl⟩
        rw [← hP] at PR hpl hck
        have HPR := Lib.hid PR
        have HC := Lib.hid (And.intro hpl (And.intro hwl (And.intro hck (And.intro hx32 r0))))
        clear PR hpl hwl hck hx hx32 r0 hP hb0 hkl hlt hk hsl3
        go_wp2_with fail
        refine HPR.out.mono ?_
        rintro e w5 ⟨A4, c4, rfl, m4⟩
        have M4 := Lib.hid m4
        have hv4 := (HY.out.1.turns HTD.out (by simp)).turns m4.turns (by simp)
        have r4 := hv4.range 0 32
        rw [List.drop_zero, List.take_of_length_le (by rw [bvs_length, HY.out.2.2.2]; omega)] at r4
        have r0 := rangeT m4.turns HC.out.2.2.2.2 (by simp)
        have HR := Lib.hid (And.intro r4 r0)
        have hsx := Lib.hid (show (Try.prog.info? 27).map (·.size) = some (bvs x).length by rw [size_hash, bvs_length, HC.out.2.2.2.1])
        have hPd : decide (d < P.length) = false := by have := HC.out; simp; omega
        have hPd2 : ¬ (d : Int) < (P.length : Int) := by have := HC.out; omega
        have hT : Turns [] w5 w5.drew := (Turns.refl _ _).drew
        clear m4 hv4 r4 r0 HPR
        go_upto_region 13 with fail
        refine reg_begin (fun W => Turns [] w5 W) (fun _ => True) 20 20 #[false, false, false, false, false, false, false, false, false, false, false, false, false, false, false, false, false, false, false, false] (by kernel_rfl) (by kernel_rfl) (by kernel_rfl) ?_
        refine reg_take 0 36 19 #[true, false, false, false, false, false, false, false, false, false, false, false, false, false, false, false, false, false, false, false] (by rfl) (v := ?_) rfl rfl (by kernel_rfl) (by kernel_rfl) (by kernel_rfl) (by kernel_rfl) (fun _ _ _ h => h) (by rfl) ?_ (Till.mk' hT trivial) ?_
        rotate_left
        · intro W hS; go_simp; all_goals with_reducible rfl
        try simp only [List.setIfInBounds_toArray, List.set_cons_succ, List.set_cons_zero]
        refine reg_take 1 37 18 #[true, true, false, false, false, false, false, false, false, false, false, false, false, false, false, false, false, false, false, false] (by rfl) (v := ?_) rfl rfl (by kernel_rfl) (by kernel_rfl) (by kernel_rfl) (by kernel_rfl) (fun _ _ _ h => h) (by rfl) ?_ (Till.mk' hT trivial) ?_
        rotate_left
        · intro W hS; go_simp; all_goals with_reducible rfl
        try simp only [List.setIfInBounds_toArray, List.set_cons_succ, List.set_cons_zero]
        refine reg_take 2 38 17 #[true, true, true, false, false, false, false, false, false, false, false, false, false, false, false, false, false, false, false, false] (by rfl) (v := ?_) rfl rfl (by kernel_rfl) (by kernel_rfl) (by kernel_rfl) (by kernel_rfl) (fun _ _ _ h => h) (by rfl) ?_ (Till.mk' hT trivial) ?_
        rotate_left
        · intro W hS; go_simp; all_goals with_reducible rfl
        try simp only [List.setIfInBounds_toArray, List.set_cons_succ, List.set_cons_zero]
        refine reg_take 3 39 16 #[true, true, true, true, false, false, false, false, false, false, false, false, false, false, false, false, false, false, false, false] (by rfl) (v := ?_) rfl rfl (by kernel_rfl) (by kernel_rfl) (by kernel_rfl) (by kernel_rfl) (fun _ _ _ h => h) (by rfl) ?_ (Till.mk' hT trivial) ?_
        rotate_left
        · intro W hS; go_simp; all_goals with_reducible rfl
        try simp only [List.setIfInBounds_toArray, List.set_cons_succ, List.set_cons_zero]
        refine reg_take 4 40 15 #[true, true, true, true, true, false, false, false, false, false, false, false, false, false, false, false, false, false, false, false] (by rfl) (v := ?_) rfl rfl (by kernel_rfl) (by kernel_rfl) (by kernel_rfl) (by kernel_rfl) (fun _ _ _ h => h) (by rfl) ?_ (Till.mk' hT trivial) ?_
        rotate_left
        · intro W hS; go_simp; all_goals with_reducible rfl
        try simp only [List.setIfInBounds_toArray, List.set_cons_succ, List.set_cons_zero]
        refine reg_take 5 41 14 #[true, true, true, true, true, true, false, false, false, false, false, false, false, false, false, false, false, false, false, false] (by rfl) (v := ?_) rfl rfl (by kernel_rfl) (by kernel_rfl) (by kernel_rfl) (by kernel_rfl) (fun _ _ _ h => h) (by rfl) ?_ (Till.mk' hT trivial) ?_
        rotate_left
        · intro W hS; go_simp; all_goals with_reducible rfl
        try simp only [List.setIfInBounds_toArray, List.set_cons_succ, List.set_cons_zero]
        refine reg_take 6 42 13 #[true, true, true, true, true, true, true, false, false, false, false, false, false, false, false, false, false, false, false, false] (by rfl) (v := ?_) rfl rfl (by kernel_rfl) (by kernel_rfl) (by kernel_rfl) (by kernel_rfl) (fun _ _ _ h => h) (by rfl) ?_ (Till.mk' hT trivial) ?_
        rotate_left
        · intro W hS; go_simp; all_goals with_reducible rfl
        try simp only [List.setIfInBounds_toArray, List.set_cons_succ, List.set_cons_zero]
        refine reg_take 7 43 12 #[true, true, true, true, true, true, true, true, false, false, false, false, false, false, false, false, false, false, false, false] (by rfl) (v := ?_) rfl rfl (by kernel_rfl) (by kernel_rfl) (by kernel_rfl) (by kernel_rfl) (fun _ _ _ h => h) (by rfl) ?_ (Till.mk' hT trivial) ?_
        rotate_left
        · intro W hS; go_simp; all_goals with_reducible rfl
        try simp only [List.setIfInBounds_toArray, List.set_cons_succ, List.set_cons_zero]
        refine reg_take 8 44 11 #[true, true, true, true, true, true, true, true, true, false, false, false, false, false, false, false, false, false, false, false] (by rfl) (v := ?_) rfl rfl (by kernel_rfl) (by kernel_rfl) (by kernel_rfl) (by kernel_rfl) (fun _ _ _ h => h) (by rfl) ?_ (Till.mk' hT trivial) ?_
        rotate_left
        · intro W hS; go_simp; all_goals with_reducible rfl
        try simp only [List.setIfInBounds_toArray, List.set_cons_succ, List.set_cons_zero]
        refine reg_take_y 9 45 10 #[true, true, true, true, true, true, true, true, true, true, false, false, false, false, false, false, false, false, false, false] (by rfl) rfl rfl (by kernel_rfl) (by kernel_rfl) (by kernel_rfl) (by kernel_rfl) (fun _ _ _ h => h) (yieldsIf_load_mid (by rfl) _ _ rfl p4 0 (by rfl) (bvs r) _ (fun W hS => rangeT hS HR.out.1 (by simp)) Try.underlying27 rfl hsr.out) (Till.mk' hT trivial) ?_
        try simp only [List.setIfInBounds_toArray, List.set_cons_succ, List.set_cons_zero]
        refine reg_take 10 46 9 #[true, true, true, true, true, true, true, true, true, true, true, false, false, false, false, false, false, false, false, false] (by rfl) (v := ?_) rfl rfl (by kernel_rfl) (by kernel_rfl) (by kernel_rfl) (by kernel_rfl) (fun _ _ _ h => h) (by rfl) ?_ (Till.mk' hT trivial) ?_
        rotate_left
        · intro W hS; go_simp; all_goals with_reducible rfl
        try simp only [List.setIfInBounds_toArray, List.set_cons_succ, List.set_cons_zero]
        refine reg_take 11 47 8 #[true, true, true, true, true, true, true, true, true, true, true, true, false, false, false, false, false, false, false, false] (by rfl) (v := ?_) rfl rfl (by kernel_rfl) (by kernel_rfl) (by kernel_rfl) (by kernel_rfl) (fun _ _ _ h => h) (by rfl) ?_ (Till.mk' hT trivial) ?_
        rotate_left
        · intro W hS; go_simp; all_goals with_reducible rfl
        try simp only [List.setIfInBounds_toArray, List.set_cons_succ, List.set_cons_zero]
        refine reg_take 12 48 7 #[true, true, true, true, true, true, true, true, true, true, true, true, true, false, false, false, false, false, false, false] (by rfl) (v := ?_) rfl rfl (by kernel_rfl) (by kernel_rfl) (by kernel_rfl) (by kernel_rfl) (fun _ _ _ h => h) (by rfl) ?_ (Till.mk' hT trivial) ?_
        rotate_left
        · intro W hS; go_simp; all_goals with_reducible rfl
        try simp only [List.setIfInBounds_toArray, List.set_cons_succ, List.set_cons_zero]
        refine reg_take_y 13 49 6 #[true, true, true, true, true, true, true, true, true, true, true, true, true, true, false, false, false, false, false, false] (by rfl) rfl rfl (by kernel_rfl) (by kernel_rfl) (by kernel_rfl) (by kernel_rfl) (fun _ _ _ h => h) (yieldsIf_load_mid (by rfl) _ _ rfl b0 (off + k * 32) (by rfl) (bvs x) _ (fun W hS => rangeT hS HR.out.2 (by simp)) Try.underlying27 rfl hsx.out) (Till.mk' hT trivial) ?_
        try simp only [List.setIfInBounds_toArray, List.set_cons_succ, List.set_cons_zero]
        refine reg_take 14 50 5 #[true, true, true, true, true, true, true, true, true, true, true, true, true, true, true, false, false, false, false, false] (by rfl) (v := ?_) rfl rfl (by kernel_rfl) (by kernel_rfl) (by kernel_rfl) (by kernel_rfl) (fun _ _ _ h => h) (by rfl) ?_ (Till.mk' hT trivial) ?_
        rotate_left
        · intro W hS; go_simp; all_goals with_reducible rfl
        try simp only [List.setIfInBounds_toArray, List.set_cons_succ, List.set_cons_zero]
        refine reg_take 15 51 4 #[true, true, true, true, true, true, true, true, true, true, true, true, true, true, true, true, false, false, false, false] (by rfl) (v := ?_) rfl rfl (by kernel_rfl) (by kernel_rfl) (by kernel_rfl) (by kernel_rfl) (fun _ _ _ h => h) (by rfl) ?_ (Till.mk' hT trivial) ?_
        rotate_left
        · intro W hS; go_simp; all_goals with_reducible rfl
        try simp only [List.setIfInBounds_toArray, List.set_cons_succ, List.set_cons_zero]
        refine reg_take 16 52 3 #[true, true, true, true, true, true, true, true, true, true, true, true, true, true, true, true, true, false, false, false] (by rfl) (v := ?_) rfl rfl (by kernel_rfl) (by kernel_rfl) (by kernel_rfl) (by kernel_rfl) (fun _ _ _ h => h) (by rfl) ?_ (Till.mk' hT trivial) ?_
        rotate_left
        · intro W hS; go_simp; all_goals with_reducible rfl
        try simp only [List.setIfInBounds_toArray, List.set_cons_succ, List.set_cons_zero]
        refine reg_one 17 2 #[true, true, true, true, true, true, true, true, true, true, true, true, true, true, true, true, true, true, false, false] (by kernel_rfl) rfl (by rfl) (by kernel_rfl) (fun K hK => ?_)
        go_simp
        refine (Check_in r x HY.out.2.2.2 HC.out.2.2.2.1 k n HK.out (by have := HN2.out; omega) P P.length rfl (by have := HC.out; omega) A4 c4 w5.heap.size w5.drew M4.out.hs.drew (Nat.le_refl _)).mono ?_
        rintro e X17 ⟨rfl, t17⟩
        rw [HC.out.2.2.1]
        have S17 : Turns [] w5 X17 := hT.trans t17 (by simp)
        clear t17
        refine hK _ _ (Till.mk' S17 trivial) ?_
        clear hK K
        try simp only [List.setIfInBounds_toArray, List.set_cons_succ, List.set_cons_zero]
        refine reg_take 18 54 1 #[true, true, true, true, true, true, true, true, true, true, true, true, true, true, true, true, true, true, true, false] (by rfl) (v := ?_) rfl rfl (by kernel_rfl) (by kernel_rfl) (by kernel_rfl) (by kernel_rfl) (fun _ _ _ h => h) (by rfl) ?_ (Till.mk' S17 trivial) ?_
        rotate_left
        · intro W hS; go_simp; all_goals with_reducible rfl
        try simp only [List.setIfInBounds_toArray, List.set_cons_succ, List.set_cons_zero]
        refine reg_take 19 55 0 #[true, true, true, true, true, true, true, true, true, true, true, true, true, true, true, true, true, true, true, true] (by rfl) (v := ?_) rfl rfl (by kernel_rfl) (by kernel_rfl) (by kernel_rfl) (by kernel_rfl) (fun _ _ _ h => h) (by rfl) ?_ (Till.mk' S17 trivial) ?_
        rotate_left
        · intro W hS; go_simp; all_goals with_reducible rfl
        try simp only [List.setIfInBounds_toArray, List.set_cons_succ, List.set_cons_zero]
        refine reg_done (by kernel_rfl) ?_ _
        have hS := Lib.hid (HTD.out.trans (M4.out.turns.trans S17 (by simp)) (by simp))
        have hk := HK.out
        clear S17
        go_wp2_with fail
        go_roundw
        case rel => exact ⟨k + 1, by omega, by go_num, hS.out⟩
        case measure => (simp [intOf] <;> omega)
      · obtain rfl : k = n := by omega
        have hF := Lib.hid (below_of ((HT1.out.trans M3.out.turns (by simp)).trans (HY.out.2.1.trans HTD.out (by simp)) (by simp)))
        go_wp2_with fail
        go_ret
        exact ⟨rfl, hF.out⟩
end Go.Proofs.Ytnjnealphbcamaa
