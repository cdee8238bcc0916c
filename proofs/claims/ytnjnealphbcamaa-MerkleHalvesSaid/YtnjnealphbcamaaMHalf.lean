/- MerkleHalves, walked. -/
import Derived.Test.YtnjnealphbcamaaMRoots
import Derived.Deep.DeepCutAuto
import Derived.Deep.CutBlock
namespace Go.Proofs.Ytnjnealphbcamaa
open Go.RowKit
set_option linter.unusedVariables false
set_option maxRecDepth 10000
set_option linter.unusedSimpArgs false
set_option linter.unnecessarySimpa false

theorem wp_alloc_arr' {P : Program} {o : Oper} {a : Act} {w : World} {K : Act → World → Prop} {Q : Exit → Act → World → Prop} (ty : TypeId) (ho : o.op = .alloc ty) (zs : Array Value) (hz : (P.info? ty).bind (·.zero) = some (.agg zs))
    (h : K (a.put o.dst (.pointer (some ⟨w.heap.size, 0, none⟩))) (w.alloc (.cells zs ty))) : o.wp P a w K Q := by
  unfold Oper.wp execOp
  simp only [ho, Sem.run_bind, Sem.run_pure, run_alloc_arr w ty zs hz, Result.andThen_ok]
  exact h
def HalfP (n : Nat) : Prop := 1 ≤ n ∧ n ≤ 16 ∧ mcut (2 * n) = n ∧ mcut (2 * n + 1) = 2 * n
set_option maxRecDepth 100000 in
set_option maxHeartbeats 4000000 in
theorem MerkleHalves_walk (k0 : Int) (w : World) (hk1 : -9223372036854775808 ≤ k0 ∧ k0 ≤ 9223372036854775807) :
    Calls Try.prog 4 #[.int .i64 k0] w fun e w' => e = .returned (.bool true) ∧ Below w.heap.size w w' := by
  obtain ⟨d, hd, hd5⟩ : ∃ q : Nat, (q : Int) = k0 % 5 ∧ q < 5 := ⟨(k0 % 5).toNat, by omega, by omega⟩
  have WI := fun w => within_any k0 5 w hk1.1 hk1.2 (by omega) (by omega)
  rw [← hd] at WI
  have HWI := Lib.hid WI
  have KN := Lib.hid (known_any w)
  have HD := Lib.hid hd5
  clear hd WI hk1 hd5
  go_enter Try.func4, Try.ntmps4
  go_wp2_with fail
  refine KN.out.mono ?_
  rintro e w1 ⟨rfl, t1⟩
  have HT1 := Lib.hid t1
  clear t1 KN
  go_upto_region 3 with fail
  go_cut [3] (fun u wx => ∃ n : Nat, u = .int .i64 n ∧ HalfP n ∧ wx = w1)
  case first =>
    go_wp2_with fail
    refine (HWI.out w1).mono ?_
    rintro e w2 ⟨rfl, rfl⟩
    have hd5 := HD.out
    have hd7 : d = 0 ∨ d = 1 ∨ d = 2 ∨ d = 3 ∨ d = 4 := by omega
    clear hd5 HWI HD
    rcases hd7 with rfl | rfl | rfl | rfl | rfl
    · go_wp2_with fail
      go_meet
      exact ⟨1, rfl, ⟨by omega, by omega, by decide +kernel, by decide +kernel⟩, rfl⟩
    · go_wp2_with fail
      go_meet
      exact ⟨2, rfl, ⟨by omega, by omega, by decide +kernel, by decide +kernel⟩, rfl⟩
    · go_wp2_with fail
      go_meet
      exact ⟨4, rfl, ⟨by omega, by omega, by decide +kernel, by decide +kernel⟩, rfl⟩
    · go_wp2_with fail
      go_meet
      exact ⟨8, rfl, ⟨by omega, by omega, by decide +kernel, by decide +kernel⟩, rfl⟩
    · go_wp2_with fail
      go_meet
      exact ⟨16, rfl, ⟨by omega, by omega, by decide +kernel, by decide +kernel⟩, rfl⟩
  case rest =>
    obtain ⟨n, rfl, hp, rfl⟩ := hcut
    have HPn := Lib.hid hp
    have hni : (n : Int) ≤ 16 := by have := hp.2.1; omega
    have hn0 : 1 ≤ (n : Int) := by have := hp.1; omega
    clear hp
    go_wp2_with fail
    rw [show 2 * (n : Int) + 1 = ((2 * n + 1 : Nat) : Int) by omega]
    refine (Hashes_any (2 * n + 1) (by have := HPn.out.2.1; omega) _).mono ?_
    rintro e w2 ⟨A3, c3, rfl, m3⟩
    have M3 := Lib.hid m3
    clear m3
    have hz32 := zero_hash
    have hzl := zeros32_len
    generalize hzz : bvs (zeros 32) = zz at hz32 hzl
    obtain ⟨_, c0, hv, hnc, _⟩ := M3.out.hs.form
    injection hv with e1 e2 e3
    subst e3
    clear e1 e2
    rw [hashesL_len] at hnc
    have hcn : c3 ≠ n := by omega
    have hsA := M3.out.hs.to (k := n) (by omega)
    have hsB0 := M3.out.hs.from_ (k := n) (by omega) (hashesL_len _).symm
    rw [if_neg hcn] at hsB0
    have hsB := hsB0.to (k := n) (by omega)
    have hlA : ((hashesL (2 * n + 1)).take n).length = n := by rw [List.length_take, hashesL_len]; omega
    have hlB : (((hashesL (2 * n + 1)).drop n).take n).length = n := by rw [List.length_take, List.length_drop, hashesL_len]; omega
    have RA := fun W => Root_any n _ n hlA (Nat.le_refl _) (by have := HPn.out.2.1; omega) A3 c3 w2.heap.size W
    have RB := fun W => Root_any n _ n hlB (Nat.le_refl _) (by have := HPn.out.2.1; omega) (A3.map fun x => x.add (n * 32)) (c3 - n) w2.heap.size W
    have hra := mroot_len _ hsA.all
    have hrb := mroot_len _ hsB.all
    obtain ⟨ra, hrae⟩ : ∃ r, r = mroot ((hashesL (2 * n + 1)).take n) := ⟨_, rfl⟩
    obtain ⟨rb, hrbe⟩ : ∃ r, r = mroot (((hashesL (2 * n + 1)).drop n).take n) := ⟨_, rfl⟩
    simp only [← hrae] at RA hra
    simp only [← hrbe] at RB hrb
    have HRA := Lib.hid RA
    have HRB := Lib.hid RB
    have HZL := Lib.hid hzl
    have HS := Lib.hid (And.intro hsA (And.intro hsB (And.intro hra (And.intro hrb (And.intro hrae hrbe)))))
    have HC := Lib.hid hcn
    have q1 : (n : Int) ≤ (c3 : Int) := by omega
    have q2 : 2 * (n : Int) ≤ (c3 : Int) := by omega
    have q3 : IntKind.i64.wrap (2 * (n : Int)) = 2 * (n : Int) := IntWalk.i64_in _ (by omega)
    have q4 : (n : Int) ≤ 2 * (n : Int) := by omega
    have q5 : (2 * (n : Int)).toNat = 2 * n := by omega
    have q6 : 2 * n - n = n := by omega
    obtain ⟨Y, hY⟩ : ∃ Y, Y = w2.drew := ⟨_, rfl⟩
    have S0 : Turns [] w2 Y := by rw [hY]; exact (Turns.refl _ _).drew
    have HY := Lib.hid hY
    clear hzz hzl hsA hsB0 hsB hlA hlB RA RB hra hrb hrae hrbe hnc hY
    go_upto_region 5 with fail
    go_cut [5, 6] (fun u5 u6 wx => ∃ p5 p6 : Nat, u5 = .pointer (some ⟨p5, 0, none⟩) ∧ u6 = .pointer (some ⟨p6, 0, none⟩) ∧ Blk wx p5 (bvs ra) 27 ∧ Blk wx p6 (bvs rb) 27 ∧ Turns [] w2 wx)
    case first =>
      refine reg_begin (fun W => Turns [] w2 W) (fun _ => True) 14 14 #[false, false, false, false, false, false, false, false, false, false, false, false, false, false] (by kernel_rfl) (by kernel_rfl) (by kernel_rfl) ?_
      rw [← HY.out]
      refine reg_take 0 17 13 #[true, false, false, false, false, false, false, false, false, false, false, false, false, false] (by rfl) (v := ?_) rfl rfl (by kernel_rfl) (by kernel_rfl) (by kernel_rfl) (by kernel_rfl) (fun _ _ _ h => h) (by rfl) ?_ (Till.mk' S0 trivial) ?_
      rotate_left
      · intro W hS; go_simp; all_goals with_reducible rfl
      try simp only [List.setIfInBounds_toArray, List.set_cons_succ, List.set_cons_zero]
      refine reg_take 1 18 12 #[true, true, false, false, false, false, false, false, false, false, false, false, false, false] (by rfl) (v := ?_) rfl rfl (by kernel_rfl) (by kernel_rfl) (by kernel_rfl) (by kernel_rfl) (fun _ _ _ h => h) (by rfl) ?_ (Till.mk' S0 trivial) ?_
      rotate_left
      · intro W hS; go_simp; all_goals with_reducible rfl
      try simp only [List.setIfInBounds_toArray, List.set_cons_succ, List.set_cons_zero]
      refine reg_take 2 19 11 #[true, true, true, false, false, false, false, false, false, false, false, false, false, false] (by rfl) (v := ?_) rfl rfl (by kernel_rfl) (by kernel_rfl) (by kernel_rfl) (by kernel_rfl) (fun _ _ _ h => h) (by rfl) ?_ (Till.mk' S0 trivial) ?_
      rotate_left
      · intro W hS; go_simp; all_goals with_reducible rfl
      try simp only [List.setIfInBounds_toArray, List.set_cons_succ, List.set_cons_zero]
      refine reg_take 4 21 10 #[true, true, true, false, true, false, false, false, false, false, false, false, false, false] (by rfl) (v := ?_) rfl rfl (by kernel_rfl) (by kernel_rfl) (by kernel_rfl) (by kernel_rfl) (fun _ _ _ h => h) (by rfl) ?_ (Till.mk' S0 trivial) ?_
      rotate_left
      · intro W hS; go_simp; all_goals with_reducible rfl
      try simp only [List.setIfInBounds_toArray, List.set_cons_succ, List.set_cons_zero]
      refine reg_take 5 22 9 #[true, true, true, false, true, true, false, false, false, false, false, false, false, false] (by rfl) (v := ?_) rfl rfl (by kernel_rfl) (by kernel_rfl) (by kernel_rfl) (by kernel_rfl) (fun _ _ _ h => h) (by rfl) ?_ (Till.mk' S0 trivial) ?_
      rotate_left
      · intro W hS; go_simp; all_goals with_reducible rfl
      try simp only [List.setIfInBounds_toArray, List.set_cons_succ, List.set_cons_zero]
      refine reg_take 6 23 8 #[true, true, true, false, true, true, true, false, false, false, false, false, false, false] (by rfl) (v := ?_) rfl rfl (by kernel_rfl) (by kernel_rfl) (by kernel_rfl) (by kernel_rfl) (fun _ _ _ h => h) (by rfl) ?_ (Till.mk' S0 trivial) ?_
      rotate_left
      · intro W hS; go_simp; all_goals with_reducible rfl
      try simp only [List.setIfInBounds_toArray, List.set_cons_succ, List.set_cons_zero]
      refine reg_take 7 24 7 #[true, true, true, false, true, true, true, true, false, false, false, false, false, false] (by rfl) (v := ?_) rfl rfl (by kernel_rfl) (by kernel_rfl) (by kernel_rfl) (by kernel_rfl) (fun _ _ _ h => h) (by rfl) ?_ (Till.mk' S0 trivial) ?_
      rotate_left
      · intro W hS; go_simp; all_goals with_reducible rfl
      try simp only [List.setIfInBounds_toArray, List.set_cons_succ, List.set_cons_zero]
      refine reg_take 8 25 6 #[true, true, true, false, true, true, true, true, true, false, false, false, false, false] (by rfl) (v := ?_) rfl rfl (by kernel_rfl) (by kernel_rfl) (by kernel_rfl) (by kernel_rfl) (fun _ _ _ h => h) (by rfl) ?_ (Till.mk' S0 trivial) ?_
      rotate_left
      · intro W hS; go_simp; all_goals with_reducible rfl
      try simp only [List.setIfInBounds_toArray, List.set_cons_succ, List.set_cons_zero]
      refine reg_three 3 10 11 5 #[true, true, true, true, true, true, true, true, true, false, false, false, false, false] #[true, true, true, false, true, true, true, true, true, false, true, false, false, false] #[true, true, true, false, true, true, true, true, true, false, false, true, false, false] (by kernel_rfl) rfl rfl rfl (by rfl) (by rfl) (by rfl) (by kernel_rfl) (by kernel_rfl) (by kernel_rfl) (fun K hK => ?_) (fun K hK => ?_) (fun K hK => ?_)
      · go_simp
        refine (HRA.out Y (HS.out.1.turns S0 (Nat.le_refl _) (by simp)) S0.size).mono ?_
        rintro e X3 ⟨rfl, D3⟩
        refine hK _ _ (Till.mk' (S0.trans D3 (by simp)) trivial) ?_
        clear hK K
        try simp only [List.setIfInBounds_toArray, List.set_cons_succ, List.set_cons_zero]
        refine reg_three 9 10 11 4 #[true, true, true, true, true, true, true, true, true, true, false, false, false, false] #[true, true, true, true, true, true, true, true, true, false, true, false, false, false] #[true, true, true, true, true, true, true, true, true, false, false, true, false, false] (by kernel_rfl) rfl rfl rfl (by rfl) (by rfl) (by rfl) (by kernel_rfl) (by kernel_rfl) (by kernel_rfl) (fun K hK => ?_) (fun K hK => ?_) (fun K hK => ?_)
        · go_simp
          refine (HRB.out X3 (HS.out.2.1.turns (S0.trans D3 (by simp)) (Nat.le_refl _) (by simp)) (S0.trans D3 (by simp)).size).mono ?_
          rintro e X9 ⟨rfl, D9⟩
          refine hK _ _ (Till.mk' ((S0.trans D3 (by simp)).trans D9 (by simp)) trivial) ?_
          clear hK K
          try simp only [List.setIfInBounds_toArray, List.set_cons_succ, List.set_cons_zero]
          refine reg_two 10 11 3 #[true, true, true, true, true, true, true, true, true, true, true, false, false, false] #[true, true, true, true, true, true, true, true, true, true, false, true, false, false] (by kernel_rfl) rfl rfl (by rfl) (by rfl) (by kernel_rfl) (by kernel_rfl) (fun K hK => ?_) (fun K hK => ?_)
          · refine wp_alloc_arr' 27 (by rfl) zz.toArray hz32 ?_
            obtain ⟨X10, hX10⟩ : ∃ q, q = (X9).alloc (.cells zz.toArray 27) := ⟨_, rfl⟩
            obtain ⟨p5, hp10⟩ : ∃ q, q = (X9).heap.size := ⟨_, rfl⟩
            have D10 : Turns [] (X9) X10 := by rw [hX10]; exact (Turns.refl _ _).alloc _
            have K10 : Blk X10 p5 zz 27 := by rw [hX10, hp10]; exact Blk.new _ _ _
            have L10 : w2.heap.size ≤ p5 := by rw [hp10]; exact ((S0.trans D3 (by simp)).trans D9 (by simp)).size
            rw [← hX10, ← hp10]
            clear hX10 hp10
            refine hK _ _ (Till.mk' (((S0.trans D3 (by simp)).trans D9 (by simp)).trans D10 (by simp)) trivial) ?_
            clear hK K
            try simp only [List.setIfInBounds_toArray, List.set_cons_succ, List.set_cons_zero]
            refine reg_one 11 2 #[true, true, true, true, true, true, true, true, true, true, true, true, false, false] (by kernel_rfl) rfl (by rfl) (by kernel_rfl) (fun K hK => ?_)
            refine wp_alloc_arr' 27 (by rfl) zz.toArray hz32 ?_
            obtain ⟨X11, hX11⟩ : ∃ q, q = (X10).alloc (.cells zz.toArray 27) := ⟨_, rfl⟩
            obtain ⟨p6, hp11⟩ : ∃ q, q = (X10).heap.size := ⟨_, rfl⟩
            have D11 : Turns [] (X10) X11 := by rw [hX11]; exact (Turns.refl _ _).alloc _
            have K11 : Blk X11 p6 zz 27 := by rw [hX11, hp11]; exact Blk.new _ _ _
            have L11 : w2.heap.size ≤ p6 := by rw [hp11]; exact (((S0.trans D3 (by simp)).trans D9 (by simp)).trans D10 (by simp)).size
            have hne : p5 ≠ p6 := by have := (K10.turns (Turns.refl [] X10) (by simp)).lt; omega
            rw [← hX11, ← hp11]
            clear hX11 hp11
            refine hK _ _ (Till.mk' ((((S0.trans D3 (by simp)).trans D9 (by simp)).trans D10 (by simp)).trans D11 (by simp)) trivial) ?_
            clear hK K
            try simp only [List.setIfInBounds_toArray, List.set_cons_succ, List.set_cons_zero]
            refine reg_one 12 1 #[true, true, true, true, true, true, true, true, true, true, true, true, true, false] (by kernel_rfl) rfl (by rfl) (by kernel_rfl) (fun K hK => ?_)
            refine wp_store_blk 27 _ _ (by rfl) p5 (by rfl) (bvs ra) zz 27 (by rfl) (K10.turns ((Turns.refl [] X10).trans D11 (by simp)) (by simp)) (by rw [HZL.out, bvs_length, HS.out.2.2.1]) (by rw [size_hash, bvs_length, HS.out.2.2.1]) (bvs_one _) (fun X12 hb12 ht12 => ?_)
            have S12 : Turns [] w2 X12 := ((((S0.trans D3 (by simp)).trans D9 (by simp)).trans D10 (by simp)).trans D11 (by simp)).trans ht12 (by intro q hq; simp at hq; subst hq; exact .inr L10)
            refine hK _ _ (Till.mk' S12 trivial) ?_
            clear hK K
            try simp only [List.setIfInBounds_toArray, List.set_cons_succ, List.set_cons_zero]
            refine reg_one 13 0 #[true, true, true, true, true, true, true, true, true, true, true, true, true, true] (by kernel_rfl) rfl (by rfl) (by kernel_rfl) (fun K hK => ?_)
            refine wp_store_blk 27 _ _ (by rfl) p6 (by rfl) (bvs rb) zz 27 (by rfl) ((K11.turns (Turns.refl [] X11) (by simp)).turns ht12 (by simp; omega)) (by rw [HZL.out, bvs_length, HS.out.2.2.2.1]) (by rw [size_hash, bvs_length, HS.out.2.2.2.1]) (bvs_one _) (fun X13 hb13 ht13 => ?_)
            have S13 : Turns [] w2 X13 := S12.trans ht13 (by intro q hq; simp at hq; subst hq; exact .inr L11)
            refine hK _ _ (Till.mk' S13 trivial) ?_
            clear hK K
            try simp only [List.setIfInBounds_toArray, List.set_cons_succ, List.set_cons_zero]
            refine reg_done (by kernel_rfl) ?_ _
            have hF := Lib.hid (And.intro (hb12.turns ht13 (by simp; omega)) (And.intro hb13 S13))
            clear hb12 hb13 ht12 ht13 S12 S13
            go_wp2_with fail
            go_meet
            exact ⟨p5, p6, rfl, rfl, hF.out.1, hF.out.2.1, hF.out.2.2⟩
          · refine wp_alloc_arr' 27 (by rfl) zz.toArray hz32 ?_
            obtain ⟨X11, hX11⟩ : ∃ q, q = (X9).alloc (.cells zz.toArray 27) := ⟨_, rfl⟩
            obtain ⟨p6, hp11⟩ : ∃ q, q = (X9).heap.size := ⟨_, rfl⟩
            have D11 : Turns [] (X9) X11 := by rw [hX11]; exact (Turns.refl _ _).alloc _
            have K11 : Blk X11 p6 zz 27 := by rw [hX11, hp11]; exact Blk.new _ _ _
            have L11 : w2.heap.size ≤ p6 := by rw [hp11]; exact ((S0.trans D3 (by simp)).trans D9 (by simp)).size
            rw [← hX11, ← hp11]
            clear hX11 hp11
            refine hK _ _ (Till.mk' (((S0.trans D3 (by simp)).trans D9 (by simp)).trans D11 (by simp)) trivial) ?_
            clear hK K
            try simp only [List.setIfInBounds_toArray, List.set_cons_succ, List.set_cons_zero]
            refine reg_one 10 2 #[true, true, true, true, true, true, true, true, true, true, true, true, false, false] (by kernel_rfl) rfl (by rfl) (by kernel_rfl) (fun K hK => ?_)
            refine wp_alloc_arr' 27 (by rfl) zz.toArray hz32 ?_
            obtain ⟨X10, hX10⟩ : ∃ q, q = (X11).alloc (.cells zz.toArray 27) := ⟨_, rfl⟩
            obtain ⟨p5, hp10⟩ : ∃ q, q = (X11).heap.size := ⟨_, rfl⟩
            have D10 : Turns [] (X11) X10 := by rw [hX10]; exact (Turns.refl _ _).alloc _
            have K10 : Blk X10 p5 zz 27 := by rw [hX10, hp10]; exact Blk.new _ _ _
            have L10 : w2.heap.size ≤ p5 := by rw [hp10]; exact (((S0.trans D3 (by simp)).trans D9 (by simp)).trans D11 (by simp)).size
            have hne : p5 ≠ p6 := by have := (K11.turns (Turns.refl [] X11) (by simp)).lt; omega
            rw [← hX10, ← hp10]
            clear hX10 hp10
            refine hK _ _ (Till.mk' ((((S0.trans D3 (by simp)).trans D9 (by simp)).trans D11 (by simp)).trans D10 (by simp)) trivial) ?_
            clear hK K
            try simp only [List.setIfInBounds_toArray, List.set_cons_succ, List.set_cons_zero]
            refine reg_one 12 1 #[true, true, true, true, true, true, true, true, true, true, true, true, true, false] (by kernel_rfl) rfl (by rfl) (by kernel_rfl) (fun K hK => ?_)
            refine wp_store_blk 27 _ _ (by rfl) p5 (by rfl) (bvs ra) zz 27 (by rfl) (K10.turns (Turns.refl [] X10) (by simp)) (by rw [HZL.out, bvs_length, HS.out.2.2.1]) (by rw [size_hash, bvs_length, HS.out.2.2.1]) (bvs_one _) (fun X12 hb12 ht12 => ?_)
            have S12 : Turns [] w2 X12 := ((((S0.trans D3 (by simp)).trans D9 (by simp)).trans D11 (by simp)).trans D10 (by simp)).trans ht12 (by intro q hq; simp at hq; subst hq; exact .inr L10)
            refine hK _ _ (Till.mk' S12 trivial) ?_
            clear hK K
            try simp only [List.setIfInBounds_toArray, List.set_cons_succ, List.set_cons_zero]
            refine reg_one 13 0 #[true, true, true, true, true, true, true, true, true, true, true, true, true, true] (by kernel_rfl) rfl (by rfl) (by kernel_rfl) (fun K hK => ?_)
            refine wp_store_blk 27 _ _ (by rfl) p6 (by rfl) (bvs rb) zz 27 (by rfl) ((K11.turns ((Turns.refl [] X11).trans D10 (by simp)) (by simp)).turns ht12 (by simp; omega)) (by rw [HZL.out, bvs_length, HS.out.2.2.2.1]) (by rw [size_hash, bvs_length, HS.out.2.2.2.1]) (bvs_one _) (fun X13 hb13 ht13 => ?_)
            have S13 : Turns [] w2 X13 := S12.trans ht13 (by intro q hq; simp at hq; subst hq; exact .inr L11)
            refine hK _ _ (Till.mk' S13 trivial) ?_
            clear hK K
            try simp only [List.setIfInBounds_toArray, List.set_cons_succ, List.set_cons_zero]
            refine reg_done (by kernel_rfl) ?_ _
            have hF := Lib.hid (And.intro (hb12.turns ht13 (by simp; omega)) (And.intro hb13 S13))
            clear hb12 hb13 ht12 ht13 S12 S13
            go_wp2_with fail
            go_meet
            exact ⟨p5, p6, rfl, rfl, hF.out.1, hF.out.2.1, hF.out.2.2⟩
        · refine wp_alloc_arr' 27 (by rfl) zz.toArray hz32 ?_
          obtain ⟨X10, hX10⟩ : ∃ q, q = (X3).alloc (.cells zz.toArray 27) := ⟨_, rfl⟩
          obtain ⟨p5, hp10⟩ : ∃ q, q = (X3).heap.size := ⟨_, rfl⟩
          have D10 : Turns [] (X3) X10 := by rw [hX10]; exact (Turns.refl _ _).alloc _
          have K10 : Blk X10 p5 zz 27 := by rw [hX10, hp10]; exact Blk.new _ _ _
          have L10 : w2.heap.size ≤ p5 := by rw [hp10]; exact (S0.trans D3 (by simp)).size
          rw [← hX10, ← hp10]
          clear hX10 hp10
          refine hK _ _ (Till.mk' ((S0.trans D3 (by simp)).trans D10 (by simp)) trivial) ?_
          clear hK K
          try simp only [List.setIfInBounds_toArray, List.set_cons_succ, List.set_cons_zero]
          refine reg_two 9 11 3 #[true, true, true, true, true, true, true, true, true, true, true, false, false, false] #[true, true, true, true, true, true, true, true, true, false, true, true, false, false] (by kernel_rfl) rfl rfl (by rfl) (by rfl) (by kernel_rfl) (by kernel_rfl) (fun K hK => ?_) (fun K hK => ?_)
          · go_simp
            refine (HRB.out X10 (HS.out.2.1.turns ((S0.trans D3 (by simp)).trans D10 (by simp)) (Nat.le_refl _) (by simp)) ((S0.trans D3 (by simp)).trans D10 (by simp)).size).mono ?_
            rintro e X9 ⟨rfl, D9⟩
            refine hK _ _ (Till.mk' (((S0.trans D3 (by simp)).trans D10 (by simp)).trans D9 (by simp)) trivial) ?_
            clear hK K
            try simp only [List.setIfInBounds_toArray, List.set_cons_succ, List.set_cons_zero]
            refine reg_one 11 2 #[true, true, true, true, true, true, true, true, true, true, true, true, false, false] (by kernel_rfl) rfl (by rfl) (by kernel_rfl) (fun K hK => ?_)
            refine wp_alloc_arr' 27 (by rfl) zz.toArray hz32 ?_
            obtain ⟨X11, hX11⟩ : ∃ q, q = (X9).alloc (.cells zz.toArray 27) := ⟨_, rfl⟩
            obtain ⟨p6, hp11⟩ : ∃ q, q = (X9).heap.size := ⟨_, rfl⟩
            have D11 : Turns [] (X9) X11 := by rw [hX11]; exact (Turns.refl _ _).alloc _
            have K11 : Blk X11 p6 zz 27 := by rw [hX11, hp11]; exact Blk.new _ _ _
            have L11 : w2.heap.size ≤ p6 := by rw [hp11]; exact (((S0.trans D3 (by simp)).trans D10 (by simp)).trans D9 (by simp)).size
            have hne : p5 ≠ p6 := by have := (K10.turns ((Turns.refl [] X10).trans D9 (by simp)) (by simp)).lt; omega
            rw [← hX11, ← hp11]
            clear hX11 hp11
            refine hK _ _ (Till.mk' ((((S0.trans D3 (by simp)).trans D10 (by simp)).trans D9 (by simp)).trans D11 (by simp)) trivial) ?_
            clear hK K
            try simp only [List.setIfInBounds_toArray, List.set_cons_succ, List.set_cons_zero]
            refine reg_one 12 1 #[true, true, true, true, true, true, true, true, true, true, true, true, true, false] (by kernel_rfl) rfl (by rfl) (by kernel_rfl) (fun K hK => ?_)
            refine wp_store_blk 27 _ _ (by rfl) p5 (by rfl) (bvs ra) zz 27 (by rfl) (K10.turns (((Turns.refl [] X10).trans D9 (by simp)).trans D11 (by simp)) (by simp)) (by rw [HZL.out, bvs_length, HS.out.2.2.1]) (by rw [size_hash, bvs_length, HS.out.2.2.1]) (bvs_one _) (fun X12 hb12 ht12 => ?_)
            have S12 : Turns [] w2 X12 := ((((S0.trans D3 (by simp)).trans D10 (by simp)).trans D9 (by simp)).trans D11 (by simp)).trans ht12 (by intro q hq; simp at hq; subst hq; exact .inr L10)
            refine hK _ _ (Till.mk' S12 trivial) ?_
            clear hK K
            try simp only [List.setIfInBounds_toArray, List.set_cons_succ, List.set_cons_zero]
            refine reg_one 13 0 #[true, true, true, true, true, true, true, true, true, true, true, true, true, true] (by kernel_rfl) rfl (by rfl) (by kernel_rfl) (fun K hK => ?_)
            refine wp_store_blk 27 _ _ (by rfl) p6 (by rfl) (bvs rb) zz 27 (by rfl) ((K11.turns (Turns.refl [] X11) (by simp)).turns ht12 (by simp; omega)) (by rw [HZL.out, bvs_length, HS.out.2.2.2.1]) (by rw [size_hash, bvs_length, HS.out.2.2.2.1]) (bvs_one _) (fun X13 hb13 ht13 => ?_)
            have S13 : Turns [] w2 X13 := S12.trans ht13 (by intro q hq; simp at hq; subst hq; exact .inr L11)
            refine hK _ _ (Till.mk' S13 trivial) ?_
            clear hK K
            try simp only [List.setIfInBounds_toArray, List.set_cons_succ, List.set_cons_zero]
            refine reg_done (by kernel_rfl) ?_ _
            have hF := Lib.hid (And.intro (hb12.turns ht13 (by simp; omega)) (And.intro hb13 S13))
            clear hb12 hb13 ht12 ht13 S12 S13
            go_wp2_with fail
            go_meet
            exact ⟨p5, p6, rfl, rfl, hF.out.1, hF.out.2.1, hF.out.2.2⟩
          · refine wp_alloc_arr' 27 (by rfl) zz.toArray hz32 ?_
            obtain ⟨X11, hX11⟩ : ∃ q, q = (X10).alloc (.cells zz.toArray 27) := ⟨_, rfl⟩
            obtain ⟨p6, hp11⟩ : ∃ q, q = (X10).heap.size := ⟨_, rfl⟩
            have D11 : Turns [] (X10) X11 := by rw [hX11]; exact (Turns.refl _ _).alloc _
            have K11 : Blk X11 p6 zz 27 := by rw [hX11, hp11]; exact Blk.new _ _ _
            have L11 : w2.heap.size ≤ p6 := by rw [hp11]; exact ((S0.trans D3 (by simp)).trans D10 (by simp)).size
            have hne : p5 ≠ p6 := by have := (K10.turns (Turns.refl [] X10) (by simp)).lt; omega
            rw [← hX11, ← hp11]
            clear hX11 hp11
            refine hK _ _ (Till.mk' (((S0.trans D3 (by simp)).trans D10 (by simp)).trans D11 (by simp)) trivial) ?_
            clear hK K
            try simp only [List.setIfInBounds_toArray, List.set_cons_succ, List.set_cons_zero]
            refine reg_one 9 2 #[true, true, true, true, true, true, true, true, true, true, true, true, false, false] (by kernel_rfl) rfl (by rfl) (by kernel_rfl) (fun K hK => ?_)
            go_simp
            refine (HRB.out X11 (HS.out.2.1.turns (((S0.trans D3 (by simp)).trans D10 (by simp)).trans D11 (by simp)) (Nat.le_refl _) (by simp)) (((S0.trans D3 (by simp)).trans D10 (by simp)).trans D11 (by simp)).size).mono ?_
            rintro e X9 ⟨rfl, D9⟩
            refine hK _ _ (Till.mk' ((((S0.trans D3 (by simp)).trans D10 (by simp)).trans D11 (by simp)).trans D9 (by simp)) trivial) ?_
            clear hK K
            try simp only [List.setIfInBounds_toArray, List.set_cons_succ, List.set_cons_zero]
            refine reg_one 12 1 #[true, true, true, true, true, true, true, true, true, true, true, true, true, false] (by kernel_rfl) rfl (by rfl) (by kernel_rfl) (fun K hK => ?_)
            refine wp_store_blk 27 _ _ (by rfl) p5 (by rfl) (bvs ra) zz 27 (by rfl) (K10.turns (((Turns.refl [] X10).trans D11 (by simp)).trans D9 (by simp)) (by simp)) (by rw [HZL.out, bvs_length, HS.out.2.2.1]) (by rw [size_hash, bvs_length, HS.out.2.2.1]) (bvs_one _) (fun X12 hb12 ht12 => ?_)
            have S12 : Turns [] w2 X12 := ((((S0.trans D3 (by simp)).trans D10 (by simp)).trans D11 (by simp)).trans D9 (by simp)).trans ht12 (by intro q hq; simp at hq; subst hq; exact .inr L10)
            refine hK _ _ (Till.mk' S12 trivial) ?_
            clear hK K
            try simp only [List.setIfInBounds_toArray, List.set_cons_succ, List.set_cons_zero]
            refine reg_one 13 0 #[true, true, true, true, true, true, true, true, true, true, true, true, true, true] (by kernel_rfl) rfl (by rfl) (by kernel_rfl) (fun K hK => ?_)
            refine wp_store_blk 27 _ _ (by rfl) p6 (by rfl) (bvs rb) zz 27 (by rfl) ((K11.turns ((Turns.refl [] X11).trans D9 (by simp)) (by simp)).turns ht12 (by simp; omega)) (by rw [HZL.out, bvs_length, HS.out.2.2.2.1]) (by rw [size_hash, bvs_length, HS.out.2.2.2.1]) (bvs_one _) (fun X13 hb13 ht13 => ?_)
            have S13 : Turns [] w2 X13 := S12.trans ht13 (by intro q hq; simp at hq; subst hq; exact .inr L11)
            refine hK _ _ (Till.mk' S13 trivial) ?_
            clear hK K
            try simp only [List.setIfInBounds_toArray, List.set_cons_succ, List.set_cons_zero]
            refine reg_done (by kernel_rfl) ?_ _
            have hF := Lib.hid (And.intro (hb12.turns ht13 (by simp; omega)) (And.intro hb13 S13))
            clear hb12 hb13 ht12 ht13 S12 S13
            go_wp2_with fail
            go_meet
            exact ⟨p5, p6, rfl, rfl, hF.out.1, hF.out.2.1, hF.out.2.2⟩
        · refine wp_alloc_arr' 27 (by rfl) zz.toArray hz32 ?_
          obtain ⟨X11, hX11⟩ : ∃ q, q = (X3).alloc (.cells zz.toArray 27) := ⟨_, rfl⟩
          obtain ⟨p6, hp11⟩ : ∃ q, q = (X3).heap.size := ⟨_, rfl⟩
          have D11 : Turns [] (X3) X11 := by rw [hX11]; exact (Turns.refl _ _).alloc _
          have K11 : Blk X11 p6 zz 27 := by rw [hX11, hp11]; exact Blk.new _ _ _
          have L11 : w2.heap.size ≤ p6 := by rw [hp11]; exact (S0.trans D3 (by simp)).size
          rw [← hX11, ← hp11]
          clear hX11 hp11
          refine hK _ _ (Till.mk' ((S0.trans D3 (by simp)).trans D11 (by simp)) trivial) ?_
          clear hK K
          try simp only [List.setIfInBounds_toArray, List.set_cons_succ, List.set_cons_zero]
          refine reg_two 9 10 3 #[true, true, true, true, true, true, true, true, true, true, false, true, false, false] #[true, true, true, true, true, true, true, true, true, false, true, true, false, false] (by kernel_rfl) rfl rfl (by rfl) (by rfl) (by kernel_rfl) (by kernel_rfl) (fun K hK => ?_) (fun K hK => ?_)
          · go_simp
            refine (HRB.out X11 (HS.out.2.1.turns ((S0.trans D3 (by simp)).trans D11 (by simp)) (Nat.le_refl _) (by simp)) ((S0.trans D3 (by simp)).trans D11 (by simp)).size).mono ?_
            rintro e X9 ⟨rfl, D9⟩
            refine hK _ _ (Till.mk' (((S0.trans D3 (by simp)).trans D11 (by simp)).trans D9 (by simp)) trivial) ?_
            clear hK K
            try simp only [List.setIfInBounds_toArray, List.set_cons_succ, List.set_cons_zero]
            refine reg_one 10 2 #[true, true, true, true, true, true, true, true, true, true, true, true, false, false] (by kernel_rfl) rfl (by rfl) (by kernel_rfl) (fun K hK => ?_)
            refine wp_alloc_arr' 27 (by rfl) zz.toArray hz32 ?_
            obtain ⟨X10, hX10⟩ : ∃ q, q = (X9).alloc (.cells zz.toArray 27) := ⟨_, rfl⟩
            obtain ⟨p5, hp10⟩ : ∃ q, q = (X9).heap.size := ⟨_, rfl⟩
            have D10 : Turns [] (X9) X10 := by rw [hX10]; exact (Turns.refl _ _).alloc _
            have K10 : Blk X10 p5 zz 27 := by rw [hX10, hp10]; exact Blk.new _ _ _
            have L10 : w2.heap.size ≤ p5 := by rw [hp10]; exact (((S0.trans D3 (by simp)).trans D11 (by simp)).trans D9 (by simp)).size
            have hne : p5 ≠ p6 := by have := (K11.turns ((Turns.refl [] X11).trans D9 (by simp)) (by simp)).lt; omega
            rw [← hX10, ← hp10]
            clear hX10 hp10
            refine hK _ _ (Till.mk' ((((S0.trans D3 (by simp)).trans D11 (by simp)).trans D9 (by simp)).trans D10 (by simp)) trivial) ?_
            clear hK K
            try simp only [List.setIfInBounds_toArray, List.set_cons_succ, List.set_cons_zero]
            refine reg_one 12 1 #[true, true, true, true, true, true, true, true, true, true, true, true, true, false] (by kernel_rfl) rfl (by rfl) (by kernel_rfl) (fun K hK => ?_)
            refine wp_store_blk 27 _ _ (by rfl) p5 (by rfl) (bvs ra) zz 27 (by rfl) (K10.turns (Turns.refl [] X10) (by simp)) (by rw [HZL.out, bvs_length, HS.out.2.2.1]) (by rw [size_hash, bvs_length, HS.out.2.2.1]) (bvs_one _) (fun X12 hb12 ht12 => ?_)
            have S12 : Turns [] w2 X12 := ((((S0.trans D3 (by simp)).trans D11 (by simp)).trans D9 (by simp)).trans D10 (by simp)).trans ht12 (by intro q hq; simp at hq; subst hq; exact .inr L10)
            refine hK _ _ (Till.mk' S12 trivial) ?_
            clear hK K
            try simp only [List.setIfInBounds_toArray, List.set_cons_succ, List.set_cons_zero]
            refine reg_one 13 0 #[true, true, true, true, true, true, true, true, true, true, true, true, true, true] (by kernel_rfl) rfl (by rfl) (by kernel_rfl) (fun K hK => ?_)
            refine wp_store_blk 27 _ _ (by rfl) p6 (by rfl) (bvs rb) zz 27 (by rfl) ((K11.turns (((Turns.refl [] X11).trans D9 (by simp)).trans D10 (by simp)) (by simp)).turns ht12 (by simp; omega)) (by rw [HZL.out, bvs_length, HS.out.2.2.2.1]) (by rw [size_hash, bvs_length, HS.out.2.2.2.1]) (bvs_one _) (fun X13 hb13 ht13 => ?_)
            have S13 : Turns [] w2 X13 := S12.trans ht13 (by intro q hq; simp at hq; subst hq; exact .inr L11)
            refine hK _ _ (Till.mk' S13 trivial) ?_
            clear hK K
            try simp only [List.setIfInBounds_toArray, List.set_cons_succ, List.set_cons_zero]
            refine reg_done (by kernel_rfl) ?_ _
            have hF := Lib.hid (And.intro (hb12.turns ht13 (by simp; omega)) (And.intro hb13 S13))
            clear hb12 hb13 ht12 ht13 S12 S13
            go_wp2_with fail
            go_meet
            exact ⟨p5, p6, rfl, rfl, hF.out.1, hF.out.2.1, hF.out.2.2⟩
          · refine wp_alloc_arr' 27 (by rfl) zz.toArray hz32 ?_
            obtain ⟨X10, hX10⟩ : ∃ q, q = (X11).alloc (.cells zz.toArray 27) := ⟨_, rfl⟩
            obtain ⟨p5, hp10⟩ : ∃ q, q = (X11).heap.size := ⟨_, rfl⟩
            have D10 : Turns [] (X11) X10 := by rw [hX10]; exact (Turns.refl _ _).alloc _
            have K10 : Blk X10 p5 zz 27 := by rw [hX10, hp10]; exact Blk.new _ _ _
            have L10 : w2.heap.size ≤ p5 := by rw [hp10]; exact ((S0.trans D3 (by simp)).trans D11 (by simp)).size
            have hne : p5 ≠ p6 := by have := (K11.turns (Turns.refl [] X11) (by simp)).lt; omega
            rw [← hX10, ← hp10]
            clear hX10 hp10
            refine hK _ _ (Till.mk' (((S0.trans D3 (by simp)).trans D11 (by simp)).trans D10 (by simp)) trivial) ?_
            clear hK K
            try simp only [List.setIfInBounds_toArray, List.set_cons_succ, List.set_cons_zero]
            refine reg_one 9 2 #[true, true, true, true, true, true, true, true, true, true, true, true, false, false] (by kernel_rfl) rfl (by rfl) (by kernel_rfl) (fun K hK => ?_)
            go_simp
            refine (HRB.out X10 (HS.out.2.1.turns (((S0.trans D3 (by simp)).trans D11 (by simp)).trans D10 (by simp)) (Nat.le_refl _) (by simp)) (((S0.trans D3 (by simp)).trans D11 (by simp)).trans D10 (by simp)).size).mono ?_
            rintro e X9 ⟨rfl, D9⟩
            refine hK _ _ (Till.mk' ((((S0.trans D3 (by simp)).trans D11 (by simp)).trans D10 (by simp)).trans D9 (by simp)) trivial) ?_
            clear hK K
            try simp only [List.setIfInBounds_toArray, List.set_cons_succ, List.set_cons_zero]
            refine reg_one 12 1 #[true, true, true, true, true, true, true, true, true, true, true, true, true, false] (by kernel_rfl) rfl (by rfl) (by kernel_rfl) (fun K hK => ?_)
            refine wp_store_blk 27 _ _ (by rfl) p5 (by rfl) (bvs ra) zz 27 (by rfl) (K10.turns ((Turns.refl [] X10).trans D9 (by simp)) (by simp)) (by rw [HZL.out, bvs_length, HS.out.2.2.1]) (by rw [size_hash, bvs_length, HS.out.2.2.1]) (bvs_one _) (fun X12 hb12 ht12 => ?_)
            have S12 : Turns [] w2 X12 := ((((S0.trans D3 (by simp)).trans D11 (by simp)).trans D10 (by simp)).trans D9 (by simp)).trans ht12 (by intro q hq; simp at hq; subst hq; exact .inr L10)
            refine hK _ _ (Till.mk' S12 trivial) ?_
            clear hK K
            try simp only [List.setIfInBounds_toArray, List.set_cons_succ, List.set_cons_zero]
            refine reg_one 13 0 #[true, true, true, true, true, true, true, true, true, true, true, true, true, true] (by kernel_rfl) rfl (by rfl) (by kernel_rfl) (fun K hK => ?_)
            refine wp_store_blk 27 _ _ (by rfl) p6 (by rfl) (bvs rb) zz 27 (by rfl) ((K11.turns (((Turns.refl [] X11).trans D10 (by simp)).trans D9 (by simp)) (by simp)).turns ht12 (by simp; omega)) (by rw [HZL.out, bvs_length, HS.out.2.2.2.1]) (by rw [size_hash, bvs_length, HS.out.2.2.2.1]) (bvs_one _) (fun X13 hb13 ht13 => ?_)
            have S13 : Turns [] w2 X13 := S12.trans ht13 (by intro q hq; simp at hq; subst hq; exact .inr L11)
            refine hK _ _ (Till.mk' S13 trivial) ?_
            clear hK K
            try simp only [List.setIfInBounds_toArray, List.set_cons_succ, List.set_cons_zero]
            refine reg_done (by kernel_rfl) ?_ _
            have hF := Lib.hid (And.intro (hb12.turns ht13 (by simp; omega)) (And.intro hb13 S13))
            clear hb12 hb13 ht12 ht13 S12 S13
            go_wp2_with fail
            go_meet
            exact ⟨p5, p6, rfl, rfl, hF.out.1, hF.out.2.1, hF.out.2.2⟩
      · refine wp_alloc_arr' 27 (by rfl) zz.toArray hz32 ?_
        obtain ⟨X10, hX10⟩ : ∃ q, q = (Y).alloc (.cells zz.toArray 27) := ⟨_, rfl⟩
        obtain ⟨p5, hp10⟩ : ∃ q, q = (Y).heap.size := ⟨_, rfl⟩
        have D10 : Turns [] (Y) X10 := by rw [hX10]; exact (Turns.refl _ _).alloc _
        have K10 : Blk X10 p5 zz 27 := by rw [hX10, hp10]; exact Blk.new _ _ _
        have L10 : w2.heap.size ≤ p5 := by rw [hp10]; exact S0.size
        rw [← hX10, ← hp10]
        clear hX10 hp10
        refine hK _ _ (Till.mk' (S0.trans D10 (by simp)) trivial) ?_
        clear hK K
        try simp only [List.setIfInBounds_toArray, List.set_cons_succ, List.set_cons_zero]
        refine reg_two 3 11 4 #[true, true, true, true, true, true, true, true, true, false, true, false, false, false] #[true, true, true, false, true, true, true, true, true, false, true, true, false, false] (by kernel_rfl) rfl rfl (by rfl) (by rfl) (by kernel_rfl) (by kernel_rfl) (fun K hK => ?_) (fun K hK => ?_)
        · go_simp
          refine (HRA.out X10 (HS.out.1.turns (S0.trans D10 (by simp)) (Nat.le_refl _) (by simp)) (S0.trans D10 (by simp)).size).mono ?_
          rintro e X3 ⟨rfl, D3⟩
          refine hK _ _ (Till.mk' ((S0.trans D10 (by simp)).trans D3 (by simp)) trivial) ?_
          clear hK K
          try simp only [List.setIfInBounds_toArray, List.set_cons_succ, List.set_cons_zero]
          refine reg_two 9 11 3 #[true, true, true, true, true, true, true, true, true, true, true, false, false, false] #[true, true, true, true, true, true, true, true, true, false, true, true, false, false] (by kernel_rfl) rfl rfl (by rfl) (by rfl) (by kernel_rfl) (by kernel_rfl) (fun K hK => ?_) (fun K hK => ?_)
          · go_simp
            refine (HRB.out X3 (HS.out.2.1.turns ((S0.trans D10 (by simp)).trans D3 (by simp)) (Nat.le_refl _) (by simp)) ((S0.trans D10 (by simp)).trans D3 (by simp)).size).mono ?_
            rintro e X9 ⟨rfl, D9⟩
            refine hK _ _ (Till.mk' (((S0.trans D10 (by simp)).trans D3 (by simp)).trans D9 (by simp)) trivial) ?_
            clear hK K
            try simp only [List.setIfInBounds_toArray, List.set_cons_succ, List.set_cons_zero]
            refine reg_one 11 2 #[true, true, true, true, true, true, true, true, true, true, true, true, false, false] (by kernel_rfl) rfl (by rfl) (by kernel_rfl) (fun K hK => ?_)
            refine wp_alloc_arr' 27 (by rfl) zz.toArray hz32 ?_
            obtain ⟨X11, hX11⟩ : ∃ q, q = (X9).alloc (.cells zz.toArray 27) := ⟨_, rfl⟩
            obtain ⟨p6, hp11⟩ : ∃ q, q = (X9).heap.size := ⟨_, rfl⟩
            have D11 : Turns [] (X9) X11 := by rw [hX11]; exact (Turns.refl _ _).alloc _
            have K11 : Blk X11 p6 zz 27 := by rw [hX11, hp11]; exact Blk.new _ _ _
            have L11 : w2.heap.size ≤ p6 := by rw [hp11]; exact (((S0.trans D10 (by simp)).trans D3 (by simp)).trans D9 (by simp)).size
            have hne : p5 ≠ p6 := by have := (K10.turns (((Turns.refl [] X10).trans D3 (by simp)).trans D9 (by simp)) (by simp)).lt; omega
            rw [← hX11, ← hp11]
            clear hX11 hp11
            refine hK _ _ (Till.mk' ((((S0.trans D10 (by simp)).trans D3 (by simp)).trans D9 (by simp)).trans D11 (by simp)) trivial) ?_
            clear hK K
            try simp only [List.setIfInBounds_toArray, List.set_cons_succ, List.set_cons_zero]
            refine reg_one 12 1 #[true, true, true, true, true, true, true, true, true, true, true, true, true, false] (by kernel_rfl) rfl (by rfl) (by kernel_rfl) (fun K hK => ?_)
            refine wp_store_blk 27 _ _ (by rfl) p5 (by rfl) (bvs ra) zz 27 (by rfl) (K10.turns ((((Turns.refl [] X10).trans D3 (by simp)).trans D9 (by simp)).trans D11 (by simp)) (by simp)) (by rw [HZL.out, bvs_length, HS.out.2.2.1]) (by rw [size_hash, bvs_length, HS.out.2.2.1]) (bvs_one _) (fun X12 hb12 ht12 => ?_)
            have S12 : Turns [] w2 X12 := ((((S0.trans D10 (by simp)).trans D3 (by simp)).trans D9 (by simp)).trans D11 (by simp)).trans ht12 (by intro q hq; simp at hq; subst hq; exact .inr L10)
            refine hK _ _ (Till.mk' S12 trivial) ?_
            clear hK K
            try simp only [List.setIfInBounds_toArray, List.set_cons_succ, List.set_cons_zero]
            refine reg_one 13 0 #[true, true, true, true, true, true, true, true, true, true, true, true, true, true] (by kernel_rfl) rfl (by rfl) (by kernel_rfl) (fun K hK => ?_)
            refine wp_store_blk 27 _ _ (by rfl) p6 (by rfl) (bvs rb) zz 27 (by rfl) ((K11.turns (Turns.refl [] X11) (by simp)).turns ht12 (by simp; omega)) (by rw [HZL.out, bvs_length, HS.out.2.2.2.1]) (by rw [size_hash, bvs_length, HS.out.2.2.2.1]) (bvs_one _) (fun X13 hb13 ht13 => ?_)
            have S13 : Turns [] w2 X13 := S12.trans ht13 (by intro q hq; simp at hq; subst hq; exact .inr L11)
            refine hK _ _ (Till.mk' S13 trivial) ?_
            clear hK K
            try simp only [List.setIfInBounds_toArray, List.set_cons_succ, List.set_cons_zero]
            refine reg_done (by kernel_rfl) ?_ _
            have hF := Lib.hid (And.intro (hb12.turns ht13 (by simp; omega)) (And.intro hb13 S13))
            clear hb12 hb13 ht12 ht13 S12 S13
            go_wp2_with fail
            go_meet
            exact ⟨p5, p6, rfl, rfl, hF.out.1, hF.out.2.1, hF.out.2.2⟩
          · refine wp_alloc_arr' 27 (by rfl) zz.toArray hz32 ?_
            obtain ⟨X11, hX11⟩ : ∃ q, q = (X3).alloc (.cells zz.toArray 27) := ⟨_, rfl⟩
            obtain ⟨p6, hp11⟩ : ∃ q, q = (X3).heap.size := ⟨_, rfl⟩
            have D11 : Turns [] (X3) X11 := by rw [hX11]; exact (Turns.refl _ _).alloc _
            have K11 : Blk X11 p6 zz 27 := by rw [hX11, hp11]; exact Blk.new _ _ _
            have L11 : w2.heap.size ≤ p6 := by rw [hp11]; exact ((S0.trans D10 (by simp)).trans D3 (by simp)).size
            have hne : p5 ≠ p6 := by have := (K10.turns ((Turns.refl [] X10).trans D3 (by simp)) (by simp)).lt; omega
            rw [← hX11, ← hp11]
            clear hX11 hp11
            refine hK _ _ (Till.mk' (((S0.trans D10 (by simp)).trans D3 (by simp)).trans D11 (by simp)) trivial) ?_
            clear hK K
            try simp only [List.setIfInBounds_toArray, List.set_cons_succ, List.set_cons_zero]
            refine reg_one 9 2 #[true, true, true, true, true, true, true, true, true, true, true, true, false, false] (by kernel_rfl) rfl (by rfl) (by kernel_rfl) (fun K hK => ?_)
            go_simp
            refine (HRB.out X11 (HS.out.2.1.turns (((S0.trans D10 (by simp)).trans D3 (by simp)).trans D11 (by simp)) (Nat.le_refl _) (by simp)) (((S0.trans D10 (by simp)).trans D3 (by simp)).trans D11 (by simp)).size).mono ?_
            rintro e X9 ⟨rfl, D9⟩
            refine hK _ _ (Till.mk' ((((S0.trans D10 (by simp)).trans D3 (by simp)).trans D11 (by simp)).trans D9 (by simp)) trivial) ?_
            clear hK K
            try simp only [List.setIfInBounds_toArray, List.set_cons_succ, List.set_cons_zero]
            refine reg_one 12 1 #[true, true, true, true, true, true, true, true, true, true, true, true, true, false] (by kernel_rfl) rfl (by rfl) (by kernel_rfl) (fun K hK => ?_)
            refine wp_store_blk 27 _ _ (by rfl) p5 (by rfl) (bvs ra) zz 27 (by rfl) (K10.turns ((((Turns.refl [] X10).trans D3 (by simp)).trans D11 (by simp)).trans D9 (by simp)) (by simp)) (by rw [HZL.out, bvs_length, HS.out.2.2.1]) (by rw [size_hash, bvs_length, HS.out.2.2.1]) (bvs_one _) (fun X12 hb12 ht12 => ?_)
            have S12 : Turns [] w2 X12 := ((((S0.trans D10 (by simp)).trans D3 (by simp)).trans D11 (by simp)).trans D9 (by simp)).trans ht12 (by intro q hq; simp at hq; subst hq; exact .inr L10)
            refine hK _ _ (Till.mk' S12 trivial) ?_
            clear hK K
            try simp only [List.setIfInBounds_toArray, List.set_cons_succ, List.set_cons_zero]
            refine reg_one 13 0 #[true, true, true, true, true, true, true, true, true, true, true, true, true, true] (by kernel_rfl) rfl (by rfl) (by kernel_rfl) (fun K hK => ?_)
            refine wp_store_blk 27 _ _ (by rfl) p6 (by rfl) (bvs rb) zz 27 (by rfl) ((K11.turns ((Turns.refl [] X11).trans D9 (by simp)) (by simp)).turns ht12 (by simp; omega)) (by rw [HZL.out, bvs_length, HS.out.2.2.2.1]) (by rw [size_hash, bvs_length, HS.out.2.2.2.1]) (bvs_one _) (fun X13 hb13 ht13 => ?_)
            have S13 : Turns [] w2 X13 := S12.trans ht13 (by intro q hq; simp at hq; subst hq; exact .inr L11)
            refine hK _ _ (Till.mk' S13 trivial) ?_
            clear hK K
            try simp only [List.setIfInBounds_toArray, List.set_cons_succ, List.set_cons_zero]
            refine reg_done (by kernel_rfl) ?_ _
            have hF := Lib.hid (And.intro (hb12.turns ht13 (by simp; omega)) (And.intro hb13 S13))
            clear hb12 hb13 ht12 ht13 S12 S13
            go_wp2_with fail
            go_meet
            exact ⟨p5, p6, rfl, rfl, hF.out.1, hF.out.2.1, hF.out.2.2⟩
        · refine wp_alloc_arr' 27 (by rfl) zz.toArray hz32 ?_
          obtain ⟨X11, hX11⟩ : ∃ q, q = (X10).alloc (.cells zz.toArray 27) := ⟨_, rfl⟩
          obtain ⟨p6, hp11⟩ : ∃ q, q = (X10).heap.size := ⟨_, rfl⟩
          have D11 : Turns [] (X10) X11 := by rw [hX11]; exact (Turns.refl _ _).alloc _
          have K11 : Blk X11 p6 zz 27 := by rw [hX11, hp11]; exact Blk.new _ _ _
          have L11 : w2.heap.size ≤ p6 := by rw [hp11]; exact (S0.trans D10 (by simp)).size
          have hne : p5 ≠ p6 := by have := (K10.turns (Turns.refl [] X10) (by simp)).lt; omega
          rw [← hX11, ← hp11]
          clear hX11 hp11
          refine hK _ _ (Till.mk' ((S0.trans D10 (by simp)).trans D11 (by simp)) trivial) ?_
          clear hK K
          try simp only [List.setIfInBounds_toArray, List.set_cons_succ, List.set_cons_zero]
          refine reg_one 3 3 #[true, true, true, true, true, true, true, true, true, false, true, true, false, false] (by kernel_rfl) rfl (by rfl) (by kernel_rfl) (fun K hK => ?_)
          go_simp
          refine (HRA.out X11 (HS.out.1.turns ((S0.trans D10 (by simp)).trans D11 (by simp)) (Nat.le_refl _) (by simp)) ((S0.trans D10 (by simp)).trans D11 (by simp)).size).mono ?_
          rintro e X3 ⟨rfl, D3⟩
          refine hK _ _ (Till.mk' (((S0.trans D10 (by simp)).trans D11 (by simp)).trans D3 (by simp)) trivial) ?_
          clear hK K
          try simp only [List.setIfInBounds_toArray, List.set_cons_succ, List.set_cons_zero]
          refine reg_one 9 2 #[true, true, true, true, true, true, true, true, true, true, true, true, false, false] (by kernel_rfl) rfl (by rfl) (by kernel_rfl) (fun K hK => ?_)
          go_simp
          refine (HRB.out X3 (HS.out.2.1.turns (((S0.trans D10 (by simp)).trans D11 (by simp)).trans D3 (by simp)) (Nat.le_refl _) (by simp)) (((S0.trans D10 (by simp)).trans D11 (by simp)).trans D3 (by simp)).size).mono ?_
          rintro e X9 ⟨rfl, D9⟩
          refine hK _ _ (Till.mk' ((((S0.trans D10 (by simp)).trans D11 (by simp)).trans D3 (by simp)).trans D9 (by simp)) trivial) ?_
          clear hK K
          try simp only [List.setIfInBounds_toArray, List.set_cons_succ, List.set_cons_zero]
          refine reg_one 12 1 #[true, true, true, true, true, true, true, true, true, true, true, true, true, false] (by kernel_rfl) rfl (by rfl) (by kernel_rfl) (fun K hK => ?_)
          refine wp_store_blk 27 _ _ (by rfl) p5 (by rfl) (bvs ra) zz 27 (by rfl) (K10.turns ((((Turns.refl [] X10).trans D11 (by simp)).trans D3 (by simp)).trans D9 (by simp)) (by simp)) (by rw [HZL.out, bvs_length, HS.out.2.2.1]) (by rw [size_hash, bvs_length, HS.out.2.2.1]) (bvs_one _) (fun X12 hb12 ht12 => ?_)
          have S12 : Turns [] w2 X12 := ((((S0.trans D10 (by simp)).trans D11 (by simp)).trans D3 (by simp)).trans D9 (by simp)).trans ht12 (by intro q hq; simp at hq; subst hq; exact .inr L10)
          refine hK _ _ (Till.mk' S12 trivial) ?_
          clear hK K
          try simp only [List.setIfInBounds_toArray, List.set_cons_succ, List.set_cons_zero]
          refine reg_one 13 0 #[true, true, true, true, true, true, true, true, true, true, true, true, true, true] (by kernel_rfl) rfl (by rfl) (by kernel_rfl) (fun K hK => ?_)
          refine wp_store_blk 27 _ _ (by rfl) p6 (by rfl) (bvs rb) zz 27 (by rfl) ((K11.turns (((Turns.refl [] X11).trans D3 (by simp)).trans D9 (by simp)) (by simp)).turns ht12 (by simp; omega)) (by rw [HZL.out, bvs_length, HS.out.2.2.2.1]) (by rw [size_hash, bvs_length, HS.out.2.2.2.1]) (bvs_one _) (fun X13 hb13 ht13 => ?_)
          have S13 : Turns [] w2 X13 := S12.trans ht13 (by intro q hq; simp at hq; subst hq; exact .inr L11)
          refine hK _ _ (Till.mk' S13 trivial) ?_
          clear hK K
          try simp only [List.setIfInBounds_toArray, List.set_cons_succ, List.set_cons_zero]
          refine reg_done (by kernel_rfl) ?_ _
          have hF := Lib.hid (And.intro (hb12.turns ht13 (by simp; omega)) (And.intro hb13 S13))
          clear hb12 hb13 ht12 ht13 S12 S13
          go_wp2_with fail
          go_meet
          exact ⟨p5, p6, rfl, rfl, hF.out.1, hF.out.2.1, hF.out.2.2⟩
      · refine wp_alloc_arr' 27 (by rfl) zz.toArray hz32 ?_
        obtain ⟨X11, hX11⟩ : ∃ q, q = (Y).alloc (.cells zz.toArray 27) := ⟨_, rfl⟩
        obtain ⟨p6, hp11⟩ : ∃ q, q = (Y).heap.size := ⟨_, rfl⟩
        have D11 : Turns [] (Y) X11 := by rw [hX11]; exact (Turns.refl _ _).alloc _
        have K11 : Blk X11 p6 zz 27 := by rw [hX11, hp11]; exact Blk.new _ _ _
        have L11 : w2.heap.size ≤ p6 := by rw [hp11]; exact S0.size
        rw [← hX11, ← hp11]
        clear hX11 hp11
        refine hK _ _ (Till.mk' (S0.trans D11 (by simp)) trivial) ?_
        clear hK K
        try simp only [List.setIfInBounds_toArray, List.set_cons_succ, List.set_cons_zero]
        refine reg_two 3 10 4 #[true, true, true, true, true, true, true, true, true, false, false, true, false, false] #[true, true, true, false, true, true, true, true, true, false, true, true, false, false] (by kernel_rfl) rfl rfl (by rfl) (by rfl) (by kernel_rfl) (by kernel_rfl) (fun K hK => ?_) (fun K hK => ?_)
        · go_simp
          refine (HRA.out X11 (HS.out.1.turns (S0.trans D11 (by simp)) (Nat.le_refl _) (by simp)) (S0.trans D11 (by simp)).size).mono ?_
          rintro e X3 ⟨rfl, D3⟩
          refine hK _ _ (Till.mk' ((S0.trans D11 (by simp)).trans D3 (by simp)) trivial) ?_
          clear hK K
          try simp only [List.setIfInBounds_toArray, List.set_cons_succ, List.set_cons_zero]
          refine reg_two 9 10 3 #[true, true, true, true, true, true, true, true, true, true, false, true, false, false] #[true, true, true, true, true, true, true, true, true, false, true, true, false, false] (by kernel_rfl) rfl rfl (by rfl) (by rfl) (by kernel_rfl) (by kernel_rfl) (fun K hK => ?_) (fun K hK => ?_)
          · go_simp
            refine (HRB.out X3 (HS.out.2.1.turns ((S0.trans D11 (by simp)).trans D3 (by simp)) (Nat.le_refl _) (by simp)) ((S0.trans D11 (by simp)).trans D3 (by simp)).size).mono ?_
            rintro e X9 ⟨rfl, D9⟩
            refine hK _ _ (Till.mk' (((S0.trans D11 (by simp)).trans D3 (by simp)).trans D9 (by simp)) trivial) ?_
            clear hK K
            try simp only [List.setIfInBounds_toArray, List.set_cons_succ, List.set_cons_zero]
            refine reg_one 10 2 #[true, true, true, true, true, true, true, true, true, true, true, true, false, false] (by kernel_rfl) rfl (by rfl) (by kernel_rfl) (fun K hK => ?_)
            refine wp_alloc_arr' 27 (by rfl) zz.toArray hz32 ?_
            obtain ⟨X10, hX10⟩ : ∃ q, q = (X9).alloc (.cells zz.toArray 27) := ⟨_, rfl⟩
            obtain ⟨p5, hp10⟩ : ∃ q, q = (X9).heap.size := ⟨_, rfl⟩
            have D10 : Turns [] (X9) X10 := by rw [hX10]; exact (Turns.refl _ _).alloc _
            have K10 : Blk X10 p5 zz 27 := by rw [hX10, hp10]; exact Blk.new _ _ _
            have L10 : w2.heap.size ≤ p5 := by rw [hp10]; exact (((S0.trans D11 (by simp)).trans D3 (by simp)).trans D9 (by simp)).size
            have hne : p5 ≠ p6 := by have := (K11.turns (((Turns.refl [] X11).trans D3 (by simp)).trans D9 (by simp)) (by simp)).lt; omega
            rw [← hX10, ← hp10]
            clear hX10 hp10
            refine hK _ _ (Till.mk' ((((S0.trans D11 (by simp)).trans D3 (by simp)).trans D9 (by simp)).trans D10 (by simp)) trivial) ?_
            clear hK K
            try simp only [List.setIfInBounds_toArray, List.set_cons_succ, List.set_cons_zero]
            refine reg_one 12 1 #[true, true, true, true, true, true, true, true, true, true, true, true, true, false] (by kernel_rfl) rfl (by rfl) (by kernel_rfl) (fun K hK => ?_)
            refine wp_store_blk 27 _ _ (by rfl) p5 (by rfl) (bvs ra) zz 27 (by rfl) (K10.turns (Turns.refl [] X10) (by simp)) (by rw [HZL.out, bvs_length, HS.out.2.2.1]) (by rw [size_hash, bvs_length, HS.out.2.2.1]) (bvs_one _) (fun X12 hb12 ht12 => ?_)
            have S12 : Turns [] w2 X12 := ((((S0.trans D11 (by simp)).trans D3 (by simp)).trans D9 (by simp)).trans D10 (by simp)).trans ht12 (by intro q hq; simp at hq; subst hq; exact .inr L10)
            refine hK _ _ (Till.mk' S12 trivial) ?_
            clear hK K
            try simp only [List.setIfInBounds_toArray, List.set_cons_succ, List.set_cons_zero]
            refine reg_one 13 0 #[true, true, true, true, true, true, true, true, true, true, true, true, true, true] (by kernel_rfl) rfl (by rfl) (by kernel_rfl) (fun K hK => ?_)
            refine wp_store_blk 27 _ _ (by rfl) p6 (by rfl) (bvs rb) zz 27 (by rfl) ((K11.turns ((((Turns.refl [] X11).trans D3 (by simp)).trans D9 (by simp)).trans D10 (by simp)) (by simp)).turns ht12 (by simp; omega)) (by rw [HZL.out, bvs_length, HS.out.2.2.2.1]) (by rw [size_hash, bvs_length, HS.out.2.2.2.1]) (bvs_one _) (fun X13 hb13 ht13 => ?_)
            have S13 : Turns [] w2 X13 := S12.trans ht13 (by intro q hq; simp at hq; subst hq; exact .inr L11)
            refine hK _ _ (Till.mk' S13 trivial) ?_
            clear hK K
            try simp only [List.setIfInBounds_toArray, List.set_cons_succ, List.set_cons_zero]
            refine reg_done (by kernel_rfl) ?_ _
            have hF := Lib.hid (And.intro (hb12.turns ht13 (by simp; omega)) (And.intro hb13 S13))
            clear hb12 hb13 ht12 ht13 S12 S13
            go_wp2_with fail
            go_meet
            exact ⟨p5, p6, rfl, rfl, hF.out.1, hF.out.2.1, hF.out.2.2⟩
          · refine wp_alloc_arr' 27 (by rfl) zz.toArray hz32 ?_
            obtain ⟨X10, hX10⟩ : ∃ q, q = (X3).alloc (.cells zz.toArray 27) := ⟨_, rfl⟩
            obtain ⟨p5, hp10⟩ : ∃ q, q = (X3).heap.size := ⟨_, rfl⟩
            have D10 : Turns [] (X3) X10 := by rw [hX10]; exact (Turns.refl _ _).alloc _
            have K10 : Blk X10 p5 zz 27 := by rw [hX10, hp10]; exact Blk.new _ _ _
            have L10 : w2.heap.size ≤ p5 := by rw [hp10]; exact ((S0.trans D11 (by simp)).trans D3 (by simp)).size
            have hne : p5 ≠ p6 := by have := (K11.turns ((Turns.refl [] X11).trans D3 (by simp)) (by simp)).lt; omega
            rw [← hX10, ← hp10]
            clear hX10 hp10
            refine hK _ _ (Till.mk' (((S0.trans D11 (by simp)).trans D3 (by simp)).trans D10 (by simp)) trivial) ?_
            clear hK K
            try simp only [List.setIfInBounds_toArray, List.set_cons_succ, List.set_cons_zero]
            refine reg_one 9 2 #[true, true, true, true, true, true, true, true, true, true, true, true, false, false] (by kernel_rfl) rfl (by rfl) (by kernel_rfl) (fun K hK => ?_)
            go_simp
            refine (HRB.out X10 (HS.out.2.1.turns (((S0.trans D11 (by simp)).trans D3 (by simp)).trans D10 (by simp)) (Nat.le_refl _) (by simp)) (((S0.trans D11 (by simp)).trans D3 (by simp)).trans D10 (by simp)).size).mono ?_
            rintro e X9 ⟨rfl, D9⟩
            refine hK _ _ (Till.mk' ((((S0.trans D11 (by simp)).trans D3 (by simp)).trans D10 (by simp)).trans D9 (by simp)) trivial) ?_
            clear hK K
            try simp only [List.setIfInBounds_toArray, List.set_cons_succ, List.set_cons_zero]
            refine reg_one 12 1 #[true, true, true, true, true, true, true, true, true, true, true, true, true, false] (by kernel_rfl) rfl (by rfl) (by kernel_rfl) (fun K hK => ?_)
            refine wp_store_blk 27 _ _ (by rfl) p5 (by rfl) (bvs ra) zz 27 (by rfl) (K10.turns ((Turns.refl [] X10).trans D9 (by simp)) (by simp)) (by rw [HZL.out, bvs_length, HS.out.2.2.1]) (by rw [size_hash, bvs_length, HS.out.2.2.1]) (bvs_one _) (fun X12 hb12 ht12 => ?_)
            have S12 : Turns [] w2 X12 := ((((S0.trans D11 (by simp)).trans D3 (by simp)).trans D10 (by simp)).trans D9 (by simp)).trans ht12 (by intro q hq; simp at hq; subst hq; exact .inr L10)
            refine hK _ _ (Till.mk' S12 trivial) ?_
            clear hK K
            try simp only [List.setIfInBounds_toArray, List.set_cons_succ, List.set_cons_zero]
            refine reg_one 13 0 #[true, true, true, true, true, true, true, true, true, true, true, true, true, true] (by kernel_rfl) rfl (by rfl) (by kernel_rfl) (fun K hK => ?_)
            refine wp_store_blk 27 _ _ (by rfl) p6 (by rfl) (bvs rb) zz 27 (by rfl) ((K11.turns ((((Turns.refl [] X11).trans D3 (by simp)).trans D10 (by simp)).trans D9 (by simp)) (by simp)).turns ht12 (by simp; omega)) (by rw [HZL.out, bvs_length, HS.out.2.2.2.1]) (by rw [size_hash, bvs_length, HS.out.2.2.2.1]) (bvs_one _) (fun X13 hb13 ht13 => ?_)
            have S13 : Turns [] w2 X13 := S12.trans ht13 (by intro q hq; simp at hq; subst hq; exact .inr L11)
            refine hK _ _ (Till.mk' S13 trivial) ?_
            clear hK K
            try simp only [List.setIfInBounds_toArray, List.set_cons_succ, List.set_cons_zero]
            refine reg_done (by kernel_rfl) ?_ _
            have hF := Lib.hid (And.intro (hb12.turns ht13 (by simp; omega)) (And.intro hb13 S13))
            clear hb12 hb13 ht12 ht13 S12 S13
            go_wp2_with fail
            go_meet
            exact ⟨p5, p6, rfl, rfl, hF.out.1, hF.out.2.1, hF.out.2.2⟩
        · refine wp_alloc_arr' 27 (by rfl) zz.toArray hz32 ?_
          obtain ⟨X10, hX10⟩ : ∃ q, q = (X11).alloc (.cells zz.toArray 27) := ⟨_, rfl⟩
          obtain ⟨p5, hp10⟩ : ∃ q, q = (X11).heap.size := ⟨_, rfl⟩
          have D10 : Turns [] (X11) X10 := by rw [hX10]; exact (Turns.refl _ _).alloc _
          have K10 : Blk X10 p5 zz 27 := by rw [hX10, hp10]; exact Blk.new _ _ _
          have L10 : w2.heap.size ≤ p5 := by rw [hp10]; exact (S0.trans D11 (by simp)).size
          have hne : p5 ≠ p6 := by have := (K11.turns (Turns.refl [] X11) (by simp)).lt; omega
          rw [← hX10, ← hp10]
          clear hX10 hp10
          refine hK _ _ (Till.mk' ((S0.trans D11 (by simp)).trans D10 (by simp)) trivial) ?_
          clear hK K
          try simp only [List.setIfInBounds_toArray, List.set_cons_succ, List.set_cons_zero]
          refine reg_one 3 3 #[true, true, true, true, true, true, true, true, true, false, true, true, false, false] (by kernel_rfl) rfl (by rfl) (by kernel_rfl) (fun K hK => ?_)
          go_simp
          refine (HRA.out X10 (HS.out.1.turns ((S0.trans D11 (by simp)).trans D10 (by simp)) (Nat.le_refl _) (by simp)) ((S0.trans D11 (by simp)).trans D10 (by simp)).size).mono ?_
          rintro e X3 ⟨rfl, D3⟩
          refine hK _ _ (Till.mk' (((S0.trans D11 (by simp)).trans D10 (by simp)).trans D3 (by simp)) trivial) ?_
          clear hK K
          try simp only [List.setIfInBounds_toArray, List.set_cons_succ, List.set_cons_zero]
          refine reg_one 9 2 #[true, true, true, true, true, true, true, true, true, true, true, true, false, false] (by kernel_rfl) rfl (by rfl) (by kernel_rfl) (fun K hK => ?_)
          go_simp
          refine (HRB.out X3 (HS.out.2.1.turns (((S0.trans D11 (by simp)).trans D10 (by simp)).trans D3 (by simp)) (Nat.le_refl _) (by simp)) (((S0.trans D11 (by simp)).trans D10 (by simp)).trans D3 (by simp)).size).mono ?_
          rintro e X9 ⟨rfl, D9⟩
          refine hK _ _ (Till.mk' ((((S0.trans D11 (by simp)).trans D10 (by simp)).trans D3 (by simp)).trans D9 (by simp)) trivial) ?_
          clear hK K
          try simp only [List.setIfInBounds_toArray, List.set_cons_succ, List.set_cons_zero]
          refine reg_one 12 1 #[true, true, true, true, true, true, true, true, true, true, true, true, true, false] (by kernel_rfl) rfl (by rfl) (by kernel_rfl) (fun K hK => ?_)
          refine wp_store_blk 27 _ _ (by rfl) p5 (by rfl) (bvs ra) zz 27 (by rfl) (K10.turns (((Turns.refl [] X10).trans D3 (by simp)).trans D9 (by simp)) (by simp)) (by rw [HZL.out, bvs_length, HS.out.2.2.1]) (by rw [size_hash, bvs_length, HS.out.2.2.1]) (bvs_one _) (fun X12 hb12 ht12 => ?_)
          have S12 : Turns [] w2 X12 := ((((S0.trans D11 (by simp)).trans D10 (by simp)).trans D3 (by simp)).trans D9 (by simp)).trans ht12 (by intro q hq; simp at hq; subst hq; exact .inr L10)
          refine hK _ _ (Till.mk' S12 trivial) ?_
          clear hK K
          try simp only [List.setIfInBounds_toArray, List.set_cons_succ, List.set_cons_zero]
          refine reg_one 13 0 #[true, true, true, true, true, true, true, true, true, true, true, true, true, true] (by kernel_rfl) rfl (by rfl) (by kernel_rfl) (fun K hK => ?_)
          refine wp_store_blk 27 _ _ (by rfl) p6 (by rfl) (bvs rb) zz 27 (by rfl) ((K11.turns ((((Turns.refl [] X11).trans D10 (by simp)).trans D3 (by simp)).trans D9 (by simp)) (by simp)).turns ht12 (by simp; omega)) (by rw [HZL.out, bvs_length, HS.out.2.2.2.1]) (by rw [size_hash, bvs_length, HS.out.2.2.2.1]) (bvs_one _) (fun X13 hb13 ht13 => ?_)
          have S13 : Turns [] w2 X13 := S12.trans ht13 (by intro q hq; simp at hq; subst hq; exact .inr L11)
          refine hK _ _ (Till.mk' S13 trivial) ?_
          clear hK K
          try simp only [List.setIfInBounds_toArray, List.set_cons_succ, List.set_cons_zero]
          refine reg_done (by kernel_rfl) ?_ _
          have hF := Lib.hid (And.intro (hb12.turns ht13 (by simp; omega)) (And.intro hb13 S13))
          clear hb12 hb13 ht12 ht13 S12 S13
          go_wp2_with fail
          go_meet
          exact ⟨p5, p6, rfl, rfl, hF.out.1, hF.out.2.1, hF.out.2.2⟩
    case rest =>
      obtain ⟨p5, p6, rfl, rfl, b5, b6, tc⟩ := hcut
      have hra := HS.out.2.2.1
      have hrb := HS.out.2.2.2.1
      have hl3 := M3.out.hs.turns tc (Nat.le_refl _) (by simp)
      have hto := hl3.to (k := 2 * n) (by omega)
      have hkl : 2 * n < (hashesL (2 * n + 1)).length := by rw [hashesL_len]; omega
      obtain ⟨b0, off, rfl, _, rx⟩ := hl3.at_ (i := 2 * n) hkl
      have hx32 := hl3.all _ (List.getElem_mem hkl)
      have hlast : (hashesL (2 * n + 1)).drop (2 * n) = [(hashesL (2 * n + 1))[2 * n]] := by
        rw [List.drop_eq_getElem_cons hkl, List.drop_eq_nil_of_le (by rw [hashesL_len]; omega)]
      obtain ⟨x, hx⟩ : ∃ x, x = (hashesL (2 * n + 1))[2 * n] := ⟨_, rfl⟩
      rw [← hx] at rx hx32 hlast
      have hlT : ((hashesL (2 * n + 1)).take (2 * n)).length = 2 * n := by rw [List.length_take, hashesL_len]; omega
      have m1 : mroot ((hashesL (2 * n + 1)).take (2 * n)) = twoH ra rb := by
        have hp := HPn.out
        rw [mroot_two _ (by rw [hlT]; have := hp.1; omega), hlT, hp.2.2.1, List.take_take, List.drop_take, Nat.min_eq_left (by omega), show 2 * n - n = n by omega, ← HS.out.2.2.2.2.1, ← HS.out.2.2.2.2.2]
      have m2 : mroot (hashesL (2 * n + 1)) = twoH (twoH ra rb) x := by
        have hp := HPn.out
        rw [mroot_two _ (by rw [hashesL_len]; have := hp.1; omega), hashesL_len, hp.2.2.2, hlast, mroot_one, m1]
      have eq1 := eqlS (twoH ra rb) (twoH_len _ _)
      have eq2 := eqlS (twoH (twoH ra rb) x) (twoH_len _ _)
      have R1 := Root_any (2 * n) _ (2 * n) hlT (Nat.le_refl _) (by have := HPn.out.2.1; omega) (some ⟨b0, off, none⟩) c3 w2.heap.size
      have R2 := Root_any (2 * n + 1) _ (2 * n + 1) (hashesL_len _) (Nat.le_refl _) (by have := HPn.out.2.1; omega) (some ⟨b0, off, none⟩) c3 w2.heap.size
      rw [m1] at R1
      rw [m2] at R2
      have HR1 := Lib.hid R1
      have HR2 := Lib.hid R2
      have r5 := b5.range 0 32
      have r6 := b6.range 0 32
      rw [List.drop_zero, List.take_of_length_le (by rw [bvs_length, hra]; omega)] at r5
      rw [List.drop_zero, List.take_of_length_le (by rw [bvs_length, hrb]; omega)] at r6
      have hsa := Lib.hid (show (Try.prog.info? 27).map (·.size) = some (bvs ra).length by rw [size_hash, bvs_length, hra])
      have hsb := Lib.hid (show (Try.prog.info? 27).map (·.size) = some (bvs rb).length by rw [size_hash, bvs_length, hrb])
      have hsx := Lib.hid (show (Try.prog.info? 27).map (·.size) = some (bvs x).length by rw [size_hash, bvs_length, hx32])
      have HW := Lib.hid (And.intro r5 (And.intro r6 (And.intro rx (And.intro hto (And.intro hl3 (And.intro tc (And.intro hra (And.intro hrb hx32))))))))
      have HF := Lib.hid (HT1.out.trans (M3.out.turns.trans tc (by simp)) (by simp))
      have hT : Turns [] wc wc.drew := (Turns.refl _ _).drew
      have q7 : 2 * (n : Int) < ((2 * n + 1 : Nat) : Int) := by omega
      have q8 : 2 * (n : Int) < 2 * (n : Int) + 1 := by omega
      have q9 : 0 ≤ 2 * (n : Int) := by omega
      clear b5 b6 tc hra hrb hl3 hto hkl rx hx32 hlast hx hlT m1 m2 R1 R2 r5 r6 HRA HRB S0 HY
      go_upto_region 6 with fail
      refine reg_begin (fun W => Turns [] wc W) (fun _ => True) 24 24 #[false, false, false, false, false, false, false, false, false, false, false, false, false, false, false, false, false, false, false, false, false, false, false, false] (by kernel_rfl) (by kernel_rfl) (by kernel_rfl) ?_
      refine reg_take 0 27 23 #[true, false, false, false, false, false, false, false, false, false, false, false, false, false, false, false, false, false, false, false, false, false, false, false] (by rfl) (v := ?_) rfl rfl (by kernel_rfl) (by kernel_rfl) (by kernel_rfl) (by kernel_rfl) (fun _ _ _ h => h) (by rfl) ?_ (Till.mk' hT trivial) ?_
      rotate_left
      · intro W hS; go_simp; all_goals with_reducible rfl
      try simp only [List.setIfInBounds_toArray, List.set_cons_succ, List.set_cons_zero]
      refine reg_take 1 28 22 #[true, true, false, false, false, false, false, false, false, false, false, false, false, false, false, false, false, false, false, false, false, false, false, false] (by rfl) (v := ?_) rfl rfl (by kernel_rfl) (by kernel_rfl) (by kernel_rfl) (by kernel_rfl) (fun _ _ _ h => h) (by rfl) ?_ (Till.mk' hT trivial) ?_
      rotate_left
      · intro W hS; go_simp; all_goals with_reducible rfl
      try simp only [List.setIfInBounds_toArray, List.set_cons_succ, List.set_cons_zero]
      refine reg_take 2 29 21 #[true, true, true, false, false, false, false, false, false, false, false, false, false, false, false, false, false, false, false, false, false, false, false, false] (by rfl) (v := ?_) rfl rfl (by kernel_rfl) (by kernel_rfl) (by kernel_rfl) (by kernel_rfl) (fun _ _ _ h => h) (by rfl) ?_ (Till.mk' hT trivial) ?_
      rotate_left
      · intro W hS; go_simp; all_goals with_reducible rfl
      try simp only [List.setIfInBounds_toArray, List.set_cons_succ, List.set_cons_zero]
      refine reg_take 3 30 20 #[true, true, true, true, false, false, false, false, false, false, false, false, false, false, false, false, false, false, false, false, false, false, false, false] (by rfl) (v := ?_) rfl rfl (by kernel_rfl) (by kernel_rfl) (by kernel_rfl) (by kernel_rfl) (fun _ _ _ h => h) (by rfl) ?_ (Till.mk' hT trivial) ?_
      rotate_left
      · intro W hS; go_simp; all_goals with_reducible rfl
      try simp only [List.setIfInBounds_toArray, List.set_cons_succ, List.set_cons_zero]
      refine reg_take_y 5 32 19 #[true, true, true, true, false, true, false, false, false, false, false, false, false, false, false, false, false, false, false, false, false, false, false, false] (by rfl) rfl rfl (by kernel_rfl) (by kernel_rfl) (by kernel_rfl) (by kernel_rfl) (fun _ _ _ h => h) (yieldsIf_load_mid (by rfl) _ _ rfl p5 0 (by rfl) (bvs ra) _ (fun W hS => rangeT hS HW.out.1 (by simp)) Try.underlying27 rfl hsa.out) (Till.mk' hT trivial) ?_
      try simp only [List.setIfInBounds_toArray, List.set_cons_succ, List.set_cons_zero]
      refine reg_take_y 6 33 18 #[true, true, true, true, false, true, true, false, false, false, false, false, false, false, false, false, false, false, false, false, false, false, false, false] (by rfl) rfl rfl (by kernel_rfl) (by kernel_rfl) (by kernel_rfl) (by kernel_rfl) (fun _ _ _ h => h) (yieldsIf_load_mid (by rfl) _ _ rfl p6 0 (by rfl) (bvs rb) _ (fun W hS => rangeT hS HW.out.2.1 (by simp)) Try.underlying27 rfl hsb.out) (Till.mk' hT trivial) ?_
      try simp only [List.setIfInBounds_toArray, List.set_cons_succ, List.set_cons_zero]
      refine reg_one 4 17 #[true, true, true, true, true, true, true, false, false, false, false, false, false, false, false, false, false, false, false, false, false, false, false, false] (by kernel_rfl) rfl (by rfl) (by kernel_rfl) (fun K hK => ?_)
      go_simp
      refine (HR1.out wc.drew (HW.out.2.2.2.1.turns hT HW.out.2.2.2.2.2.1.size (by simp)) (Nat.le_trans HW.out.2.2.2.2.2.1.size hT.size)).mono ?_
      rintro e V4 ⟨rfl, t4⟩
      have E4 : Turns [] wc V4 := hT.trans t4 (by simp)
      clear t4
      refine hK _ _ (Till.mk' E4 trivial) ?_
      clear hK K
      try simp only [List.setIfInBounds_toArray, List.set_cons_succ, List.set_cons_zero]
      refine reg_one 7 16 #[true, true, true, true, true, true, true, true, false, false, false, false, false, false, false, false, false, false, false, false, false, false, false, false] (by kernel_rfl) rfl (by rfl) (by kernel_rfl) (fun K hK => ?_)
      go_simp
      refine (Two_any ra rb HW.out.2.2.2.2.2.2.1 HW.out.2.2.2.2.2.2.2.1 V4).mono ?_
      rintro e V7 ⟨rfl, t7⟩
      have E7 : Turns [] wc V7 := E4.trans t7 (by simp)
      clear t7
      refine hK _ _ (Till.mk' E7 trivial) ?_
      clear hK K
      try simp only [List.setIfInBounds_toArray, List.set_cons_succ, List.set_cons_zero]
      refine reg_take 8 35 15 #[true, true, true, true, true, true, true, true, true, false, false, false, false, false, false, false, false, false, false, false, false, false, false, false] (by rfl) (v := ?_) rfl rfl (by kernel_rfl) (by kernel_rfl) (by kernel_rfl) (by kernel_rfl) (fun _ _ _ h => h) (by rfl) ?_ (Till.mk' E7 trivial) ?_
      rotate_left
      · intro W hS; go_simp; all_goals with_reducible rfl
      try simp only [List.setIfInBounds_toArray, List.set_cons_succ, List.set_cons_zero]
      refine reg_take 9 36 14 #[true, true, true, true, true, true, true, true, true, true, false, false, false, false, false, false, false, false, false, false, false, false, false, false] (by rfl) (v := ?_) rfl rfl (by kernel_rfl) (by kernel_rfl) (by kernel_rfl) (by kernel_rfl) (fun _ _ _ h => h) (by rfl) ?_ (Till.mk' E7 trivial) ?_
      rotate_left
      · intro W hS; go_simp; all_goals with_reducible rfl
      try simp only [List.setIfInBounds_toArray, List.set_cons_succ, List.set_cons_zero]
      refine reg_take 10 37 13 #[true, true, true, true, true, true, true, true, true, true, true, false, false, false, false, false, false, false, false, false, false, false, false, false] (by rfl) (v := ?_) rfl rfl (by kernel_rfl) (by kernel_rfl) (by kernel_rfl) (by kernel_rfl) (fun _ _ _ h => h) (by rfl) ?_ (Till.mk' E7 trivial) ?_
      rotate_left
      · intro W hS; go_simp; all_goals with_reducible rfl
      try simp only [List.setIfInBounds_toArray, List.set_cons_succ, List.set_cons_zero]
      refine reg_take_y 12 39 12 #[true, true, true, true, true, true, true, true, true, true, true, false, true, false, false, false, false, false, false, false, false, false, false, false] (by rfl) rfl rfl (by kernel_rfl) (by kernel_rfl) (by kernel_rfl) (by kernel_rfl) (fun _ _ _ h => h) (yieldsIf_load_mid (by rfl) _ _ rfl p5 0 (by rfl) (bvs ra) _ (fun W hS => rangeT hS HW.out.1 (by simp)) Try.underlying27 rfl hsa.out) (Till.mk' E7 trivial) ?_
      try simp only [List.setIfInBounds_toArray, List.set_cons_succ, List.set_cons_zero]
      refine reg_take_y 13 40 11 #[true, true, true, true, true, true, true, true, true, true, true, false, true, true, false, false, false, false, false, false, false, false, false, false] (by rfl) rfl rfl (by kernel_rfl) (by kernel_rfl) (by kernel_rfl) (by kernel_rfl) (fun _ _ _ h => h) (yieldsIf_load_mid (by rfl) _ _ rfl p6 0 (by rfl) (bvs rb) _ (fun W hS => rangeT hS HW.out.2.1 (by simp)) Try.underlying27 rfl hsb.out) (Till.mk' E7 trivial) ?_
      try simp only [List.setIfInBounds_toArray, List.set_cons_succ, List.set_cons_zero]
      refine reg_take 15 42 10 #[true, true, true, true, true, true, true, true, true, true, true, false, true, true, false, true, false, false, false, false, false, false, false, false] (by rfl) (v := ?_) rfl rfl (by kernel_rfl) (by kernel_rfl) (by kernel_rfl) (by kernel_rfl) (fun _ _ _ h => h) (by rfl) ?_ (Till.mk' E7 trivial) ?_
      rotate_left
      · intro W hS; go_simp; all_goals with_reducible rfl
      try simp only [List.setIfInBounds_toArray, List.set_cons_succ, List.set_cons_zero]
      refine reg_take 16 43 9 #[true, true, true, true, true, true, true, true, true, true, true, false, true, true, false, true, true, false, false, false, false, false, false, false] (by rfl) (v := ?_) rfl rfl (by kernel_rfl) (by kernel_rfl) (by kernel_rfl) (by kernel_rfl) (fun _ _ _ h => h) (by rfl) ?_ (Till.mk' E7 trivial) ?_
      rotate_left
      · intro W hS; go_simp; all_goals with_reducible rfl
      try simp only [List.setIfInBounds_toArray, List.set_cons_succ, List.set_cons_zero]
      refine reg_take 17 44 8 #[true, true, true, true, true, true, true, true, true, true, true, false, true, true, false, true, true, true, false, false, false, false, false, false] (by rfl) (v := ?_) rfl rfl (by kernel_rfl) (by kernel_rfl) (by kernel_rfl) (by kernel_rfl) (fun _ _ _ h => h) (by rfl) ?_ (Till.mk' E7 trivial) ?_
      rotate_left
      · intro W hS; go_simp; all_goals with_reducible rfl
      try simp only [List.setIfInBounds_toArray, List.set_cons_succ, List.set_cons_zero]
      refine reg_take 18 45 7 #[true, true, true, true, true, true, true, true, true, true, true, false, true, true, false, true, true, true, true, false, false, false, false, false] (by rfl) (v := ?_) rfl rfl (by kernel_rfl) (by kernel_rfl) (by kernel_rfl) (by kernel_rfl) (fun _ _ _ h => h) (by rfl) ?_ (Till.mk' E7 trivial) ?_
      rotate_left
      · intro W hS; go_simp; all_goals with_reducible rfl
      try simp only [List.setIfInBounds_toArray, List.set_cons_succ, List.set_cons_zero]
      refine reg_take_y 19 46 6 #[true, true, true, true, true, true, true, true, true, true, true, false, true, true, false, true, true, true, true, true, false, false, false, false] (by rfl) rfl rfl (by kernel_rfl) (by kernel_rfl) (by kernel_rfl) (by kernel_rfl) (fun _ _ _ h => h) (yieldsIf_load_mid (by rfl) _ _ rfl b0 (off + 2 * n * 32) (by rfl) (bvs x) _ (fun W hS => rangeT hS HW.out.2.2.1 (by simp)) Try.underlying27 rfl hsx.out) (Till.mk' E7 trivial) ?_
      try simp only [List.setIfInBounds_toArray, List.set_cons_succ, List.set_cons_zero]
      refine reg_one 11 5 #[true, true, true, true, true, true, true, true, true, true, true, true, true, true, false, true, true, true, true, true, false, false, false, false] (by kernel_rfl) rfl (by rfl) (by kernel_rfl) (fun K hK => ?_)
      go_simp
      refine (HR2.out V7 (HW.out.2.2.2.2.1.turns E7 HW.out.2.2.2.2.2.1.size (by simp)) (Nat.le_trans HW.out.2.2.2.2.2.1.size E7.size)).mono ?_
      rintro e V11 ⟨rfl, t11⟩
      have E11 : Turns [] wc V11 := E7.trans t11 (by simp)
      clear t11
      refine hK _ _ (Till.mk' E11 trivial) ?_
      clear hK K
      try simp only [List.setIfInBounds_toArray, List.set_cons_succ, List.set_cons_zero]
      refine reg_one 14 4 #[true, true, true, true, true, true, true, true, true, true, true, true, true, true, true, true, true, true, true, true, false, false, false, false] (by kernel_rfl) rfl (by rfl) (by kernel_rfl) (fun K hK => ?_)
      go_simp
      refine (Two_any ra rb HW.out.2.2.2.2.2.2.1 HW.out.2.2.2.2.2.2.2.1 V11).mono ?_
      rintro e V14 ⟨rfl, t14⟩
      have E14 : Turns [] wc V14 := E11.trans t14 (by simp)
      clear t14
      refine hK _ _ (Till.mk' E14 trivial) ?_
      clear hK K
      try simp only [List.setIfInBounds_toArray, List.set_cons_succ, List.set_cons_zero]
      refine reg_one 20 3 #[true, true, true, true, true, true, true, true, true, true, true, true, true, true, true, true, true, true, true, true, true, false, false, false] (by kernel_rfl) rfl (by rfl) (by kernel_rfl) (fun K hK => ?_)
      go_simp
      refine (Two_any (twoH ra rb) x (twoH_len _ _) HW.out.2.2.2.2.2.2.2.2 V14).mono ?_
      rintro e V20 ⟨rfl, t20⟩
      have E20 : Turns [] wc V20 := E14.trans t20 (by simp)
      clear t20
      refine hK _ _ (Till.mk' E20 trivial) ?_
      clear hK K
      try simp only [List.setIfInBounds_toArray, List.set_cons_succ, List.set_cons_zero]
      refine reg_take 21 48 2 #[true, true, true, true, true, true, true, true, true, true, true, true, true, true, true, true, true, true, true, true, true, true, false, false] (by rfl) (v := ?_) rfl rfl (by kernel_rfl) (by kernel_rfl) (by kernel_rfl) (by kernel_rfl) (fun _ _ _ h => h) (by rfl) ?_ (Till.mk' E20 trivial) ?_
      rotate_left
      · intro W hS; go_simp; all_goals with_reducible rfl
      try simp only [List.setIfInBounds_toArray, List.set_cons_succ, List.set_cons_zero]
      refine reg_take 22 49 1 #[true, true, true, true, true, true, true, true, true, true, true, true, true, true, true, true, true, true, true, true, true, true, true, false] (by rfl) (v := ?_) rfl rfl (by kernel_rfl) (by kernel_rfl) (by kernel_rfl) (by kernel_rfl) (fun _ _ _ h => h) (by rfl) ?_ (Till.mk' E20 trivial) ?_
      rotate_left
      · intro W hS; go_simp; all_goals with_reducible rfl
      try simp only [List.setIfInBounds_toArray, List.set_cons_succ, List.set_cons_zero]
      refine reg_take 23 2 0 #[true, true, true, true, true, true, true, true, true, true, true, true, true, true, true, true, true, true, true, true, true, true, true, true] (by rfl) (v := ?_) rfl rfl (by kernel_rfl) (by kernel_rfl) (by kernel_rfl) (by kernel_rfl) (fun _ _ _ h => h) (by rfl) ?_ (Till.mk' E20 trivial) ?_
      rotate_left
      · intro W hS; go_simp; all_goals with_reducible rfl
      try simp only [List.setIfInBounds_toArray, List.set_cons_succ, List.set_cons_zero]
      refine reg_done (by kernel_rfl) ?_ _
      go_wp2_with fail
      go_ret
      exact ⟨rfl, below_of (HF.out.trans E20 (by simp))⟩
end Go.Proofs.Ytnjnealphbcamaa
