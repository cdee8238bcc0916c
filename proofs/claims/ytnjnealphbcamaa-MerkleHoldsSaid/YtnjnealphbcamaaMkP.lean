/- Proofs of places, walked. -/
import Derived.Test.YtnjnealphbcamaaMkG
namespace Go.Proofs.Ytnjnealphbcamaa
open Go.RowKit
set_option linter.unusedVariables false
set_option maxRecDepth 10000
set_option linter.unusedSimpArgs false
set_option linter.unnecessarySimpa false

theorem HMine.base {W W0 w : World} {v : Value} {hs : List (List UInt8)} (t : Turns [] W W0) (h : HMine W0 w v hs) : HMine W w v hs := ⟨own_more h.own t.size, t.trans h.turns (by simp), h.all⟩
theorem mproof_le (hs : List (List UInt8)) (i : Nat) (hi : i < hs.length) (hm : hs.length ≤ 1000000) : (mproof hs i).length ≤ 20 := by
  rw [mproof_len hs.length hs i (Nat.le_refl _) hi]
  exact mway_le 20 _ _ (by omega)

set_option maxRecDepth 100000 in
set_option maxHeartbeats 2000000 in
theorem proof_any : ∀ (N : Nat) (hs : List (List UInt8)) (n i : Nat), hs.length = n → n ≤ N → n ≤ 1000000 → i < n → ∀ (A : Option Addr) (c B : Nat) (w : World), Hs w B (.slice A n c) hs → B ≤ w.heap.size →
    Calls Try.prog 30 #[.slice A n c, .int .i64 i] w fun e w' => ∃ A' c', e = .returned (.slice A' (mproof hs i).length c') ∧ HMine w w' (.slice A' (mproof hs i).length c') (mproof hs i)
  | N, hs, n, i, hn, hnN, hnm, hi, A, c, B, w, h, hB => by
    obtain ⟨A0, c0, hv, hnc, hcm⟩ := h.form
    injection hv with e1 e2 e3
    subst e1 e3
    clear e2
    rcases Nat.lt_or_ge n 2 with hn2 | hn2
    · have hz : (n : Int) < 2 := by omega
      have hp := mproof_few hs i (by omega)
      rw [hp]
      clear h hn hnN hnm hi hnc hcm hB hn2 hp
      go_enter Try.func30, Try.ntmps30
      go_wp2_with fail
      go_ret
      exact ⟨none, 0, rfl, HMine.nil (Turns.refl _ _)⟩
    · have hz : ¬ (n : Int) < 2 := by omega
      have hk1 := mcut_pos n
      have hk2 := mcut_lt n hn2
      have hple := mproof_le hs i (by omega) (by omega)
      have CU := cut_any n (by omega) w
      have hml := mproof_left hs i (by omega)
      have hmr := mproof_right hs i (by omega)
      rw [hn] at hml hmr
      obtain ⟨k, hk⟩ : ∃ k, k = mcut n := ⟨_, rfl⟩
      rw [← hk] at hk1 hk2 CU hml hmr
      have hto := h.to (k := k) (by omega)
      have hfr := h.from_ (k := k) (by omega) hn.symm
      have htl : (hs.take k).length = k := by rw [List.length_take]; omega
      have hdl : (hs.drop k).length = n - k := by rw [List.length_drop]; omega
      have HC := Lib.hid CU
      have HT := Lib.hid (And.intro hto (And.intro hfr hB))
      have z2 : (n : Int) ≤ 1000000 := by omega
      have z3 : (k : Int) ≤ (c : Int) := by omega
      have z4 : (k : Int) ≤ (n : Int) := by omega
      by_cases hik : i < k
      · have IH1 := proof_any (n - 1) (hs.take k) k i htl (by omega) (by omega) hik A c B
        have IR := Root_any (n - 1) (hs.drop k) (n - k) hdl (by omega) (by omega) (if c = k then A else A.map fun x => x.add (k * 32)) (c - k) B
        have I1 := Lib.hid IH1
        have I2 := Lib.hid IR
        have hml := hml hik
        have hl1 : (mproof (hs.take k) i).length ≤ 20 := mproof_le _ _ (by rw [htl]; exact hik) (by rw [htl]; omega)
        have zik : (i : Int) < (k : Int) := by omega
        have HM := Lib.hid (And.intro hml (And.intro hto.all (And.intro hfr.all hl1)))
        generalize mproof hs i = P at HM hple ⊢
        have HP := Lib.hid hple
        clear h hto hfr hn hnN hnm hi hnc hcm hB hn2 hk hk1 hk2 hik htl hdl IH1 IR CU hml hmr hl1 hple
        go_enter Try.func30, Try.ntmps30
        go_wp2_with fail
        refine HC.out.mono ?_
        rintro e w2 ⟨rfl, rfl⟩
        clear HC
        go_upto_region 5 with fail
        refine reg_begin (fun _ => True) (fun _ => True) 12 12 #[false, false, false, false, false, false, false, false, false, false, false, false] (by kernel_rfl) (by kernel_rfl) (by kernel_rfl) ?_
        refine reg_take 0 15 11 #[true, false, false, false, false, false, false, false, false, false, false, false] (by rfl) (v := ?_) rfl rfl (by kernel_rfl) (by kernel_rfl) (by kernel_rfl) (by kernel_rfl) (fun _ _ _ h => h) (by rfl) ?_ (Till.mk' trivial trivial) ?_
        rotate_left
        · intro W hS; go_simp; all_goals with_reducible rfl
        try simp only [List.setIfInBounds_toArray, List.set_cons_succ, List.set_cons_zero]
        refine reg_take 1 16 10 #[true, true, false, false, false, false, false, false, false, false, false, false] (by rfl) (v := ?_) rfl rfl (by kernel_rfl) (by kernel_rfl) (by kernel_rfl) (by kernel_rfl) (fun _ _ _ h => h) (by rfl) ?_ (Till.mk' trivial trivial) ?_
        rotate_left
        · intro W hS; go_simp; all_goals with_reducible rfl
        try simp only [List.setIfInBounds_toArray, List.set_cons_succ, List.set_cons_zero]
        refine reg_take 2 17 9 #[true, true, true, false, false, false, false, false, false, false, false, false] (by rfl) (v := ?_) rfl rfl (by kernel_rfl) (by kernel_rfl) (by kernel_rfl) (by kernel_rfl) (fun _ _ _ h => h) (by rfl) ?_ (Till.mk' trivial trivial) ?_
        rotate_left
        · intro W hS; go_simp; all_goals with_reducible rfl
        try simp only [List.setIfInBounds_toArray, List.set_cons_succ, List.set_cons_zero]
        refine reg_take 3 18 8 #[true, true, true, true, false, false, false, false, false, false, false, false] (by rfl) (v := ?_) rfl rfl (by kernel_rfl) (by kernel_rfl) (by kernel_rfl) (by kernel_rfl) (fun _ _ _ h => h) (by rfl) ?_ (Till.mk' trivial trivial) ?_
        rotate_left
        · intro W hS; go_simp; all_goals with_reducible rfl
        try simp only [List.setIfInBounds_toArray, List.set_cons_succ, List.set_cons_zero]
        refine reg_take 5 20 7 #[true, true, true, true, false, true, false, false, false, false, false, false] (by rfl) (v := ?_) rfl rfl (by kernel_rfl) (by kernel_rfl) (by kernel_rfl) (by kernel_rfl) (fun _ _ _ h => h) (by rfl) ?_ (Till.mk' trivial trivial) ?_
        rotate_left
        · intro W hS; go_simp; all_goals with_reducible rfl
        try simp only [List.setIfInBounds_toArray, List.set_cons_succ, List.set_cons_zero]
        refine reg_take 6 21 6 #[true, true, true, true, false, true, true, false, false, false, false, false] (by rfl) (v := ?_) rfl rfl (by kernel_rfl) (by kernel_rfl) (by kernel_rfl) (by kernel_rfl) (fun _ _ _ h => h) (by rfl) ?_ (Till.mk' trivial trivial) ?_
        rotate_left
        · intro W hS; go_simp; all_goals with_reducible rfl
        try simp only [List.setIfInBounds_toArray, List.set_cons_succ, List.set_cons_zero]
        refine reg_take 7 22 5 #[true, true, true, true, false, true, true, true, false, false, false, false] (by rfl) (v := ?_) rfl rfl (by kernel_rfl) (by kernel_rfl) (by kernel_rfl) (by kernel_rfl) (fun _ _ _ h => h) (by rfl) ?_ (Till.mk' trivial trivial) ?_
        rotate_left
        · intro W hS; go_simp; all_goals with_reducible rfl
        try simp only [List.setIfInBounds_toArray, List.set_cons_succ, List.set_cons_zero]
        refine reg_one 4 4 #[true, true, true, true, true, true, true, true, false, false, false, false] (by kernel_rfl) rfl (by rfl) (by kernel_rfl) (fun K hK => ?_)
        go_simp
        refine (I1.out w.drew (HT.out.1.drew) HT.out.2.2).mono ?_
        rintro e w3 ⟨A3, c3, rfl, m3⟩
        refine hK _ _ (Till.mk' trivial trivial) ?_
        clear hK K
        try simp only [List.setIfInBounds_toArray, List.set_cons_succ, List.set_cons_zero]
        refine reg_one 8 3 #[true, true, true, true, true, true, true, true, true, false, false, false] (by kernel_rfl) rfl (by rfl) (by kernel_rfl) (fun K hK => ?_)
        go_simp
        refine (I2.out w3 (HT.out.2.1.turns ((Turns.refl [] w).drew.trans m3.turns (by simp)) HT.out.2.2 (by simp)) (Nat.le_trans HT.out.2.2 m3.turns.size)).mono ?_
        rintro e w4 ⟨rfl, t4⟩
        have hrl := mroot_len (hs.drop k) HM.out.2.2.1
        refine hK _ _ (Till.mk' trivial trivial) ?_
        clear hK K
        try simp only [List.setIfInBounds_toArray, List.set_cons_succ, List.set_cons_zero]
        refine reg_one 9 2 #[true, true, true, true, true, true, true, true, true, true, false, false] (by kernel_rfl) rfl (by rfl) (by kernel_rfl) (fun K hK => ?_)
        refine wp_build_hash1 (mroot (hs.drop k)) hrl (.tmp 23) (by rfl) (by rfl) ?_
        refine hK _ _ (Till.mk' trivial trivial) ?_
        clear hK K
        try simp only [List.setIfInBounds_toArray, List.set_cons_succ, List.set_cons_zero]
        refine reg_one 10 1 #[true, true, true, true, true, true, true, true, true, true, true, false] (by kernel_rfl) rfl (by rfl) (by kernel_rfl) (fun K hK => ?_)
        obtain ⟨v9, w9, hr9, m9⟩ := hmine_push (m3.on t4) (by have := HM.out.2.2.2; omega) (mroot (hs.drop k)) hrl 23
        rw [← HM.out.1] at m9
        obtain ⟨A9, c9, rfl, _⟩ := m9.len
        refine wp_append_run (P := Try.prog) (w := w4.alloc (.cells (bvs (mroot (hs.drop k))).toArray 27)) (.tmp 19) (.tmp 24) (by rfl) (vs := _) (vx := _) (by rfl) (by rfl) (R := fun v w' => Value.slice A9 P.length c9 = v ∧ w9 = w') ⟨_, _, hr9, rfl, rfl⟩ ?_
        rintro _ _ ⟨rfl, rfl⟩
        have M9 := Lib.hid m9
        clear hr9 m9 m3 t4 hrl
        have M9 := M9.out
        refine hK _ _ (Till.mk' trivial trivial) ?_
        clear hK K
        try simp only [List.setIfInBounds_toArray, List.set_cons_succ, List.set_cons_zero]
        refine reg_take 11 4 0 #[true, true, true, true, true, true, true, true, true, true, true, true] (by rfl) (v := ?_) rfl rfl (by kernel_rfl) (by kernel_rfl) (by kernel_rfl) (by kernel_rfl) (fun _ _ _ h => h) (by rfl) ?_ (Till.mk' trivial trivial) ?_
        rotate_left
        · intro W hS; go_simp; all_goals with_reducible rfl
        try simp only [List.setIfInBounds_toArray, List.set_cons_succ, List.set_cons_zero]
        refine reg_done (by kernel_rfl) ?_ _
        have HF := Lib.hid (M9.base (Turns.refl [] w).drew)
        clear M9
        go_wp2_with fail
        all_goals go_ret
        all_goals exact ⟨_, _, rfl, HF.out⟩
      · have IH1 := proof_any (n - 1) (hs.drop k) (n - k) (i - k) hdl (by omega) (by omega) (by omega) (if c = k then A else A.map fun x => x.add (k * 32)) (c - k) B
        have IR := Root_any (n - 1) (hs.take k) k htl (by omega) (by omega) A c B
        have I1 := Lib.hid IH1
        have I2 := Lib.hid IR
        have hml := hmr hik
        have hl1 : (mproof (hs.drop k) (i - k)).length ≤ 20 := mproof_le _ _ (by rw [hdl]; omega) (by rw [hdl]; omega)
        have zik : ¬ (i : Int) < (k : Int) := by omega
        have wik : IntKind.i64.wrap ((i : Int) - (k : Int)) = ((i - k : Nat) : Int) := by rw [IntWalk.i64_in _ (by omega)]; omega
        have HM := Lib.hid (And.intro hml (And.intro hto.all (And.intro hfr.all hl1)))
        generalize mproof hs i = P at HM hple ⊢
        have HP := Lib.hid hple
        clear h hto hfr hn hnN hnm hi hnc hcm hB hn2 hk hk1 hk2 hik htl hdl IH1 IR CU hml hmr hl1 hple
        go_enter Try.func30, Try.ntmps30
        go_wp2_with fail
        refine HC.out.mono ?_
        rintro e w2 ⟨rfl, rfl⟩
        clear HC
        go_upto_region 6 with fail
        refine reg_begin (fun _ => True) (fun _ => True) 14 14 #[false, false, false, false, false, false, false, false, false, false, false, false, false, false] (by kernel_rfl) (by kernel_rfl) (by kernel_rfl) ?_
        refine reg_take 0 26 13 #[true, false, false, false, false, false, false, false, false, false, false, false, false, false] (by rfl) (v := ?_) rfl rfl (by kernel_rfl) (by kernel_rfl) (by kernel_rfl) (by kernel_rfl) (fun _ _ _ h => h) (by rfl) ?_ (Till.mk' trivial trivial) ?_
        rotate_left
        · intro W hS; go_simp; all_goals with_reducible rfl
        try simp only [List.setIfInBounds_toArray, List.set_cons_succ, List.set_cons_zero]
        refine reg_take 1 27 12 #[true, true, false, false, false, false, false, false, false, false, false, false, false, false] (by rfl) (v := ?_) rfl rfl (by kernel_rfl) (by kernel_rfl) (by kernel_rfl) (by kernel_rfl) (fun _ _ _ h => h) (by rfl) ?_ (Till.mk' trivial trivial) ?_
        rotate_left
        · intro W hS; go_simp; all_goals with_reducible rfl
        try simp only [List.setIfInBounds_toArray, List.set_cons_succ, List.set_cons_zero]
        refine reg_take 2 28 11 #[true, true, true, false, false, false, false, false, false, false, false, false, false, false] (by rfl) (v := ?_) rfl rfl (by kernel_rfl) (by kernel_rfl) (by kernel_rfl) (by kernel_rfl) (fun _ _ _ h => h) (by rfl) ?_ (Till.mk' trivial trivial) ?_
        rotate_left
        · intro W hS; go_simp; all_goals with_reducible rfl
        try simp only [List.setIfInBounds_toArray, List.set_cons_succ, List.set_cons_zero]
        refine reg_take 3 29 10 #[true, true, true, true, false, false, false, false, false, false, false, false, false, false] (by rfl) (v := ?_) rfl rfl (by kernel_rfl) (by kernel_rfl) (by kernel_rfl) (by kernel_rfl) (fun _ _ _ h => h) (by rfl) ?_ (Till.mk' trivial trivial) ?_
        rotate_left
        · intro W hS; go_simp; all_goals with_reducible rfl
        try simp only [List.setIfInBounds_toArray, List.set_cons_succ, List.set_cons_zero]
        refine reg_take 4 30 9 #[true, true, true, true, true, false, false, false, false, false, false, false, false, false] (by rfl) (v := ?_) rfl rfl (by kernel_rfl) (by kernel_rfl) (by kernel_rfl) (by kernel_rfl) (fun _ _ _ h => h) (by rfl) ?_ (Till.mk' trivial trivial) ?_
        rotate_left
        · intro W hS; go_simp; all_goals with_reducible rfl
        try simp only [List.setIfInBounds_toArray, List.set_cons_succ, List.set_cons_zero]
        refine reg_take 5 31 8 #[true, true, true, true, true, true, false, false, false, false, false, false, false, false] (by rfl) (v := ?_) rfl rfl (by kernel_rfl) (by kernel_rfl) (by kernel_rfl) (by kernel_rfl) (fun _ _ _ h => h) (by rfl) ?_ (Till.mk' trivial trivial) ?_
        rotate_left
        · intro W hS; go_simp; all_goals with_reducible rfl
        try simp only [List.setIfInBounds_toArray, List.set_cons_succ, List.set_cons_zero]
        refine reg_take 7 33 7 #[true, true, true, true, true, true, false, true, false, false, false, false, false, false] (by rfl) (v := ?_) rfl rfl (by kernel_rfl) (by kernel_rfl) (by kernel_rfl) (by kernel_rfl) (fun _ _ _ h => h) (by rfl) ?_ (Till.mk' trivial trivial) ?_
        rotate_left
        · intro W hS; go_simp; all_goals with_reducible rfl
        try simp only [List.setIfInBounds_toArray, List.set_cons_succ, List.set_cons_zero]
        refine reg_take 8 34 6 #[true, true, true, true, true, true, false, true, true, false, false, false, false, false] (by rfl) (v := ?_) rfl rfl (by kernel_rfl) (by kernel_rfl) (by kernel_rfl) (by kernel_rfl) (fun _ _ _ h => h) (by rfl) ?_ (Till.mk' trivial trivial) ?_
        rotate_left
        · intro W hS; go_simp; all_goals with_reducible rfl
        try simp only [List.setIfInBounds_toArray, List.set_cons_succ, List.set_cons_zero]
        refine reg_take 9 35 5 #[true, true, true, true, true, true, false, true, true, true, false, false, false, false] (by rfl) (v := ?_) rfl rfl (by kernel_rfl) (by kernel_rfl) (by kernel_rfl) (by kernel_rfl) (fun _ _ _ h => h) (by rfl) ?_ (Till.mk' trivial trivial) ?_
        rotate_left
        · intro W hS; go_simp; all_goals with_reducible rfl
        try simp only [List.setIfInBounds_toArray, List.set_cons_succ, List.set_cons_zero]
        refine reg_one 6 4 #[true, true, true, true, true, true, true, true, true, true, false, false, false, false] (by kernel_rfl) rfl (by rfl) (by kernel_rfl) (fun K hK => ?_)
        go_simp
        refine (I1.out w.drew (HT.out.2.1.drew) HT.out.2.2).mono ?_
        rintro e w3 ⟨A3, c3, rfl, m3⟩
        refine hK _ _ (Till.mk' trivial trivial) ?_
        clear hK K
        try simp only [List.setIfInBounds_toArray, List.set_cons_succ, List.set_cons_zero]
        refine reg_one 10 3 #[true, true, true, true, true, true, true, true, true, true, true, false, false, false] (by kernel_rfl) rfl (by rfl) (by kernel_rfl) (fun K hK => ?_)
        go_simp
        refine (I2.out w3 (HT.out.1.turns ((Turns.refl [] w).drew.trans m3.turns (by simp)) HT.out.2.2 (by simp)) (Nat.le_trans HT.out.2.2 m3.turns.size)).mono ?_
        rintro e w4 ⟨rfl, t4⟩
        have hrl := mroot_len (hs.take k) HM.out.2.1
        refine hK _ _ (Till.mk' trivial trivial) ?_
        clear hK K
        try simp only [List.setIfInBounds_toArray, List.set_cons_succ, List.set_cons_zero]
        refine reg_one 11 2 #[true, true, true, true, true, true, true, true, true, true, true, true, false, false] (by kernel_rfl) rfl (by rfl) (by kernel_rfl) (fun K hK => ?_)
        refine wp_build_hash1 (mroot (hs.take k)) hrl (.tmp 36) (by rfl) (by rfl) ?_
        refine hK _ _ (Till.mk' trivial trivial) ?_
        clear hK K
        try simp only [List.setIfInBounds_toArray, List.set_cons_succ, List.set_cons_zero]
        refine reg_one 12 1 #[true, true, true, true, true, true, true, true, true, true, true, true, true, false] (by kernel_rfl) rfl (by rfl) (by kernel_rfl) (fun K hK => ?_)
        obtain ⟨v9, w9, hr9, m9⟩ := hmine_push (m3.on t4) (by have := HM.out.2.2.2; omega) (mroot (hs.take k)) hrl 23
        rw [← HM.out.1] at m9
        obtain ⟨A9, c9, rfl, _⟩ := m9.len
        refine wp_append_run (P := Try.prog) (w := w4.alloc (.cells (bvs (mroot (hs.take k))).toArray 27)) (.tmp 32) (.tmp 37) (by rfl) (vs := _) (vx := _) (by rfl) (by rfl) (R := fun v w' => Value.slice A9 P.length c9 = v ∧ w9 = w') ⟨_, _, hr9, rfl, rfl⟩ ?_
        rintro _ _ ⟨rfl, rfl⟩
        have M9 := Lib.hid m9
        clear hr9 m9 m3 t4 hrl
        have M9 := M9.out
        refine hK _ _ (Till.mk' trivial trivial) ?_
        clear hK K
        try simp only [List.setIfInBounds_toArray, List.set_cons_succ, List.set_cons_zero]
        refine reg_take 13 4 0 #[true, true, true, true, true, true, true, true, true, true, true, true, true, true] (by rfl) (v := ?_) rfl rfl (by kernel_rfl) (by kernel_rfl) (by kernel_rfl) (by kernel_rfl) (fun _ _ _ h => h) (by rfl) ?_ (Till.mk' trivial trivial) ?_
        rotate_left
        · intro W hS; go_simp; all_goals with_reducible rfl
        try simp only [List.setIfInBounds_toArray, List.set_cons_succ, List.set_cons_zero]
        refine reg_done (by kernel_rfl) ?_ _
        have HF := Lib.hid (M9.base (Turns.refl [] w).drew)
        clear M9
        go_wp2_with fail
        all_goals go_ret
        all_goals exact ⟨_, _, rfl, HF.out⟩
  termination_by N => N
  decreasing_by all_goals omega
end Go.Proofs.Ytnjnealphbcamaa
