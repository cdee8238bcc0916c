/- Proofs of places, walked. Proofs, the exported ones and the document's, walked. Which sum stands ahead: merkle.turns, walked. merkle.turns and merkle.Check, walked. merkle.Check, walked. -/
import Derived.Test.YtoahnhphfabajaaGreatGMV
namespace Go.Proofs.YtoahnhphfabajaaGreat
set_option maxRecDepth 10000
open Go.RowKit
set_option linter.unusedVariables false
set_option maxRecDepth 10000
set_option linter.unusedSimpArgs false
set_option linter.unnecessarySimpa false

theorem mproof_le (hs : List (List UInt8)) (i : Nat) (hi : i < hs.length) (hm : hs.length ≤ 1000000) : (mproof hs i).length ≤ 20 := by
  rw [mproof_len hs.length hs i (Nat.le_refl _) hi]
  exact mway_le 20 _ _ (by omega)

set_option maxRecDepth 100000 in
set_option maxHeartbeats 2000000 in
theorem proof_any : ∀ (N : Nat) (hs : List (List UInt8)) (n i : Nat), hs.length = n → n ≤ N → n ≤ 1000000 → i < n → ∀ (A : Option Addr) (c B : Nat) (w : World), Hs w B (.slice A n c) hs → B ≤ w.heap.size →
    Calls Tryz.prog 78 #[.slice A n c, .int .i64 i] w fun e w' => ∃ A' c', e = .returned (.slice A' (mproof hs i).length c') ∧ HMine w w' (.slice A' (mproof hs i).length c') (mproof hs i)
  | N, hs, n, i, hn, hnN, hnm, hi, A, c, B, w, h, hB => by
    obtain ⟨A0, c0, hv, hnc, hcm⟩ := h.form
    injection hv with e1 e2 e3
    subst e1 e3
    clear e2
    rcases Nat.lt_or_ge n 2 with hn2 | hn2
    · have hz : (n : Int) < 2 := by omega
      have hp := mproof_few hs i (by omega)
      rw [hp]
      clear h hn hnN hnm hi hnc hcm hB hn2 hp
      go_enter Tryz.func78, Tryz.ntmps78
      go_wp2_with fail
      go_ret
      exact ⟨none, 0, rfl, HMine.nil (Turns.refl _ _)⟩
    · have hz : ¬ (n : Int) < 2 := by omega
      have hk1 := mcut_pos n
      have hk2 := mcut_lt n hn2
      have hple := mproof_le hs i (by omega) (by omega)
      have CU := cut_any n (by omega) w
      have hml := mproof_left hs i (by omega)
      have hmr := mproof_right hs i (by omega)
      rw [hn] at hml hmr
      obtain ⟨k, hk⟩ : ∃ k, k = mcut n := ⟨_, rfl⟩
      rw [← hk] at hk1 hk2 CU hml hmr
      have hto := h.to (k := k) (by omega)
      have hfr := h.from_ (k := k) (by omega) hn.symm
      have htl : (hs.take k).length = k := by rw [List.length_take]; omega
      have hdl : (hs.drop k).length = n - k := by rw [List.length_drop]; omega
      have HC := Lib.hid CU
      have HT := Lib.hid (And.intro hto (And.intro hfr hB))
      have z2 : (n : Int) ≤ 1000000 := by omega
      have z3 : (k : Int) ≤ (c : Int) := by omega
      have z4 : (k : Int) ≤ (n : Int) := by omega
      by_cases hik : i < k
      · have IH1 := proof_any (n - 1) (hs.take k) k i htl (by omega) (by omega) hik A c B
        have IR := Root_any (n - 1) (hs.drop k) (n - k) hdl (by omega) (by omega) (if c = k then A else A.map fun x => x.add (k * 32)) (c - k) B
        have I1 := Lib.hid IH1
        have I2 := Lib.hid IR
        have hml := hml hik
        have hl1 : (mproof (hs.take k) i).length ≤ 20 := mproof_le _ _ (by rw [htl]; exact hik) (by rw [htl]; omega)
        have zik : (i : Int) < (k : Int) := by omega
        have HM := Lib.hid (And.intro hml (And.intro hto.all (And.intro hfr.all hl1)))
        generalize mproof hs i = P at HM hple ⊢
        have HP := Lib.hid hple
        clear h hto hfr hn hnN hnm hi hnc hcm hB hn2 hk hk1 hk2 hik htl hdl IH1 IR CU hml hmr hl1 hple
        go_enter Tryz.func78, Tryz.ntmps78
        go_wp2_with fail
        refine HC.out.mono ?_
        rintro e w2 ⟨rfl, rfl⟩
        clear HC
        go_upto_region 5 with fail
        refine rk0 (fun _ => True) (fun _ => True) 12 12 ?_
        refine rkA 0 15 1 (v := ?_) ?_ (.mk' trivial trivial) ?_
        rotate_left
        · intro W hS; go_simp; all_goals with_reducible rfl
        try simp only [sI, sS, sZ]
        refine rkA 1 16 3 (v := ?_) ?_ (.mk' trivial trivial) ?_
        rotate_left
        · intro W hS; go_simp; all_goals with_reducible rfl
        try simp only [sI, sS, sZ]
        refine rkA 2 17 7 (v := ?_) ?_ (.mk' trivial trivial) ?_
        rotate_left
        · intro W hS; go_simp; all_goals with_reducible rfl
        try simp only [sI, sS, sZ]
        refine rkA 3 18 15 (v := ?_) ?_ (.mk' trivial trivial) ?_
        rotate_left
        · intro W hS; go_simp; all_goals with_reducible rfl
        try simp only [sI, sS, sZ]
        refine rkA 5 20 47 (v := ?_) ?_ (.mk' trivial trivial) ?_
        rotate_left
        · intro W hS; go_simp; all_goals with_reducible rfl
        try simp only [sI, sS, sZ]
        refine rkA 6 21 111 (v := ?_) ?_ (.mk' trivial trivial) ?_
        rotate_left
        · intro W hS; go_simp; all_goals with_reducible rfl
        try simp only [sI, sS, sZ]
        refine rkA 7 22 239 (v := ?_) ?_ (.mk' trivial trivial) ?_
        rotate_left
        · intro W hS; go_simp; all_goals with_reducible rfl
        try simp only [sI, sS, sZ]
        refine rk1 4 255 (fun K hK => ?_)
        go_simp
        refine (I1.out w.drew (HT.out.1.drew) HT.out.2.2).mono ?_
        rintro e w3 ⟨A3, c3, rfl, m3⟩
        refine hK _ _ (.mk' trivial trivial) ?_
        clear hK K
        try simp only [sI, sS, sZ]
        refine rk1 8 511 (fun K hK => ?_)
        go_simp
        refine (I2.out w3 (HT.out.2.1.turns ((Turns.refl [] w).drew.trans m3.turns (by simp)) HT.out.2.2 (by simp)) (Nat.le_trans HT.out.2.2 m3.turns.size)).mono ?_
        rintro e w4 ⟨rfl, t4⟩
        have hrl := mroot_len (hs.drop k) HM.out.2.2.1
        refine hK _ _ (.mk' trivial trivial) ?_
        clear hK K
        try simp only [sI, sS, sZ]
        refine rk1 9 1023 (fun K hK => ?_)
        refine wp_build_hash1 (mroot (hs.drop k)) hrl (.tmp 23) (by rfl) (by rfl) ?_
        refine hK _ _ (.mk' trivial trivial) ?_
        clear hK K
        try simp only [sI, sS, sZ]
        refine rk1 10 2047 (fun K hK => ?_)
        obtain ⟨v9, w9, hr9, m9⟩ := hmine_push (m3.on t4) (by have := HM.out.2.2.2; omega) (mroot (hs.drop k)) hrl 68
        rw [← HM.out.1] at m9
        obtain ⟨A9, c9, rfl, _⟩ := m9.len
        refine wp_append_run (P := Tryz.prog) (w := w4.alloc (.cells (bvs (mroot (hs.drop k))).toArray 53)) (.tmp 19) (.tmp 24) (by rfl) (vs := _) (vx := _) (by rfl) (by rfl) (R := fun v w' => Value.slice A9 P.length c9 = v ∧ w9 = w') ⟨_, _, hr9, rfl, rfl⟩ ?_
        rintro _ _ ⟨rfl, rfl⟩
        have M9 := Lib.hid m9
        clear hr9 m9 m3 t4 hrl
        have M9 := M9.out
        refine hK _ _ (.mk' trivial trivial) ?_
        clear hK K
        try simp only [sI, sS, sZ]
        refine rkA 11 4 4095 (v := ?_) ?_ (.mk' trivial trivial) ?_
        rotate_left
        · intro W hS; go_simp; all_goals with_reducible rfl
        try simp only [sI, sS, sZ]
        refine rkZ ?_
        have HF := Lib.hid (M9.base (Turns.refl [] w).drew)
        clear M9
        go_wp2_with fail
        all_goals go_ret
        all_goals exact ⟨_, _, rfl, HF.out⟩
      · have IH1 := proof_any (n - 1) (hs.drop k) (n - k) (i - k) hdl (by omega) (by omega) (by omega) (if c = k then A else A.map fun x => x.add (k * 32)) (c - k) B
        have IR := Root_any (n - 1) (hs.take k) k htl (by omega) (by omega) A c B
        have I1 := Lib.hid IH1
        have I2 := Lib.hid IR
        have hml := hmr hik
        have hl1 : (mproof (hs.drop k) (i - k)).length ≤ 20 := mproof_le _ _ (by rw [hdl]; omega) (by rw [hdl]; omega)
        have zik : ¬ (i : Int) < (k : Int) := by omega
        have wik : IntKind.i64.wrap ((i : Int) - (k : Int)) = ((i - k : Nat) : Int) := by rw [IntWalk.i64_in _ (by omega)]; omega
        have HM := Lib.hid (And.intro hml (And.intro hto.all (And.intro hfr.all hl1)))
        generalize mproof hs i = P at HM hple ⊢
        have HP := Lib.hid hple
        clear h hto hfr hn hnN hnm hi hnc hcm hB hn2 hk hk1 hk2 hik htl hdl IH1 IR CU hml hmr hl1 hple
        go_enter Tryz.func78, Tryz.ntmps78
        go_wp2_with fail
        refine HC.out.mono ?_
        rintro e w2 ⟨rfl, rfl⟩
        clear HC
        go_upto_region 6 with fail
        refine rk0 (fun _ => True) (fun _ => True) 14 14 ?_
        refine rkA 0 26 1 (v := ?_) ?_ (.mk' trivial trivial) ?_
        rotate_left
        · intro W hS; go_simp; all_goals with_reducible rfl
        try simp only [sI, sS, sZ]
        refine rkA 1 27 3 (v := ?_) ?_ (.mk' trivial trivial) ?_
        rotate_left
        · intro W hS; go_simp; all_goals with_reducible rfl
        try simp only [sI, sS, sZ]
        refine rkA 2 28 7 (v := ?_) ?_ (.mk' trivial trivial) ?_
        rotate_left
        · intro W hS; go_simp; all_goals with_reducible rfl
        try simp only [sI, sS, sZ]
        refine rkA 3 29 15 (v := ?_) ?_ (.mk' trivial trivial) ?_
        rotate_left
        · intro W hS; go_simp; all_goals with_reducible rfl
        try simp only [sI, sS, sZ]
        refine rkA 4 30 31 (v := ?_) ?_ (.mk' trivial trivial) ?_
        rotate_left
        · intro W hS; go_simp; all_goals with_reducible rfl
        try simp only [sI, sS, sZ]
        refine rkA 5 31 63 (v := ?_) ?_ (.mk' trivial trivial) ?_
        rotate_left
        · intro W hS; go_simp; all_goals with_reducible rfl
        try simp only [sI, sS, sZ]
        refine rkA 7 33 191 (v := ?_) ?_ (.mk' trivial trivial) ?_
        rotate_left
        · intro W hS; go_simp; all_goals with_reducible rfl
        try simp only [sI, sS, sZ]
        refine rkA 8 34 447 (v := ?_) ?_ (.mk' trivial trivial) ?_
        rotate_left
        · intro W hS; go_simp; all_goals with_reducible rfl
        try simp only [sI, sS, sZ]
        refine rkA 9 35 959 (v := ?_) ?_ (.mk' trivial trivial) ?_
        rotate_left
        · intro W hS; go_simp; all_goals with_reducible rfl
        try simp only [sI, sS, sZ]
        refine rk1 6 1023 (fun K hK => ?_)
        go_simp
        refine (I1.out w.drew (HT.out.2.1.drew) HT.out.2.2).mono ?_
        rintro e w3 ⟨A3, c3, rfl, m3⟩
        refine hK _ _ (.mk' trivial trivial) ?_
        clear hK K
        try simp only [sI, sS, sZ]
        refine rk1 10 2047 (fun K hK => ?_)
        go_simp
        refine (I2.out w3 (HT.out.1.turns ((Turns.refl [] w).drew.trans m3.turns (by simp)) HT.out.2.2 (by simp)) (Nat.le_trans HT.out.2.2 m3.turns.size)).mono ?_
        rintro e w4 ⟨rfl, t4⟩
        have hrl := mroot_len (hs.take k) HM.out.2.1
        refine hK _ _ (.mk' trivial trivial) ?_
        clear hK K
        try simp only [sI, sS, sZ]
        refine rk1 11 4095 (fun K hK => ?_)
        refine wp_build_hash1 (mroot (hs.take k)) hrl (.tmp 36) (by rfl) (by rfl) ?_
        refine hK _ _ (.mk' trivial trivial) ?_
        clear hK K
        try simp only [sI, sS, sZ]
        refine rk1 12 8191 (fun K hK => ?_)
        obtain ⟨v9, w9, hr9, m9⟩ := hmine_push (m3.on t4) (by have := HM.out.2.2.2; omega) (mroot (hs.take k)) hrl 68
        rw [← HM.out.1] at m9
        obtain ⟨A9, c9, rfl, _⟩ := m9.len
        refine wp_append_run (P := Tryz.prog) (w := w4.alloc (.cells (bvs (mroot (hs.take k))).toArray 53)) (.tmp 32) (.tmp 37) (by rfl) (vs := _) (vx := _) (by rfl) (by rfl) (R := fun v w' => Value.slice A9 P.length c9 = v ∧ w9 = w') ⟨_, _, hr9, rfl, rfl⟩ ?_
        rintro _ _ ⟨rfl, rfl⟩
        have M9 := Lib.hid m9
        clear hr9 m9 m3 t4 hrl
        have M9 := M9.out
        refine hK _ _ (.mk' trivial trivial) ?_
        clear hK K
        try simp only [sI, sS, sZ]
        refine rkA 13 4 16383 (v := ?_) ?_ (.mk' trivial trivial) ?_
        rotate_left
        · intro W hS; go_simp; all_goals with_reducible rfl
        try simp only [sI, sS, sZ]
        refine rkZ ?_
        have HF := Lib.hid (M9.base (Turns.refl [] w).drew)
        clear M9
        go_wp2_with fail
        all_goals go_ret
        all_goals exact ⟨_, _, rfl, HF.out⟩
  termination_by N => N
  decreasing_by all_goals omega
end Go.Proofs.YtoahnhphfabajaaGreat
namespace Go.Proofs.YtoahnhphfabajaaGreat
set_option maxRecDepth 10000
open Go.RowKit
set_option linter.unusedVariables false
set_option linter.unusedSimpArgs false
set_option linter.unnecessarySimpa false

set_option maxHeartbeats 1000000 in
theorem CloneH_any (A : Option Addr) (n c : Nat) (hs : List (List UInt8)) (hn : hs.length = n) (w : World) (h : Hs w w.heap.size (.slice A n c) hs) (hm : n ≤ 1000000) :
    Calls Tryz.prog 77 #[.slice A n c] w fun e w' => ∃ A' c', e = .returned (.slice A' n c') ∧ HMine w w' (.slice A' n c') hs := by
  have hnil := fun w => Lib.run_eql_slice_nil (P := Tryz.prog) w 68 53 A n c 0 0 Tryz.underlying68
  have h' := h
  obtain ⟨⟨hl, A0, c0, hv, hnc, hcm, hA, hrd⟩, ha⟩ := h
  injection hv with e1 e2 e3
  subst e1 e3
  clear e2
  rcases A with _ | ad
  · have := hA rfl
    subst this
    obtain rfl : n = 0 := by omega
    obtain rfl : hs = [] := List.eq_nil_of_length_eq_zero hn
    clear h' hl hnc hcm hA hrd ha hm hn
    go_enter Tryz.func77, Tryz.ntmps77
    go_wp2_with fail
    go_ret
    exact ⟨_, _, rfl, HMine.nil (Turns.refl _ _)⟩
  · have hown : HMine w (w.alloc (.cells #[] 53)) (.slice (some ⟨w.heap.size, 0, none⟩) 0 0) [] :=
      ⟨World.ownsRow_made w #[] 0 (Nat.le_refl _) (Nat.zero_le _) (by simp), (Turns.refl _ _).alloc _, by simp⟩
    obtain ⟨v2, w2, hr2, m2⟩ := hmine_append hown (h'.turns ((Turns.refl [] w).alloc (.cells #[] 53)) (Nat.le_refl _) (by simp)) (by simp; omega) 68
    rw [List.nil_append] at m2
    obtain ⟨A2, c2, rfl, _⟩ := m2.len
    rw [hn] at m2 hr2
    have HM := Lib.hid m2
    clear h' hl hnc hcm hA hrd ha hm hn m2 hown
    go_enter Tryz.func77, Tryz.ntmps77
    go_wp2_with (at_builtin; refine wpList_append_at rfl (.tmp 5) (.tmp 6) rfl hr2 rfl rfl ?_)
    clear hr2
    go_ret
    exact ⟨_, _, rfl, HM.out⟩

set_option maxHeartbeats 1000000 in
theorem Proof_in (hs : List (List UInt8)) (n i : Nat) (hn : hs.length = n) (hm : n ≤ 1000000) (hi : i < n) (A : Option Addr) (c B : Nat) (w : World) (h : Hs w B (.slice A n c) hs) (hB : B ≤ w.heap.size) :
    Calls Tryz.prog 50 #[.slice A n c, .int .i64 i] w fun e w' => ∃ A' c', e = .returned (.tuple #[.slice A' (mproof hs i).length c', .int .i64 0]) ∧ HMine w w' (.slice A' (mproof hs i).length c') (mproof hs i) := by
  have PR := Lib.hid (proof_any n hs n i hn (Nat.le_refl _) hm hi A c B w h hB)
  have hl := Lib.hid (mproof_le hs i (by omega) (by omega))
  generalize mproof hs i = P at PR hl ⊢
  have z1 : ¬ (i : Int) < 0 := by omega
  have z2 : ¬ (n : Int) ≤ (i : Int) := by omega
  clear h hn hm hi
  go_enter Tryz.func50, Tryz.ntmps50
  go_wp2_with fail
  refine PR.out.mono ?_
  rintro e w2 ⟨A2, c2, rfl, m2⟩
  have HM := Lib.hid m2
  clear m2
  go_wp2_with fail
  refine (CloneH_any A2 P.length c2 P rfl w2 HM.out.hs (by have := hl.out; omega)).mono ?_
  rintro e w3 ⟨A3, c3, rfl, m3⟩
  have HM3 := Lib.hid (m3.base HM.out.turns)
  clear m3
  go_wp2_with fail
  go_ret2
  exact ⟨_, _, rfl, HM3.out⟩
set_option maxRecDepth 100000 in
set_option maxHeartbeats 2000000 in
theorem refProof_in : ∀ (N : Nat) (hs : List (List UInt8)) (n i : Nat), hs.length = n → n ≤ N → n ≤ 1000000 → i < n → ∀ (A : Option Addr) (c B : Nat) (w : World), Hs w B (.slice A n c) hs → B ≤ w.heap.size →
    Calls Tryz.prog 51 #[.slice A n c, .int .i64 i] w fun e w' => ∃ A' c', e = .returned (.tuple #[.slice A' (mproof hs i).length c', .int .i64 0]) ∧ HMine w w' (.slice A' (mproof hs i).length c') (mproof hs i)
  | N, hs, n, i, hn, hnN, hnm, hi, A, c, B, w, h, hB => by
    obtain ⟨A0, c0, hv, hnc, hcm⟩ := h.form
    injection hv with e1 e2 e3
    subst e1 e3
    clear e2
    have y1 : ¬ (i : Int) < 0 := by omega
    have y2 : ¬ (n : Int) ≤ (i : Int) := by omega
    rcases Nat.lt_or_ge n 2 with hn2 | hn2
    · obtain rfl : n = 1 := by omega
      have hp := mproof_few hs i (by omega)
      rw [hp]
      have y2 : ¬ (1 : Int) ≤ (i : Int) := by omega
      clear h hn hnN hnm hi hnc hcm hB hn2 hp
      go_enter Tryz.func51, Tryz.ntmps51
      go_wp2_with fail
      go_ret2
      exact ⟨none, 0, rfl, HMine.nil (Turns.refl _ _)⟩
    · have hz : ((n : Int) == 1) = false := by simp; omega
      have hk1 := mcut_pos n
      have hk2 := mcut_lt n hn2
      have hple := mproof_le hs i (by omega) (by omega)
      have CU := part_any n (by omega) w
      have hml := mproof_left hs i (by omega)
      have hmr := mproof_right hs i (by omega)
      rw [hn] at hml hmr
      obtain ⟨k, hk⟩ : ∃ k, k = mcut n := ⟨_, rfl⟩
      rw [← hk] at hk1 hk2 CU hml hmr
      have hto := h.to (k := k) (by omega)
      have hfr := h.from_ (k := k) (by omega) hn.symm
      have htl : (hs.take k).length = k := by rw [List.length_take]; omega
      have hdl : (hs.drop k).length = n - k := by rw [List.length_drop]; omega
      have HC := Lib.hid CU
      have HT := Lib.hid (And.intro hto (And.intro hfr hB))
      have z2 : (n : Int) ≤ 1000000 := by omega
      have z3 : (k : Int) ≤ (c : Int) := by omega
      have z4 : (k : Int) ≤ (n : Int) := by omega
      obtain ⟨A2, hA2⟩ : ∃ A2, A2 = (if c = k then A else A.map fun x => x.add (k * 32)) := ⟨_, rfl⟩
      rw [← hA2] at HT
      have hsl : ∀ w, (Instr.sliceAt 68 (.slice A n c) (some (.int .i64 (k : Int))) none none).run Tryz.prog w = .ok (.slice A2 (n - k) (c - k)) w := by
        intro w
        rw [hA2]
        go_simp
        intro hh
        omega
      have HA2 := Lib.hid hA2
      clear hfr hA2
      by_cases hik : i < k
      · have IH1 := refProof_in (n - 1) (hs.take k) k i htl (by omega) (by omega) hik A c B
        have IR := refRoot_any (n - 1) (hs.drop k) (n - k) hdl (by omega) (by omega) A2 (c - k) B
        have I1 := Lib.hid IH1
        have I2 := Lib.hid IR
        have hmx := hml hik
        have hl1 : (mproof (hs.take k) i).length ≤ 20 := mproof_le _ _ (by rw [htl]; exact hik) (by rw [htl]; omega)
        have zik : (i : Int) < (k : Int) := by omega
        have HM := Lib.hid (And.intro hmx (And.intro hto.all (And.intro HT.out.2.1.all hl1)))
        generalize mproof hs i = P at HM hple ⊢
        have HP := Lib.hid hple
        clear h hto hn hnN hnm hi hnc hcm hB hn2 hk hk1 hk2 hik htl hdl IH1 IR CU hml hmr hmx hl1 hple
        go_enter Tryz.func51, Tryz.ntmps51
        go_wp2_with fail
        refine HC.out.mono ?_
        rintro e w2 ⟨rfl, rfl⟩
        clear HC
        go_wp2_with fail
        refine (I1.out w HT.out.1 HT.out.2.2).mono ?_
        rintro e w3 ⟨A3, c3, rfl, m3⟩
        have M3 := Lib.hid m3
        clear m3
        go_wp2_with fail
        refine (I2.out w3 (HT.out.2.1.turns M3.out.turns HT.out.2.2 (by simp)) (Nat.le_trans HT.out.2.2 M3.out.turns.size)).mono ?_
        rintro e w4 ⟨rfl, t4⟩
        have hrl := mroot_len (hs.drop k) HM.out.2.2.1
        obtain ⟨v9, w9, hr9, m9⟩ := hmine_push (M3.out.on t4) (by have := HM.out.2.2.2; omega) (mroot (hs.drop k)) hrl 68
        rw [← HM.out.1] at m9
        obtain ⟨A9, c9, rfl, _⟩ := m9.len
        have M9 := Lib.hid m9
        have HRL := Lib.hid hrl
        clear m9 t4 hrl
        go_wp2_with (first
          | (refine wpList_build_hash1 (o := ⟨some 41, _, _, _, _, _⟩) rfl (mroot (hs.drop k)) HRL.out (.tmp 40) rfl (by kernel_rfl) ?_)
          | (at_builtin; refine wpList_append_at rfl (.tmp 36) (.tmp 41) rfl hr9 rfl rfl ?_)
          | fail)
        clear hr9
        go_ret2
        exact ⟨_, _, rfl, M9.out⟩
      · have IH1 := refProof_in (n - 1) (hs.drop k) (n - k) (i - k) hdl (by omega) (by omega) (by omega) A2 (c - k) B
        have IR := refRoot_any (n - 1) (hs.take k) k htl (by omega) (by omega) A c B
        have I1 := Lib.hid IH1
        have I2 := Lib.hid IR
        have hmx := hmr hik
        have hl1 : (mproof (hs.drop k) (i - k)).length ≤ 20 := mproof_le _ _ (by rw [hdl]; omega) (by rw [hdl]; omega)
        have zik : ¬ (i : Int) < (k : Int) := by omega
        have wik : IntKind.i64.wrap ((i : Int) - (k : Int)) = ((i - k : Nat) : Int) := by rw [IntWalk.i64_in _ (by omega)]; omega
        have HM := Lib.hid (And.intro hmx (And.intro hto.all (And.intro HT.out.2.1.all hl1)))
        generalize mproof hs i = P at HM hple ⊢
        have HP := Lib.hid hple
        clear h hto hn hnN hnm hi hnc hcm hB hn2 hk hk1 hk2 hik htl hdl IH1 IR CU hml hmr hmx hl1 hple
        go_enter Tryz.func51, Tryz.ntmps51
        go_wp2_with fail
        refine HC.out.mono ?_
        rintro e w2 ⟨rfl, rfl⟩
        clear HC
        go_wp2_with fail
        refine (I1.out w HT.out.2.1 HT.out.2.2).mono ?_
        rintro e w3 ⟨A3, c3, rfl, m3⟩
        have M3 := Lib.hid m3
        clear m3
        go_wp2_with fail
        refine (I2.out w3 (HT.out.1.turns M3.out.turns HT.out.2.2 (by simp)) (Nat.le_trans HT.out.2.2 M3.out.turns.size)).mono ?_
        rintro e w4 ⟨rfl, t4⟩
        have hrl := mroot_len (hs.take k) HM.out.2.1
        obtain ⟨v9, w9, hr9, m9⟩ := hmine_push (M3.out.on t4) (by have := HM.out.2.2.2; omega) (mroot (hs.take k)) hrl 68
        rw [← HM.out.1] at m9
        obtain ⟨A9, c9, rfl, _⟩ := m9.len
        have M9 := Lib.hid m9
        have HRL := Lib.hid hrl
        clear m9 t4 hrl
        go_wp2_with (first
          | (refine wpList_build_hash1 (o := ⟨some 58, _, _, _, _, _⟩) rfl (mroot (hs.take k)) HRL.out (.tmp 57) rfl (by kernel_rfl) ?_)
          | (at_builtin; refine wpList_append_at rfl (.tmp 53) (.tmp 58) rfl hr9 rfl rfl ?_)
          | fail)
        clear hr9
        go_ret2
        exact ⟨_, _, rfl, M9.out⟩
  termination_by N => N
  decreasing_by all_goals omega
end Go.Proofs.YtoahnhphfabajaaGreat
namespace Go.Proofs.YtoahnhphfabajaaGreat
set_option maxRecDepth 10000
open Go.RowKit
set_option linter.unusedVariables false
set_option linter.unusedSimpArgs false
set_option linter.unnecessarySimpa false

def bools (bs : List Bool) : List Value := bs.map Value.bool
theorem T52 : SliceTy Tryz.prog 148 4 (.bool false) 1 1 := ⟨Tryz.underlying148, by kernel_rfl, rfl, by omega⟩
structure BMine (W0 w : World) (v : Value) (bs : List Bool) : Prop where
  own : w.ownsRow W0.heap.size 4 1 v bs.length (bools bs)
  turns : Turns [] W0 w
theorem BMine.nil {W0 w : World} (t : Turns [] W0 w) : BMine W0 w (.slice none 0 0) [] := ⟨World.ownsRow_nil _ _ _ _, t⟩
theorem BMine.len {W0 w : World} {v : Value} {bs : List Bool} (h : BMine W0 w v bs) : ∃ A c, v = .slice A bs.length c ∧ bs.length ≤ c := by
  obtain ⟨_, A, c, rfl, h1, _⟩ := Sl.of_own h.own
  exact ⟨A, c, rfl, h1⟩
theorem bmine_push {W0 w : World} {v : Value} {bs : List Bool} (h : BMine W0 w v bs) (hm : bs.length ≤ 1000000) (x : Bool) (ty : TypeId) :
    ∃ v' w', (Builtin.append_ #[148, 148] ty #[v, .slice (some ⟨w.heap.size, 0, none⟩) 1 1]).run Tryz.prog (w.alloc (.cells #[.bool x] 4)) = .ok v' w' ∧ BMine W0 w' v' (bs ++ [x]) := by
  obtain ⟨v1, w1, hr1, ap1⟩ := run_append_rd (P := Tryz.prog) _ T52 ty (h.own.alloc (.cells #[.bool x] 4)) (Sl.new w #[.bool x] 4 1 1 rfl (by simp [maxLen])) (by intro u hu; simp at hu; subst hu; rfl) (by simp only [maxLen]; omega) (by omega) (by simp; exact Nat.le_succ_of_le h.turns.size)
  refine ⟨v1, w1, hr1, ?_⟩
  have e : bools bs ++ (#[Value.bool x] : Array Value).toList = bools (bs ++ [x]) := by simp [bools]
  rw [e] at ap1
  have hl : (bs ++ [x]).length = bs.length + 1 := by simp
  refine ⟨by rw [hl]; exact ap1.own, ?_⟩
  exact (h.turns.alloc (.cells #[.bool x] 4)).trans (L' := v.ownBlock.toList) (Turns.of_grown ap1.grown (by intro k hk; exact .inl (by simpa using hk))) (by intro y hy; exact .inr (h.own.lt y (by simpa using hy)).1)

/-- The row with its first k and its last k turned about. -/
def RevP (bs L : List Bool) (k : Nat) : Prop := L.length = bs.length ∧ ∀ j, j < bs.length → L[j]? = if j < k ∨ bs.length - k ≤ j then bs[bs.length - 1 - j]? else bs[j]?
theorem RevP.zero (bs : List Bool) : RevP bs bs 0 := ⟨rfl, fun j hj => by rw [if_neg (by omega)]⟩
theorem RevP.step {bs L : List Bool} {k : Nat} (h : RevP bs L k) (hk : k < bs.length - 1 - k) (hn : 0 < bs.length) {x y : Bool} (hx : L[k]? = some x) (hy : L[bs.length - 1 - k]? = some y) : RevP bs ((L.set k y).set (bs.length - 1 - k) x) (k + 1) := by
  have hx0 := h.2 k (by omega)
  have hy0 := h.2 (bs.length - 1 - k) (by omega)
  rw [if_neg (by omega)] at hx0 hy0
  refine ⟨by simp [h.1], fun j hj => ?_⟩
  by_cases e1 : j = bs.length - 1 - k
  · subst e1
    rw [List.getElem?_set_self (by simp [h.1]; omega), if_pos (by omega), ← hx, hx0]
    congr 1; omega
  · rw [List.getElem?_set_ne (fun e => e1 e.symm)]
    by_cases e2 : j = k
    · subst e2
      rw [List.getElem?_set_self (by rw [h.1]; omega), if_pos (by omega), ← hy, hy0]
    · rw [List.getElem?_set_ne (fun e => e2 e.symm), h.2 j hj]
      by_cases e3 : j < k ∨ bs.length - k ≤ j
      · rw [if_pos e3, if_pos (by omega)]
      · rw [if_neg e3, if_neg (by omega)]
theorem RevP.done {bs L : List Bool} {k : Nat} (h : RevP bs L k) (hk : bs.length ≤ 2 * k + 1) : L = bs.reverse := by
  apply List.ext_getElem?
  intro j
  by_cases hj : j < bs.length
  · rw [h.2 j hj, List.getElem?_reverse hj]
    by_cases e : j < k ∨ bs.length - k ≤ j
    · rw [if_pos e]
    · rw [if_neg e]
      congr 1; omega
  · rw [List.getElem?_eq_none (by rw [h.1]; omega), List.getElem?_eq_none (by simp; omega)]

set_option maxRecDepth 100000 in
set_option maxHeartbeats 2000000 in
theorem Reverse_zero (A : Option Addr) (c : Nat) (w : World) : Calls Tryz.prog 102 #[.slice A 0 c] w fun e w' => e = .returned (.tuple #[]) ∧ w = w' := by
  go_enter Tryz.func102, Tryz.ntmps102
  go_wp2_with fail
  go_loop [2, 3] (fun i j => i = .int .i64 0 ∧ j = .int .i64 (-1)) (fun _ _ => 0)
  case atStart => exact ⟨rfl, rfl⟩
  case round =>
    obtain ⟨rfl, rfl⟩ := hrel
    go_wp2_with fail
    go_end0
    exact ⟨rfl, rfl⟩
/-- The cells of a row of bools. -/
def BCells (w : World) (g : Nat) (bs : List Bool) : Prop := ∀ j x, bs[j]? = some x → w.cell? ⟨g, j, none⟩ = some (.bool x) ∧ w.frozen? ⟨g, j, none⟩ = false
theorem BCells.set {w : World} {g : Nat} {L : List Bool} (h : BCells w g L) (k : Nat) (hk : k < L.length) (x : Bool) : BCells (w.setCell ⟨g, k, none⟩ (.bool x)) g (L.set k x) := by
  intro j y hy
  by_cases e : k = j
  · subst e
    rw [List.getElem?_set_self hk] at hy
    injection hy with hy
    subst hy
    have := h k _ (List.getElem?_eq_getElem hk)
    exact ⟨World.cell?_setCell_same _ _ _ this.1, by rw [World.frozen?_setCell]; exact this.2⟩
  · rw [List.getElem?_set_ne e] at hy
    have := h j y hy
    exact ⟨by rw [World.cell?_setCell_other _ _ _ _ (by simp <;> omega)]; exact this.1, by rw [World.frozen?_setCell]; exact this.2⟩

set_option maxRecDepth 100000 in
set_option maxHeartbeats 2000000 in
theorem Reverse_any (g n c : Nat) (bs : List Bool) (hn : bs.length = n) (h0 : 0 < n) (hm : n ≤ 1000) (w : World) (h : BCells w g bs) :
    Calls Tryz.prog 102 #[.slice (some ⟨g, 0, none⟩) n c] w fun e w' => e = .returned (.tuple #[]) ∧ BCells w' g bs.reverse ∧ Turns [g] w w' := by
  have hni : (n : Int) ≤ 1000 := by omega
  have H0 := Lib.hid (And.intro hn h)
  clear h hn
  go_enter Tryz.func102, Tryz.ntmps102
  go_wp2_with fail
  go_loopw [2, 3] (fun i j wr => ∃ (k : Nat) (L : List Bool), 2 * k ≤ n + 1 ∧ i = .int .i64 k ∧ j = .int .i64 ((n : Int) - 1 - (k : Int)) ∧ RevP bs L k ∧ BCells wr g L ∧ Turns [g] w wr) (fun i j _ => (intOf j - intOf i + 2).toNat)
  case atStart => exact ⟨0, bs, by omega, rfl, by go_num, RevP.zero bs, H0.out.2, Turns.refl _ _⟩
  case round =>
    obtain ⟨k, L, hk2, rfl, rfl, hrev, hc, td⟩ := hrel
    have hbl := H0.out.1
    by_cases hlt : (k : Int) < (n : Int) - 1 - (k : Int)
    · have hk1 : k < L.length := by rw [hrev.1]; omega
      have hk3 : bs.length - 1 - k < L.length := by rw [hrev.1]; omega
      obtain ⟨x, hx⟩ : ∃ x, L[k]? = some x := ⟨_, List.getElem?_eq_getElem hk1⟩
      obtain ⟨y, hy⟩ : ∃ y, L[bs.length - 1 - k]? = some y := ⟨_, List.getElem?_eq_getElem hk3⟩
      have hst := hrev.step (by omega) (by omega) hx hy
      have hb1 := hc.set k hk1 y
      have hb2 := hb1.set (bs.length - 1 - k) (by simpa using hk3) x
      obtain ⟨cx, fx⟩ := hc _ _ hx
      obtain ⟨cy, fy⟩ := hc _ _ hy
      obtain ⟨m, hmm⟩ : ∃ m, m = bs.length - 1 - k := ⟨_, rfl⟩
      rw [← hmm] at cy fy hst hb2
      have hT : Turns [] wr wr.drew := (Turns.refl _ _).drew
      have em : (n : Int) - 1 - (k : Int) = (m : Int) := by omega
      have hmn : (m : Int) < (n : Int) := by omega
      have hkn : (k : Int) < (n : Int) := by omega
      have hkm : k ≠ m := by omega
      have HB := Lib.hid (And.intro hb2 (And.intro hst td))
      have HE := Lib.hid em
      have hlt' : (k : Int) < (m : Int) := by omega
      clear hb1 hb2 hst td hx hy hrev hc hk1 hk3 hbl
      rw [em]
      clear hlt em
      have HK := Lib.hid hk2
      have HM := Lib.hid hmm
      clear hmm hk2
      go_upto_region 3 with fail
      refine rk0 (fun _ => True) (fun W => Turns [] wr W) 13 16 ?_
      refine rkA 0 14 1 (v := ?_) ?_ (.mk' trivial hT) ?_
      rotate_left
      · intro W hS; go_simp; all_goals with_reducible rfl
      try simp only [sI, sS, sZ]
      refine rkA 1 15 3 (v := ?_) ?_ (.mk' trivial hT) ?_
      rotate_left
      · intro W hS; go_simp; all_goals with_reducible rfl
      try simp only [sI, sS, sZ]
      refine rkA 2 16 7 (v := ?_) ?_ (.mk' trivial hT) ?_
      rotate_left
      · intro W hS; go_simp; all_goals with_reducible rfl
      try simp only [sI, sS, sZ]
      refine rkA 3 17 15 (v := ?_) ?_ (.mk' trivial hT) ?_
      rotate_left
      · intro W hS; go_simp; all_goals with_reducible rfl
      try simp only [sI, sS, sZ]
      refine rkA 4 18 31 (v := ?_) ?_ (.mk' trivial hT) ?_
      rotate_left
      · intro W hS; go_simp; all_goals with_reducible rfl
      try simp only [sI, sS, sZ]
      refine rkA 5 19 63 (v := ?_) ?_ (.mk' trivial hT) ?_
      rotate_left
      · intro W hS; go_simp; all_goals with_reducible rfl
      try simp only [sI, sS, sZ]
      refine rkA 6 20 127 (v := ?_) ?_ (.mk' trivial hT) ?_
      rotate_left
      · intro W hS; go_simp; all_goals with_reducible rfl
      try simp only [sI, sS, sZ]
      refine rkT 7 21 255 (v := ?_) ?_ (.mk' trivial hT) ?_
      rotate_left
      · rintro W ⟨-, hS⟩; have c2 := cellL hS cy (by simp); go_simp; all_goals with_reducible rfl
      try simp only [sI, sS, sZ]
      refine rkA 8 22 511 (v := ?_) ?_ (.mk' trivial hT) ?_
      rotate_left
      · intro W hS; go_simp; all_goals with_reducible rfl
      try simp only [sI, sS, sZ]
      refine rkA 9 23 1023 (v := ?_) ?_ (.mk' trivial hT) ?_
      rotate_left
      · intro W hS; go_simp; all_goals with_reducible rfl
      try simp only [sI, sS, sZ]
      refine rkA 10 24 2047 (v := ?_) ?_ (.mk' trivial hT) ?_
      rotate_left
      · intro W hS; go_simp; all_goals with_reducible rfl
      try simp only [sI, sS, sZ]
      refine rkT 11 25 4095 (v := ?_) ?_ (.mk' trivial hT) ?_
      rotate_left
      · rintro W ⟨-, hS⟩; have c2 := cellL hS cx (by simp); go_simp; all_goals with_reducible rfl
      try simp only [sI, sS, sZ]
      refine rkA 12 26 8191 (v := ?_) ?_ (.mk' trivial hT) ?_
      rotate_left
      · intro W hS; go_simp; all_goals with_reducible rfl
      try simp only [sI, sS, sZ]
      refine rk1 13 16383 (fun K hK => ?_)
      go_simp
      refine hK _ _ (.p trivial) ?_
      clear hK K
      try simp only [sI, sS, sZ]
      refine rkA 14 27 32767 (v := ?_) ?_ (.p trivial) ?_
      rotate_left
      · intro W hS; go_simp; all_goals with_reducible rfl
      try simp only [sI, sS, sZ]
      refine rk1 15 65535 (fun K hK => ?_)
      go_simp
      refine hK _ _ (.p trivial) ?_
      clear hK K
      try simp only [sI, sS, sZ]
      refine rkZ ?_
      have hF := Lib.hid (And.intro HB.out.1 (And.intro HB.out.2.1 (((HB.out.2.2.setCell (p := ⟨g, k, none⟩) (.inl (by simp)) (.bool y)).setCell (p := ⟨g, m, none⟩) (.inl (by simp)) (.bool x)).drew)))
      go_wp2_with fail
      have hmm := HM.out
      have hbl := H0.out.1
      have hk2 := HK.out
      go_roundw
      case rel => exact ⟨k + 1, _, by omega, by go_num, by congr 1; omega, hF.out.2.1, fun j z hz => hF.out.1 j z hz, hF.out.2.2⟩
      case measure => (simp [intOf] <;> omega)
    · rw [hrev.done (by omega)] at hc
      have hF := Lib.hid (And.intro hc td)
      have hlt2 : ¬ (k : Int) < (n : Int) - 1 - (k : Int) := hlt
      clear hc td hrev
      go_wp2_with fail
      go_end0
      exact ⟨rfl, hF.out⟩
end Go.Proofs.YtoahnhphfabajaaGreat
namespace Go.Proofs.YtoahnhphfabajaaGreat
set_option maxRecDepth 10000
open Go.RowKit
set_option linter.unusedVariables false
set_option linter.unusedSimpArgs false
set_option linter.unnecessarySimpa false

/-- A row of bools that reads so. -/
def BRead (w : World) (lo : Nat) (A : Option Addr) (bs : List Bool) : Prop := bs ≠ [] → ∃ g, A = some ⟨g, 0, none⟩ ∧ lo ≤ g ∧ g < w.heap.size ∧ BCells w g bs
set_option maxRecDepth 100000 in
set_option maxHeartbeats 2000000 in
theorem turns_any (i n : Nat) (hi : i < n) (hn : n ≤ 1048576) (w : World) :
    Calls Tryz.prog 82 #[.int .i64 i, .int .i64 n] w fun e w' => ∃ A c, e = .returned (.slice A (mway i n).length c) ∧ (mway i n).length ≤ c ∧ BRead w' w.heap.size A (mway i n).reverse ∧ Turns [] w w' := by
  have hl20 := mway_le 20 n i (by omega)
  obtain ⟨W, hW⟩ : ∃ W, W = mway i n := ⟨_, rfl⟩
  rw [← hW] at hl20 ⊢
  have H0 := Lib.hid (And.intro hW (And.intro hi (And.intro hn hl20)))
  clear hW hi hn hl20
  go_enter Tryz.func82, Tryz.ntmps82
  go_wp2_with fail
  go_loopw [0, 1, 5] (fun u0 u1 v wr => ∃ (j m : Nat) (d : List Bool) (A : Option Addr) (c : Nat), u0 = .int .i64 j ∧ u1 = .int .i64 m ∧ v = .slice A d.length c ∧ BMine w wr (.slice A d.length c) d ∧ d ++ mway j m = W ∧ j < m ∧ m ≤ 1048576) (fun _ u1 _ _ => (intOf u1).toNat)
  case atStart => exact ⟨i, n, [], none, 0, rfl, rfl, rfl, BMine.nil (Turns.refl _ _), by rw [List.nil_append]; exact H0.out.1.symm, H0.out.2.1, H0.out.2.2.1⟩
  case round =>
    obtain ⟨j, m, d, A, c, rfl, rfl, rfl, hb, hd, hj, hm⟩ := hrel
    have hdl : d.length ≤ 20 := by have := congrArg List.length hd; simp at this; have := H0.out.2.2.2; omega
    by_cases hm2 : 1 < m
    · have CU := Lib.hid (cut_any m (by omega) wr)
      have hk1 := mcut_pos m
      have hk2 := mcut_lt m (by omega)
      have hml := mway_left j m (by omega)
      have hmr := mway_right j m (by omega)
      obtain ⟨k, hk⟩ : ∃ k, k = mcut m := ⟨_, rfl⟩
      rw [← hk] at CU hk1 hk2 hml hmr
      have zm : (1 : Int) < (m : Int) := by omega
      have zmb : (m : Int) ≤ 1048576 := by omega
      by_cases hjk : j < k
      · have zjk : (j : Int) < (k : Int) := by omega
        rw [hml hjk] at hd
        obtain ⟨v2, w2, hr2, m2⟩ := bmine_push hb (by omega) false 148
        obtain ⟨A2, c2, rfl, _⟩ := m2.len
        rw [show (d ++ [false]).length = d.length + 1 by simp] at hr2 m2
        have hF := Lib.hid (And.intro m2 (And.intro (show (d ++ [false]) ++ mway j k = W by rw [← hd]; simp) (And.intro hjk (And.intro hk2 hm))))
        have z1 : decide (k ≤ j) = false := by simpa using hjk
        clear hb hd hj hm hm2 hml hmr hk m2 hjk hk1 hk2
        go_wp2_with fail
        refine CU.out.mono ?_
        rintro e w3 ⟨rfl, rfl⟩
        clear CU
        go_wp2_with (at_builtin; refine wpList_append_at rfl (.tmp 11) (.tmp 15) rfl hr2 rfl rfl ?_)
        clear hr2
        have hk2 := hF.out.2.2.2.1
        have hm := hF.out.2.2.2.2
        go_roundw
        case rel => exact ⟨j, k, d ++ [false], A2, c2, rfl, rfl, by simp, by simpa using hF.out.1, hF.out.2.1, hF.out.2.2.1, by omega⟩
        case measure => (simp [intOf] <;> omega)
      · have zjk : ¬ (j : Int) < (k : Int) := by omega
        rw [hmr hjk] at hd
        obtain ⟨v2, w2, hr2, m2⟩ := bmine_push hb (by omega) true 148
        obtain ⟨A2, c2, rfl, _⟩ := m2.len
        rw [show (d ++ [true]).length = d.length + 1 by simp] at hr2 m2
        have hF := Lib.hid (And.intro m2 (And.intro (show (d ++ [true]) ++ mway (j - k) (m - k) = W by rw [← hd]; simp) (And.intro (show j - k < m - k by omega) (And.intro hk2 (And.intro hm (And.intro hk1 (show k ≤ j by omega)))))))
        have z1 : decide (k ≤ j) = true := by simp; omega
        have w1 : IntKind.i64.wrap ((j : Int) - (k : Int)) = ((j - k : Nat) : Int) := by rw [IntWalk.i64_in _ (by omega)]; omega
        have w2' : IntKind.i64.wrap ((m : Int) - (k : Int)) = ((m - k : Nat) : Int) := by rw [IntWalk.i64_in _ (by omega)]; omega
        clear hb hd hj hm hm2 hml hmr hk m2 hjk hk1 hk2
        go_wp2_with fail
        refine CU.out.mono ?_
        rintro e w3 ⟨rfl, rfl⟩
        clear CU
        go_wp2_with (at_builtin; refine wpList_append_at rfl (.tmp 11) (.tmp 15) rfl hr2 rfl rfl ?_)
        clear hr2
        have hk2 := hF.out.2.2.2.1
        have hm := hF.out.2.2.2.2
        go_roundw
        case rel => exact ⟨j - k, m - k, d ++ [true], A2, c2, rfl, rfl, by simp, by simpa using hF.out.1, hF.out.2.1, hF.out.2.2.1, by omega⟩
        case measure => (simp [intOf] <;> omega)
    · obtain rfl : m = 1 := by omega
      obtain rfl : j = 0 := by omega
      rw [mway_few 0 1 (by omega), List.append_nil] at hd
      subst hd
      have z1 : ¬ (1 : Int) < 1 := by omega
      have hlen := hb.len
      obtain ⟨A0, c0, hv, hc0⟩ := hlen
      injection hv with e1 e2 e3
      subst e1 e3
      clear e2
      rcases Nat.eq_zero_or_pos d.length with h0 | h0
      · have hd0 : d = [] := List.eq_nil_of_length_eq_zero h0
        have RV := Lib.hid (Reverse_zero A c wr)
        have HT := Lib.hid hb.turns
        subst hd0
        clear hb hj hm hm2 hdl h0 H0
        simp only [List.length_nil]
        go_wp2_with fail
        refine RV.out.mono ?_
        rintro e w3 ⟨rfl, rfl⟩
        clear RV
        go_wp2_with fail
        go_ret
        exact ⟨A, c, rfl, Nat.zero_le _, fun h => absurd rfl h, HT.out⟩
      · obtain ⟨g, c1, hv, hc1, _, hg1, hg2, hcell⟩ := own_cells hb.own h0
        injection hv with e1 e2 e3
        subst e1 e3
        clear e2
        have hBC : BCells wr g d := fun j x hx => hcell j (.bool x) (by simp [bools, hx])
        have RV := Lib.hid (Reverse_any g d.length c d rfl h0 (by omega) wr hBC)
        have HT := Lib.hid (And.intro hb.turns (And.intro hg1 (And.intro hg2 hc0)))
        obtain ⟨L, hL⟩ : ∃ L, L = d.length := ⟨_, rfl⟩
        have HL := Lib.hid hL
        rw [← hL] at RV
        simp only [← hL] at h0 ⊢
        clear hb hj hm hm2 hdl hcell hBC H0 hc0 hg1 hg2 hL
        go_wp2_with fail
        refine RV.out.mono ?_
        rintro e w3 ⟨rfl, hbc, t3⟩
        have HR := Lib.hid (And.intro hbc t3)
        clear RV hbc t3
        go_wp2_with fail
        go_ret
        have hT := HT.out
        have hLL := HL.out
        refine ⟨some ⟨g, 0, none⟩, c, by subst hLL; rfl, by omega, fun _ => ⟨g, rfl, hT.2.1, Nat.lt_of_lt_of_le hT.2.2.1 HR.out.2.size, HR.out.1⟩, hT.1.trans HR.out.2 (by intro x hx; simp at hx; subst hx; exact .inr hT.2.1)⟩
end Go.Proofs.YtoahnhphfabajaaGreat
namespace Go.Proofs.YtoahnhphfabajaaGreat
set_option maxRecDepth 10000
open Go.RowKit
set_option linter.unusedVariables false
set_option linter.unusedSimpArgs false
set_option linter.unnecessarySimpa false

def mcheckZ (root leaf : List UInt8) (i n : Int) (p : List (List UInt8)) : Bool := if n ≤ 1048576 ∧ 0 ≤ i ∧ i < n then mcheck root leaf i.toNat n.toNat p else false
theorem fold2_len (h : List UInt8) (hh : h.length = 32) (z : List (Bool × List UInt8)) : (fold2 h z).length = 32 := by
  rcases List.eq_nil_or_concat z with rfl | ⟨z', q, rfl⟩
  · exact hh
  · rw [List.concat_eq_append, fold2_snoc]
    split <;> exact twoH_len _ _
theorem two_boxes (w : World) (a b : List UInt8) (t : TypeId) : Blk ((w.alloc (.cells (bvs a).toArray t)).alloc (.cells (bvs b).toArray t)) w.heap.size (bvs a) t ∧ Blk ((w.alloc (.cells (bvs a).toArray t)).alloc (.cells (bvs b).toArray t)) (w.heap.size + 1) (bvs b) t ∧ Turns [] w ((w.alloc (.cells (bvs a).toArray t)).alloc (.cells (bvs b).toArray t)) := by
  refine ⟨(Blk.new w (bvs a) t).alloc _, ?_, ((Turns.refl [] w).alloc _).alloc _⟩
  have := Blk.new (w.alloc (.cells (bvs a).toArray t)) (bvs b) t
  rwa [World.size_alloc] at this
set_option maxRecDepth 100000 in
set_option maxHeartbeats 2000000 in
theorem Check_out (f : FuncId) (root leaf : List UInt8) (i n : Int) (hin : 1048576 < n ∨ i < 0 ∨ n ≤ i) (v : Value) (w : World) :
    Calls Tryz.prog 56 #[.agg (bvs root).toArray, .agg (bvs leaf).toArray, .int .i64 i, .int .i64 n, v] w fun e w' => e = .returned (.bool false) ∧ Turns [] w w' := by
  have HT := Lib.hid (two_boxes w root leaf 53).2.2
  by_cases h1 : 1048576 < n
  · clear hin
    go_enter Tryz.func56, Tryz.ntmps56
    go_wp2_with fail
    go_ret
    exact ⟨rfl, HT.out⟩
  · by_cases h2 : i < 0
    · clear hin
      go_enter Tryz.func56, Tryz.ntmps56
      go_wp2_with fail
      go_ret
      exact ⟨rfl, HT.out⟩
    · have h3 : n ≤ i := by omega
      clear hin
      go_enter Tryz.func56, Tryz.ntmps56
      go_wp2_with fail
      go_ret
      exact ⟨rfl, HT.out⟩

set_option maxRecDepth 100000 in
set_option maxHeartbeats 4000000 in
theorem Check_in (root leaf : List UInt8) (hr : root.length = 32) (hf : leaf.length = 32) (i n : Nat) (hi : i < n) (hn : n ≤ 1048576) (p : List (List UInt8)) (m : Nat) (hpm : p.length = m) (hm : m ≤ 1000) (A : Option Addr) (c B : Nat) (w : World) (h : Hs w B (.slice A m c) p) (hB : B ≤ w.heap.size) :
    Calls Tryz.prog 56 #[.agg (bvs root).toArray, .agg (bvs leaf).toArray, .int .i64 i, .int .i64 n, .slice A m c] w fun e w' => e = .returned (.bool (mcheck root leaf i n p)) ∧ Turns [] w w' := by
  obtain ⟨res, hres⟩ : ∃ r, r = mcheck root leaf i n p := ⟨_, rfl⟩
  rw [← hres]
  have HRES := Lib.hid hres
  obtain ⟨b5, b6, tx⟩ := two_boxes w root leaf 53
  obtain ⟨X0, hX0⟩ : ∃ x, x = (w.alloc (.cells (bvs root).toArray 53)).alloc (.cells (bvs leaf).toArray 53) := ⟨_, rfl⟩
  rw [← hX0] at b5 b6 tx
  have TU := Lib.hid (turns_any i n hi hn X0)
  have hl20 := mway_le 20 n i (by omega)
  obtain ⟨W, hW⟩ : ∃ W, W = mway i n := ⟨_, rfl⟩
  rw [← hW] at TU hl20
  have z1 : ¬ (1048576 : Int) < (n : Int) := by omega
  have z2 : ¬ (i : Int) < 0 := by omega
  have z3 : ¬ (n : Int) ≤ (i : Int) := by omega
  have HX := Lib.hid hX0
  have H0 := Lib.hid (And.intro b5 (And.intro b6 (And.intro tx (And.intro h (And.intro hB (And.intro hr (And.intro hf (And.intro hW (And.intro hpm (And.intro hm hl20))))))))))
  obtain ⟨p5, hp5⟩ : ∃ q, q = w.heap.size := ⟨_, rfl⟩
  obtain ⟨p6, hp6⟩ : ∃ q, q = w.heap.size + 1 := ⟨_, rfl⟩
  rw [← hp6, ← hp5] at H0
  have HP := Lib.hid (And.intro hp5 hp6)
  have hmi : (m : Int) ≤ 1000 := by omega
  obtain ⟨q, hq⟩ : ∃ q, q = W.length := ⟨_, rfl⟩
  rw [← hq] at TU
  have HQ := Lib.hid hq
  clear hres b5 b6 tx hX0 hW hi hn hpm hm hr hf h hB hp5 hp6 hl20 hq
  go_enter Tryz.func56, Tryz.ntmps56
  go_wp2_with fail
  rw [← HX.out, ← HP.out.2, ← HP.out.1]
  refine TU.out.mono ?_
  rintro e X1 ⟨A2, c2, rfl, hc2, hbr, t2⟩
  have HB := Lib.hid (And.intro hbr (And.intro t2 hc2))
  have hqq := HQ.out
  have hq20 : q ≤ 20 := by have := H0.out.2.2.2.2.2.2.2.2.2.2; omega
  have hqi : (q : Int) ≤ 20 := by omega
  clear TU hbr t2 hc2
  by_cases hne : q = m
  · subst hne
    have zz : (q != q) = false := by simp
    clear hqq hq20
    go_wp2_with fail
    go_loopw [34] (fun u wr => ∃ k : Nat, k ≤ q ∧ u = .int .i64 k ∧ Blk wr p6 (bvs (fold2 leaf ((W.reverse.zip p).take k))) 53 ∧ Turns [p6] X1 wr) (fun u _ => q - (intOf u).toNat)
    case atStart => exact ⟨0, by omega, rfl, by simpa [fold2] using H0.out.2.1.turns HB.out.2.1 (by simp), Turns.refl _ _⟩
    case round =>
      obtain ⟨k, hk, rfl, v6, td⟩ := hrel
      obtain ⟨hb5, hb6, htx, hhs, hB, hr, hf, hW, hpm, hm, hl20⟩ := H0.out
      by_cases hlt : k < q
      · have hki : (k : Int) < (q : Int) := by omega
        have hkr : k < W.reverse.length := by simp; have := HQ.out; omega
        have hkp : k < p.length := by omega
        have hkz : k < (W.reverse.zip p).length := by simp; have := HQ.out; omega
        have hstep : (W.reverse.zip p).take (k + 1) = (W.reverse.zip p).take k ++ [(W.reverse[k], p[k])] := by
          rw [List.take_succ_eq_append_getElem hkz]; simp
        have hWne : W.reverse ≠ [] := by intro h; rw [h] at hkr; simp at hkr
        obtain ⟨g, rfl, hglo, hg, hbc⟩ := HB.out.1 hWne
        have cb := (hbc k _ (List.getElem?_eq_getElem hkr)).1
        obtain ⟨b0, off, rfl, hb0, r0⟩ := hhs.at_ (i := k) hkp
        have hpl := hhs.all _ (List.getElem_mem hkp)
        obtain ⟨b, hbb⟩ : ∃ b, b = W.reverse[k] := ⟨_, rfl⟩
        obtain ⟨x, hxx⟩ : ∃ x, x = p[k] := ⟨_, rfl⟩
        rw [← hbb, ← hxx] at hstep
        rw [← hbb] at cb
        rw [← hxx] at r0 hpl
        have hfl := fold2_len leaf hf ((W.reverse.zip p).take k)
        have hfs := fold2_snoc leaf ((W.reverse.zip p).take k) (b, x)
        rw [← hstep] at hfs
        obtain ⟨y, hy⟩ : ∃ y, y = fold2 leaf ((W.reverse.zip p).take k) := ⟨_, rfl⟩
        rw [← hy] at v6 hfl hfs
        have hgp6 : g ≠ p6 := by have := hb6.lt; omega
        have hb06 : b0 ≠ p6 := by have := HP.out; omega
        have cb := cellL td cb (by simpa using hgp6)
        have r0 := rangeT td (rangeT HB.out.2.1 (rangeT htx r0 (by simp)) (by simp)) (by simpa using hb06)
        have r6 := v6.range 0 32
        have hyl : (bvs y).length = 32 := by rw [bvs_length, hfl]
        rw [List.drop_zero, List.take_of_length_le (by omega)] at r6
        have HF := Lib.hid (And.intro v6 (And.intro td (And.intro r0 (And.intro r6 (And.intro hfs (And.intro hfl hpl))))))
        have hsx := Lib.hid (show (Tryz.prog.info? 53).map (·.size) = some (bvs x).length by rw [size_hash, bvs_length, hpl])
        have hsy := Lib.hid (show (Tryz.prog.info? 53).map (·.size) = some (bvs y).length by rw [size_hash, hyl])
        have hlt6 := v6.lt
        have HL6 := Lib.hid hlt6
        clear hkr hkp hkz hstep hWne hg hglo hbc r0 r6 hpl hbb hxx hfl hy v6 td hgp6 hb06 hb0 hhs hb5 hb6 htx hB hr hf hW hpm hm hl20 hyl hlt6 hlt hk
        have hT : Turns [] wr wr.drew := (Turns.refl _ _).drew
        cases b with
        | true =>
          rw [if_pos rfl] at hfs
          have HFS := Lib.hid hfs
          clear hfs
          go_upto_region 10 with fail
          refine rk0 (fun _ => True) (fun W => Turns [] wr W) 7 8 ?_
          refine rkA 0 41 1 (v := ?_) ?_ (.mk' trivial hT) ?_
          rotate_left
          · intro W hS; go_simp; all_goals with_reducible rfl
          try simp only [sI, sS, sZ]
          refine rkA 1 42 3 (v := ?_) ?_ (.mk' trivial hT) ?_
          rotate_left
          · intro W hS; go_simp; all_goals with_reducible rfl
          try simp only [sI, sS, sZ]
          refine rkA 2 43 7 (v := ?_) ?_ (.mk' trivial hT) ?_
          rotate_left
          · intro W hS; go_simp; all_goals with_reducible rfl
          try simp only [sI, sS, sZ]
          refine rkW 3 44 15 rfl (yieldsIf_load_mid (by rfl) _ _ rfl b0 (off + k * 32) (by rfl) (bvs x) _ (fun W hS => rangeT hS.2 HF.out.2.2.1 (by simp)) Tryz.underlying53 rfl hsx.out) (.mk' trivial hT) ?_
          try simp only [sI, sS, sZ]
          refine rkW 4 45 31 rfl (yieldsIf_load_mid (by rfl) _ _ rfl p6 0 (by rfl) (bvs y) _ (fun W hS => rangeT hS.2 HF.out.2.2.2.1 (by simp)) Tryz.underlying53 rfl hsy.out) (.mk' trivial hT) ?_
          try simp only [sI, sS, sZ]
          refine rk1 5 63 (fun K hK => ?_)
          refine wp_build_hash1 y HF.out.2.2.2.2.2.1 (.tmp 45) (by rfl) (by rfl) ?_
          refine hK _ _ (.mk' trivial (hT.alloc _)) ?_
          clear hK K
          try simp only [sI, sS, sZ]
          refine rk1 6 127 (fun K hK => ?_)
          go_simp
          refine (joined_any x y HF.out.2.2.2.2.2.2 _ _ _ _ (Hs.one wr.drew y HF.out.2.2.2.2.2.1 _) (by simp)).mono ?_
          rintro e w5 ⟨rfl, t5⟩
          have t5 : Turns [] wr.drew w5 := ((Turns.refl [] wr.drew).alloc _).trans t5 (by simp)
          refine hK _ _ (.mk' trivial (hT.trans t5 (by simp))) ?_
          clear hK K
          try simp only [sI, sS, sZ]
          refine rk1 7 255 (fun K hK => ?_)
          refine wp_store_blk 53 _ _ (by rfl) p6 (by rfl) (bvs (twoH x y)) (bvs y) 53 (by rfl) ((HF.out.1.turns hT (by simp)).turns t5 (by simp)) (by rw [bvs_length, bvs_length, HF.out.2.2.2.2.2.1, twoH_len]) (by rw [size_hash, bvs_length, twoH_len]) (bvs_one _) (fun w7 hb7 ht7 => ?_)
          refine hK _ _ (.p trivial) ?_
          clear hK K
          try simp only [sI, sS, sZ]
          refine rkZ ?_
          have HN := Lib.hid (And.intro hb7 ((hT.trans t5 (by simp)).mono (L' := [p6]) (by simp) |>.trans ht7 (by simp)))
          clear hb7 ht7 t5
          go_wp2_with fail
          go_roundw
          case rel => exact ⟨k + 1, by omega, by go_num, by rw [HFS.out]; exact HN.out.1, HF.out.2.1.trans HN.out.2 (by simp)⟩
          case measure => (simp [intOf] <;> omega)
        | false =>
          rw [if_neg (by simp)] at hfs
          have HFS := Lib.hid hfs
          clear hfs
          go_upto_region 11 with fail
          refine rk0 (fun _ => True) (fun W => Turns [] wr W) 7 8 ?_
          refine rkW 0 48 1 rfl (yieldsIf_load_mid (by rfl) _ _ rfl p6 0 (by rfl) (bvs y) _ (fun W hS => rangeT hS.2 HF.out.2.2.2.1 (by simp)) Tryz.underlying53 rfl hsy.out) (.mk' trivial hT) ?_
          try simp only [sI, sS, sZ]
          refine rkA 1 49 3 (v := ?_) ?_ (.mk' trivial hT) ?_
          rotate_left
          · intro W hS; go_simp; all_goals with_reducible rfl
          try simp only [sI, sS, sZ]
          refine rkA 2 50 7 (v := ?_) ?_ (.mk' trivial hT) ?_
          rotate_left
          · intro W hS; go_simp; all_goals with_reducible rfl
          try simp only [sI, sS, sZ]
          refine rkA 3 51 15 (v := ?_) ?_ (.mk' trivial hT) ?_
          rotate_left
          · intro W hS; go_simp; all_goals with_reducible rfl
          try simp only [sI, sS, sZ]
          refine rkW 4 52 31 rfl (yieldsIf_load_mid (by rfl) _ _ rfl b0 (off + k * 32) (by rfl) (bvs x) _ (fun W hS => rangeT hS.2 HF.out.2.2.1 (by simp)) Tryz.underlying53 rfl hsx.out) (.mk' trivial hT) ?_
          try simp only [sI, sS, sZ]
          refine rk1 5 63 (fun K hK => ?_)
          refine wp_build_hash1 x HF.out.2.2.2.2.2.2 (.tmp 52) (by rfl) (by rfl) ?_
          refine hK _ _ (.mk' trivial (hT.alloc _)) ?_
          clear hK K
          try simp only [sI, sS, sZ]
          refine rk1 6 127 (fun K hK => ?_)
          go_simp
          refine (joined_any y x HF.out.2.2.2.2.2.1 _ _ _ _ (Hs.one wr.drew x HF.out.2.2.2.2.2.2 _) (by simp)).mono ?_
          rintro e w5 ⟨rfl, t5⟩
          have t5 : Turns [] wr.drew w5 := ((Turns.refl [] wr.drew).alloc _).trans t5 (by simp)
          refine hK _ _ (.mk' trivial (hT.trans t5 (by simp))) ?_
          clear hK K
          try simp only [sI, sS, sZ]
          refine rk1 7 255 (fun K hK => ?_)
          refine wp_store_blk 53 _ _ (by rfl) p6 (by rfl) (bvs (twoH y x)) (bvs y) 53 (by rfl) ((HF.out.1.turns hT (by simp)).turns t5 (by simp)) (by rw [bvs_length, bvs_length, HF.out.2.2.2.2.2.1, twoH_len]) (by rw [size_hash, bvs_length, twoH_len]) (bvs_one _) (fun w7 hb7 ht7 => ?_)
          refine hK _ _ (.p trivial) ?_
          clear hK K
          try simp only [sI, sS, sZ]
          refine rkZ ?_
          have HN := Lib.hid (And.intro hb7 ((hT.trans t5 (by simp)).mono (L' := [p6]) (by simp) |>.trans ht7 (by simp)))
          clear hb7 ht7 t5
          go_wp2_with fail
          go_roundw
          case rel => exact ⟨k + 1, by omega, by go_num, by rw [HFS.out]; exact HN.out.1, HF.out.2.1.trans HN.out.2 (by simp)⟩
          case measure => (simp [intOf] <;> omega)
      · obtain rfl : k = q := by omega
        have hzl : (W.reverse.zip p).length ≤ k := by simp; omega
        rw [List.take_of_length_le hzl] at v6
        have hfl := fold2_len leaf hf (W.reverse.zip p)
        have hres := HRES.out
        unfold mcheck mled at hres
        rw [← hW, hpm, ← HQ.out] at hres
        simp only [beq_self_eq_true, Bool.true_and] at hres
        obtain ⟨y, hy⟩ : ∃ y, y = fold2 leaf (W.reverse.zip p) := ⟨_, rfl⟩
        rw [← hy] at v6 hfl hres
        have v5 := (hb5.turns HB.out.2.1 (by simp)).turns td (by simp; have := HP.out; omega)
        have eq1 := eqlH y root hfl hr
        rw [← hres] at eq1
        have HV := Lib.hid (And.intro v6 (And.intro v5 ((htx.trans HB.out.2.1 (by simp)).trans td (by simp; have := HP.out; omega))))
        have hsy := Lib.hid (show (Tryz.prog.info? 53).map (·.size) = some (bvs y).length by rw [size_hash, bvs_length, hfl])
        have hsr := Lib.hid (show (Tryz.prog.info? 53).map (·.size) = some (bvs root).length by rw [size_hash, bvs_length, hr])
        clear v6 td hzl hfl hres hy v5 hb5 hb6 htx hhs hB hr hf hW hpm hm hl20 hk hlt
        go_wp2_with (first
          | (refine wpList_load_blk rfl 53 (.tmp 6) rfl p6 (by kernel_rfl) (bvs y) _ _ HV.out.1 Tryz.underlying53 rfl hsy.out ?_)
          | (refine wpList_load_blk rfl 53 (.tmp 5) rfl p5 (by kernel_rfl) (bvs root) _ _ HV.out.2.1 Tryz.underlying53 rfl hsr.out ?_)
          | fail)
        go_ret
        exact ⟨rfl, HV.out.2.2⟩
  · have zz : (q != m) = true := by simpa using hne
    have zz2 : ((q : Int) != (m : Int)) = true := by simp; omega
    have HN := Lib.hid hne
    clear hqq hq20 hne
    go_wp2_with fail
    go_ret
    refine ⟨?_, H0.out.2.2.1.trans HB.out.2.1 (by simp)⟩
    have h1 := HN.out
    have h2 := HQ.out
    have h3 := H0.out.2.2.2.2.2.2.2.1
    have h4 := H0.out.2.2.2.2.2.2.2.2.1
    rw [HRES.out]
    unfold mcheck
    rw [← h3, ← h2, h4]
    simp [h1]
end Go.Proofs.YtoahnhphfabajaaGreat
