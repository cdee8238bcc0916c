/- Proofs, the exported ones and the document's, walked. -/
import Derived.Test.YtnjnealphbcamaaMkP
namespace Go.Proofs.Ytnjnealphbcamaa
open Go.RowKit
set_option linter.unusedVariables false
set_option maxRecDepth 10000
set_option linter.unusedSimpArgs false
set_option linter.unnecessarySimpa false

set_option maxHeartbeats 1000000 in
theorem CloneH_any (A : Option Addr) (n c : Nat) (hs : List (List UInt8)) (hn : hs.length = n) (w : World) (h : Hs w w.heap.size (.slice A n c) hs) (hm : n ≤ 1000000) :
    Calls Try.prog 29 #[.slice A n c] w fun e w' => ∃ A' c', e = .returned (.slice A' n c') ∧ HMine w w' (.slice A' n c') hs := by
  have hnil := fun w => Lib.run_eql_slice_nil (P := Try.prog) w 23 27 A n c 0 0 Try.underlying23
  have h' := h
  obtain ⟨⟨hl, A0, c0, hv, hnc, hcm, hA, hrd⟩, ha⟩ := h
  injection hv with e1 e2 e3
  subst e1 e3
  clear e2
  rcases A with _ | ad
  · have := hA rfl
    subst this
    obtain rfl : n = 0 := by omega
    obtain rfl : hs = [] := List.eq_nil_of_length_eq_zero hn
    clear h' hl hnc hcm hA hrd ha hm hn
    go_enter Try.func29, Try.ntmps29
    go_wp2_with fail
    go_ret
    exact ⟨_, _, rfl, HMine.nil (Turns.refl _ _)⟩
  · have hown : HMine w (w.alloc (.cells #[] 27)) (.slice (some ⟨w.heap.size, 0, none⟩) 0 0) [] :=
      ⟨World.ownsRow_made w #[] 0 (Nat.le_refl _) (Nat.zero_le _) (by simp), (Turns.refl _ _).alloc _, by simp⟩
    obtain ⟨v2, w2, hr2, m2⟩ := hmine_append hown (h'.turns ((Turns.refl [] w).alloc (.cells #[] 27)) (Nat.le_refl _) (by simp)) (by simp; omega) 23
    rw [List.nil_append] at m2
    obtain ⟨A2, c2, rfl, _⟩ := m2.len
    rw [hn] at m2 hr2
    have HM := Lib.hid m2
    clear h' hl hnc hcm hA hrd ha hm hn m2 hown
    go_enter Try.func29, Try.ntmps29
    go_wp2_with (at_builtin; refine wpList_append_at rfl (.tmp 5) (.tmp 6) rfl hr2 rfl rfl ?_)
    clear hr2
    go_ret
    exact ⟨_, _, rfl, HM.out⟩

set_option maxHeartbeats 1000000 in
theorem Proof_in (hs : List (List UInt8)) (n i : Nat) (hn : hs.length = n) (hm : n ≤ 1000000) (hi : i < n) (A : Option Addr) (c B : Nat) (w : World) (h : Hs w B (.slice A n c) hs) (hB : B ≤ w.heap.size) :
    Calls Try.prog 19 #[.slice A n c, .int .i64 i] w fun e w' => ∃ A' c', e = .returned (.tuple #[.slice A' (mproof hs i).length c', .int .i64 0]) ∧ HMine w w' (.slice A' (mproof hs i).length c') (mproof hs i) := by
  have PR := Lib.hid (proof_any n hs n i hn (Nat.le_refl _) hm hi A c B w h hB)
  have hl := Lib.hid (mproof_le hs i (by omega) (by omega))
  generalize mproof hs i = P at PR hl ⊢
  have z1 : ¬ (i : Int) < 0 := by omega
  have z2 : ¬ (n : Int) ≤ (i : Int) := by omega
  clear h hn hm hi
  go_enter Try.func19, Try.ntmps19
  go_wp2_with fail
  refine PR.out.mono ?_
  rintro e w2 ⟨A2, c2, rfl, m2⟩
  have HM := Lib.hid m2
  clear m2
  go_wp2_with fail
  refine (CloneH_any A2 P.length c2 P rfl w2 HM.out.hs (by have := hl.out; omega)).mono ?_
  rintro e w3 ⟨A3, c3, rfl, m3⟩
  have HM3 := Lib.hid (m3.base HM.out.turns)
  clear m3
  go_wp2_with fail
  go_ret2
  exact ⟨_, _, rfl, HM3.out⟩
set_option maxHeartbeats 1000000 in
theorem Proof_out (n : Nat) (i : Int) (hi : i < 0 ∨ (n : Int) ≤ i) (A : Option Addr) (c : Nat) (w : World) :
    Calls Try.prog 19 #[.slice A n c, .int .i64 i] w fun e w' => e = .returned (.tuple #[.slice none 0 0, .int .i64 1]) ∧ w = w' := by
  by_cases h : i < 0
  · clear hi
    go_enter Try.func19, Try.ntmps19
    go_wp2_with fail
    go_ret2
    exact ⟨rfl, rfl⟩
  · have h2 : (n : Int) ≤ i := by omega
    clear hi
    go_enter Try.func19, Try.ntmps19
    go_wp2_with fail
    go_ret2
    exact ⟨rfl, rfl⟩
set_option maxHeartbeats 1000000 in
theorem refProof_out (n : Nat) (i : Int) (hi : i < 0 ∨ (n : Int) ≤ i) (A : Option Addr) (c : Nat) (w : World) :
    Calls Try.prog 21 #[.slice A n c, .int .i64 i] w fun e w' => e = .returned (.tuple #[.slice none 0 0, .int .i64 1]) ∧ w = w' := by
  by_cases h : i < 0
  · clear hi
    go_enter Try.func21, Try.ntmps21
    go_wp2_with fail
    go_ret2
    exact ⟨rfl, rfl⟩
  · have h2 : (n : Int) ≤ i := by omega
    clear hi
    go_enter Try.func21, Try.ntmps21
    go_wp2_with fail
    go_ret2
    exact ⟨rfl, rfl⟩

set_option maxRecDepth 100000 in
set_option maxHeartbeats 2000000 in
theorem refProof_in : ∀ (N : Nat) (hs : List (List UInt8)) (n i : Nat), hs.length = n → n ≤ N → n ≤ 1000000 → i < n → ∀ (A : Option Addr) (c B : Nat) (w : World), Hs w B (.slice A n c) hs → B ≤ w.heap.size →
    Calls Try.prog 21 #[.slice A n c, .int .i64 i] w fun e w' => ∃ A' c', e = .returned (.tuple #[.slice A' (mproof hs i).length c', .int .i64 0]) ∧ HMine w w' (.slice A' (mproof hs i).length c') (mproof hs i)
  | N, hs, n, i, hn, hnN, hnm, hi, A, c, B, w, h, hB => by
    obtain ⟨A0, c0, hv, hnc, hcm⟩ := h.form
    injection hv with e1 e2 e3
    subst e1 e3
    clear e2
    have y1 : ¬ (i : Int) < 0 := by omega
    have y2 : ¬ (n : Int) ≤ (i : Int) := by omega
    rcases Nat.lt_or_ge n 2 with hn2 | hn2
    · obtain rfl : n = 1 := by omega
      have hp := mproof_few hs i (by omega)
      rw [hp]
      have y2 : ¬ (1 : Int) ≤ (i : Int) := by omega
      clear h hn hnN hnm hi hnc hcm hB hn2 hp
      go_enter Try.func21, Try.ntmps21
      go_wp2_with fail
      go_ret2
      exact ⟨none, 0, rfl, HMine.nil (Turns.refl _ _)⟩
    · have hz : ((n : Int) == 1) = false := by simp; omega
      have hk1 := mcut_pos n
      have hk2 := mcut_lt n hn2
      have hple := mproof_le hs i (by omega) (by omega)
      have CU := part_any n (by omega) w
      have hml := mproof_left hs i (by omega)
      have hmr := mproof_right hs i (by omega)
      rw [hn] at hml hmr
      obtain ⟨k, hk⟩ : ∃ k, k = mcut n := ⟨_, rfl⟩
      rw [← hk] at hk1 hk2 CU hml hmr
      have hto := h.to (k := k) (by omega)
      have hfr := h.from_ (k := k) (by omega) hn.symm
      have htl : (hs.take k).length = k := by rw [List.length_take]; omega
      have hdl : (hs.drop k).length = n - k := by rw [List.length_drop]; omega
      have HC := Lib.hid CU
      have HT := Lib.hid (And.intro hto (And.intro hfr hB))
      have z2 : (n : Int) ≤ 1000000 := by omega
      have z3 : (k : Int) ≤ (c : Int) := by omega
      have z4 : (k : Int) ≤ (n : Int) := by omega
      obtain ⟨A2, hA2⟩ : ∃ A2, A2 = (if c = k then A else A.map fun x => x.add (k * 32)) := ⟨_, rfl⟩
      rw [← hA2] at HT
      have hsl : ∀ w, (Instr.sliceAt 23 (.slice A n c) (some (.int .i64 (k : Int))) none none).run Try.prog w = .ok (.slice A2 (n - k) (c - k)) w := by
        intro w
        rw [hA2]
        go_simp
        intro hh
        omega
      have HA2 := Lib.hid hA2
      clear hfr hA2
      by_cases hik : i < k
      · have IH1 := refProof_in (n - 1) (hs.take k) k i htl (by omega) (by omega) hik A c B
        have IR := refRoot_any (n - 1) (hs.drop k) (n - k) hdl (by omega) (by omega) A2 (c - k) B
        have I1 := Lib.hid IH1
        have I2 := Lib.hid IR
        have hmx := hml hik
        have hl1 : (mproof (hs.take k) i).length ≤ 20 := mproof_le _ _ (by rw [htl]; exact hik) (by rw [htl]; omega)
        have zik : (i : Int) < (k : Int) := by omega
        have HM := Lib.hid (And.intro hmx (And.intro hto.all (And.intro HT.out.2.1.all hl1)))
        generalize mproof hs i = P at HM hple ⊢
        have HP := Lib.hid hple
        clear h hto hn hnN hnm hi hnc hcm hB hn2 hk hk1 hk2 hik htl hdl IH1 IR CU hml hmr hmx hl1 hple
        go_enter Try.func21, Try.ntmps21
        go_wp2_with fail
        refine HC.out.mono ?_
        rintro e w2 ⟨rfl, rfl⟩
        clear HC
        go_wp2_with fail
        refine (I1.out w HT.out.1 HT.out.2.2).mono ?_
        rintro e w3 ⟨A3, c3, rfl, m3⟩
        have M3 := Lib.hid m3
        clear m3
        go_wp2_with fail
        refine (I2.out w3 (HT.out.2.1.turns M3.out.turns HT.out.2.2 (by simp)) (Nat.le_trans HT.out.2.2 M3.out.turns.size)).mono ?_
        rintro e w4 ⟨rfl, t4⟩
        have hrl := mroot_len (hs.drop k) HM.out.2.2.1
        obtain ⟨v9, w9, hr9, m9⟩ := hmine_push (M3.out.on t4) (by have := HM.out.2.2.2; omega) (mroot (hs.drop k)) hrl 23
        rw [← HM.out.1] at m9
        obtain ⟨A9, c9, rfl, _⟩ := m9.len
        have M9 := Lib.hid m9
        have HRL := Lib.hid hrl
        clear m9 t4 hrl
        go_wp2_with (first
          | (refine wpList_build_hash1 (o := ⟨some 41, _, _, _, _, _⟩) rfl (mroot (hs.drop k)) HRL.out (.tmp 40) rfl (by kernel_rfl) ?_)
          | (at_builtin; refine wpList_append_at rfl (.tmp 36) (.tmp 41) rfl hr9 rfl rfl ?_)
          | fail)
        clear hr9
        go_ret2
        exact ⟨_, _, rfl, M9.out⟩
      · have IH1 := refProof_in (n - 1) (hs.drop k) (n - k) (i - k) hdl (by omega) (by omega) (by omega) A2 (c - k) B
        have IR := refRoot_any (n - 1) (hs.take k) k htl (by omega) (by omega) A c B
        have I1 := Lib.hid IH1
        have I2 := Lib.hid IR
        have hmx := hmr hik
        have hl1 : (mproof (hs.drop k) (i - k)).length ≤ 20 := mproof_le _ _ (by rw [hdl]; omega) (by rw [hdl]; omega)
        have zik : ¬ (i : Int) < (k : Int) := by omega
        have wik : IntKind.i64.wrap ((i : Int) - (k : Int)) = ((i - k : Nat) : Int) := by rw [IntWalk.i64_in _ (by omega)]; omega
        have HM := Lib.hid (And.intro hmx (And.intro hto.all (And.intro HT.out.2.1.all hl1)))
        generalize mproof hs i = P at HM hple ⊢
        have HP := Lib.hid hple
        clear h hto hn hnN hnm hi hnc hcm hB hn2 hk hk1 hk2 hik htl hdl IH1 IR CU hml hmr hmx hl1 hple
        go_enter Try.func21, Try.ntmps21
        go_wp2_with fail
        refine HC.out.mono ?_
        rintro e w2 ⟨rfl, rfl⟩
        clear HC
        go_wp2_with fail
        refine (I1.out w HT.out.2.1 HT.out.2.2).mono ?_
        rintro e w3 ⟨A3, c3, rfl, m3⟩
        have M3 := Lib.hid m3
        clear m3
        go_wp2_with fail
        refine (I2.out w3 (HT.out.1.turns M3.out.turns HT.out.2.2 (by simp)) (Nat.le_trans HT.out.2.2 M3.out.turns.size)).mono ?_
        rintro e w4 ⟨rfl, t4⟩
        have hrl := mroot_len (hs.take k) HM.out.2.1
        obtain ⟨v9, w9, hr9, m9⟩ := hmine_push (M3.out.on t4) (by have := HM.out.2.2.2; omega) (mroot (hs.take k)) hrl 23
        rw [← HM.out.1] at m9
        obtain ⟨A9, c9, rfl, _⟩ := m9.len
        have M9 := Lib.hid m9
        have HRL := Lib.hid hrl
        clear m9 t4 hrl
        go_wp2_with (first
          | (refine wpList_build_hash1 (o := ⟨some 58, _, _, _, _, _⟩) rfl (mroot (hs.take k)) HRL.out (.tmp 57) rfl (by kernel_rfl) ?_)
          | (at_builtin; refine wpList_append_at rfl (.tmp 53) (.tmp 58) rfl hr9 rfl rfl ?_)
          | fail)
        clear hr9
        go_ret2
        exact ⟨_, _, rfl, M9.out⟩
  termination_by N => N
  decreasing_by all_goals omega
end Go.Proofs.Ytnjnealphbcamaa
