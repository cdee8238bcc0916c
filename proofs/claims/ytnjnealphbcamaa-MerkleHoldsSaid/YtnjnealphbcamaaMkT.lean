/- merkle.turns and merkle.Check, walked. -/
import Derived.Test.YtnjnealphbcamaaMkS
namespace Go.Proofs.Ytnjnealphbcamaa
open Go.RowKit
set_option linter.unusedVariables false
set_option maxRecDepth 10000
set_option linter.unusedSimpArgs false
set_option linter.unnecessarySimpa false

/-- A row of bools that reads so. -/
def BRead (w : World) (lo : Nat) (A : Option Addr) (bs : List Bool) : Prop := bs ≠ [] → ∃ g, A = some ⟨g, 0, none⟩ ∧ lo ≤ g ∧ g < w.heap.size ∧ BCells w g bs
set_option maxRecDepth 100000 in
set_option maxHeartbeats 2000000 in
theorem turns_any (i n : Nat) (hi : i < n) (hn : n ≤ 1048576) (w : World) :
    Calls Try.prog 31 #[.int .i64 i, .int .i64 n] w fun e w' => ∃ A c, e = .returned (.slice A (mway i n).length c) ∧ (mway i n).length ≤ c ∧ BRead w' w.heap.size A (mway i n).reverse ∧ Turns [] w w' := by
  have hl20 := mway_le 20 n i (by omega)
  obtain ⟨W, hW⟩ : ∃ W, W = mway i n := ⟨_, rfl⟩
  rw [← hW] at hl20 ⊢
  have H0 := Lib.hid (And.intro hW (And.intro hi (And.intro hn hl20)))
  clear hW hi hn hl20
  go_enter Try.func31, Try.ntmps31
  go_wp2_with fail
  go_loopw [0, 1, 5] (fun u0 u1 v wr => ∃ (j m : Nat) (d : List Bool) (A : Option Addr) (c : Nat), u0 = .int .i64 j ∧ u1 = .int .i64 m ∧ v = .slice A d.length c ∧ BMine w wr (.slice A d.length c) d ∧ d ++ mway j m = W ∧ j < m ∧ m ≤ 1048576) (fun _ u1 _ _ => (intOf u1).toNat)
  case atStart => exact ⟨i, n, [], none, 0, rfl, rfl, rfl, BMine.nil (Turns.refl _ _), by rw [List.nil_append]; exact H0.out.1.symm, H0.out.2.1, H0.out.2.2.1⟩
  case round =>
    obtain ⟨j, m, d, A, c, rfl, rfl, rfl, hb, hd, hj, hm⟩ := hrel
    have hdl : d.length ≤ 20 := by have := congrArg List.length hd; simp at this; have := H0.out.2.2.2; omega
    by_cases hm2 : 1 < m
    · have CU := Lib.hid (cut_any m (by omega) wr)
      have hk1 := mcut_pos m
      have hk2 := mcut_lt m (by omega)
      have hml := mway_left j m (by omega)
      have hmr := mway_right j m (by omega)
      obtain ⟨k, hk⟩ : ∃ k, k = mcut m := ⟨_, rfl⟩
      rw [← hk] at CU hk1 hk2 hml hmr
      have zm : (1 : Int) < (m : Int) := by omega
      have zmb : (m : Int) ≤ 1048576 := by omega
      by_cases hjk : j < k
      · have zjk : (j : Int) < (k : Int) := by omega
        rw [hml hjk] at hd
        obtain ⟨v2, w2, hr2, m2⟩ := bmine_push hb (by omega) false 52
        obtain ⟨A2, c2, rfl, _⟩ := m2.len
        rw [show (d ++ [false]).length = d.length + 1 by simp] at hr2 m2
        have hF := Lib.hid (And.intro m2 (And.intro (show (d ++ [false]) ++ mway j k = W by rw [← hd]; simp) (And.intro hjk (And.intro hk2 hm))))
        have z1 : decide (k ≤ j) = false := by simpa using hjk
        clear hb hd hj hm hm2 hml hmr hk m2 hjk hk1 hk2
        go_wp2_with fail
        refine CU.out.mono ?_
        rintro e w3 ⟨rfl, rfl⟩
        clear CU
        go_wp2_with (at_builtin; refine wpList_append_at rfl (.tmp 11) (.tmp 15) rfl hr2 rfl rfl ?_)
        clear hr2
        have hk2 := hF.out.2.2.2.1
        have hm := hF.out.2.2.2.2
        go_roundw
        case rel => exact ⟨j, k, d ++ [false], A2, c2, rfl, rfl, by simp, by simpa using hF.out.1, hF.out.2.1, hF.out.2.2.1, by omega⟩
        case measure => (simp [intOf] <;> omega)
      · have zjk : ¬ (j : Int) < (k : Int) := by omega
        rw [hmr hjk] at hd
        obtain ⟨v2, w2, hr2, m2⟩ := bmine_push hb (by omega) true 52
        obtain ⟨A2, c2, rfl, _⟩ := m2.len
        rw [show (d ++ [true]).length = d.length + 1 by simp] at hr2 m2
        have hF := Lib.hid (And.intro m2 (And.intro (show (d ++ [true]) ++ mway (j - k) (m - k) = W by rw [← hd]; simp) (And.intro (show j - k < m - k by omega) (And.intro hk2 (And.intro hm (And.intro hk1 (show k ≤ j by omega)))))))
        have z1 : decide (k ≤ j) = true := by simp; omega
        have w1 : IntKind.i64.wrap ((j : Int) - (k : Int)) = ((j - k : Nat) : Int) := by rw [IntWalk.i64_in _ (by omega)]; omega
        have w2' : IntKind.i64.wrap ((m : Int) - (k : Int)) = ((m - k : Nat) : Int) := by rw [IntWalk.i64_in _ (by omega)]; omega
        clear hb hd hj hm hm2 hml hmr hk m2 hjk hk1 hk2
        go_wp2_with fail
        refine CU.out.mono ?_
        rintro e w3 ⟨rfl, rfl⟩
        clear CU
        go_wp2_with (at_builtin; refine wpList_append_at rfl (.tmp 11) (.tmp 15) rfl hr2 rfl rfl ?_)
        clear hr2
        have hk2 := hF.out.2.2.2.1
        have hm := hF.out.2.2.2.2
        go_roundw
        case rel => exact ⟨j - k, m - k, d ++ [true], A2, c2, rfl, rfl, by simp, by simpa using hF.out.1, hF.out.2.1, hF.out.2.2.1, by omega⟩
        case measure => (simp [intOf] <;> omega)
    · obtain rfl : m = 1 := by omega
      obtain rfl : j = 0 := by omega
      rw [mway_few 0 1 (by omega), List.append_nil] at hd
      subst hd
      have z1 : ¬ (1 : Int) < 1 := by omega
      have hlen := hb.len
      obtain ⟨A0, c0, hv, hc0⟩ := hlen
      injection hv with e1 e2 e3
      subst e1 e3
      clear e2
      rcases Nat.eq_zero_or_pos d.length with h0 | h0
      · have hd0 : d = [] := List.eq_nil_of_length_eq_zero h0
        have RV := Lib.hid (Reverse_zero A c wr)
        have HT := Lib.hid hb.turns
        subst hd0
        clear hb hj hm hm2 hdl h0 H0
        simp only [List.length_nil]
        go_wp2_with fail
        refine RV.out.mono ?_
        rintro e w3 ⟨rfl, rfl⟩
        clear RV
        go_wp2_with fail
        go_ret
        exact ⟨A, c, rfl, Nat.zero_le _, fun h => absurd rfl h, HT.out⟩
      · obtain ⟨g, c1, hv, hc1, _, hg1, hg2, hcell⟩ := own_cells hb.own h0
        injection hv with e1 e2 e3
        subst e1 e3
        clear e2
        have hBC : BCells wr g d := fun j x hx => hcell j (.bool x) (by simp [bools, hx])
        have RV := Lib.hid (Reverse_any g d.length c d rfl h0 (by omega) wr hBC)
        have HT := Lib.hid (And.intro hb.turns (And.intro hg1 (And.intro hg2 hc0)))
        obtain ⟨L, hL⟩ : ∃ L, L = d.length := ⟨_, rfl⟩
        have HL := Lib.hid hL
        rw [← hL] at RV
        simp only [← hL] at h0 ⊢
        clear hb hj hm hm2 hdl hcell hBC H0 hc0 hg1 hg2 hL
        go_wp2_with fail
        refine RV.out.mono ?_
        rintro e w3 ⟨rfl, hbc, t3⟩
        have HR := Lib.hid (And.intro hbc t3)
        clear RV hbc t3
        go_wp2_with fail
        go_ret
        have hT := HT.out
        have hLL := HL.out
        refine ⟨some ⟨g, 0, none⟩, c, by subst hLL; rfl, by omega, fun _ => ⟨g, rfl, hT.2.1, Nat.lt_of_lt_of_le hT.2.2.1 HR.out.2.size, HR.out.1⟩, hT.1.trans HR.out.2 (by intro x hx; simp at hx; subst hx; exact .inr hT.2.1)⟩
end Go.Proofs.Ytnjnealphbcamaa
