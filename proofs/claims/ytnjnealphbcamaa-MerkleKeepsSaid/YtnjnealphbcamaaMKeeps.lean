/- MerkleKeeps, walked. -/
import Derived.Test.YtnjnealphbcamaaMkQ
import Derived.Test.YtnjnealphbcamaaMRoots
namespace Go.Proofs.Ytnjnealphbcamaa
open Go.RowKit
set_option linter.unusedVariables false
set_option maxRecDepth 10000
set_option linter.unusedSimpArgs false
set_option linter.unnecessarySimpa false

/-- The first byte of each sum of a row lies there, and may be written. -/
def Firsts (w : World) (g m : Nat) : Prop := ∀ k, k < m → ∃ b : UInt8, w.cell? ⟨g, k * 32, none⟩ = some (u8v b) ∧ w.frozen? ⟨g, k * 32, none⟩ = false
theorem HMine.firsts {W0 w : World} {A : Option Addr} {m c : Nat} {P : List (List UInt8)} (h : HMine W0 w (.slice A m c) P) (hm : P.length = m) (h0 : 0 < m) : ∃ g, A = some ⟨g, 0, none⟩ ∧ W0.heap.size ≤ g ∧ g < w.heap.size ∧ Firsts w g m := by
  have ho := h.own
  rcases ho.2 with ⟨hv, hx⟩ | ⟨g, cap, cur, hv, hg, hh, r⟩
  · have := hcells_len P h.all
    rw [hx] at this
    simp at this
    omega
  · injection hv with e1 e2 e3
    subst e1
    refine ⟨g, rfl, hg, (Array.getElem?_eq_some_iff.1 hh).1, fun k hk => ?_⟩
    have hkp : k < P.length := by omega
    have h32 := h.all _ (List.getElem_mem hkp)
    have hc : (hcells P)[k * 32]? = some (u8v (P[k].getD 0 0)) := by
      have hs := (hcells_split P k h.all (by omega)).2
      have h1 : (hcells P)[k * 32]? = ((hcells P).drop (k * 32))[0]? := by rw [List.getElem?_drop, Nat.add_zero]
      rw [h1, hs, List.drop_eq_getElem_cons hkp, hcells_cons, List.getElem?_append_left (by rw [bvs_length, h32]; omega)]
      simp [bvs, List.getD, List.getElem?_eq_getElem (show 0 < P[k].length by omega)]
    have := ho.cells (g := g) rfl (k * 32) _ hc
    rw [Addr.add_lit, Nat.zero_add] at this
    exact ⟨_, this, by simp [World.frozen?, hh]⟩
theorem Firsts.set {w : World} {g m : Nat} (h : Firsts w g m) (k : Nat) (hk : k < m) (x : UInt8) : Firsts (w.setCell ⟨g, k * 32, none⟩ (u8v x)) g m := by
  intro j hj
  obtain ⟨b, h1, h2⟩ := h j hj
  by_cases e : k = j
  · subst e
    exact ⟨x, World.cell?_setCell_same _ _ _ h1, by rw [World.frozen?_setCell]; exact h2⟩
  · exact ⟨b, by rw [World.cell?_setCell_other _ _ _ _ (by simp <;> omega)]; exact h1, by rw [World.frozen?_setCell]; exact h2⟩
theorem inc_val (b : UInt8) : Value.int .u8 (IntKind.u8.wrap ((b.toNat : Int) + 1)) = u8v (b + 1) := by
  unfold u8v
  rw [IntKind.wrap_u8, UInt8.toNat_add]
  congr 1

set_option maxRecDepth 100000 in
set_option maxHeartbeats 4000000 in
theorem MerkleKeeps_walk (n0 i0 : Int) (w : World) (hn1 : -9223372036854775808 ≤ n0 ∧ n0 ≤ 9223372036854775807) (hi1 : -9223372036854775808 ≤ i0 ∧ i0 ≤ 9223372036854775807) :
    Calls Try.prog 6 #[.int .i64 n0, .int .i64 i0] w fun e w' => e = .returned (.bool true) ∧ Below w.heap.size w w' := by
  obtain ⟨q, hq, hq20⟩ : ∃ q : Nat, (q : Int) = n0 % 20 ∧ q < 20 := ⟨(n0 % 20).toNat, by omega, by omega⟩
  have WI := fun w => within_any n0 20 w hn1.1 hn1.2 (by omega) (by omega)
  rw [← hq] at WI
  have HWI := Lib.hid WI
  have KN := Lib.hid (known_any w)
  have hqi : (q : Int) < 20 := by omega
  have HN := Lib.hid hq20
  have HI := Lib.hid hi1
  clear hq WI hn1 hq20 hi1
  go_enter Try.func6, Try.ntmps6
  go_wp2_with fail
  refine KN.out.mono ?_
  rintro e w1 ⟨rfl, t1⟩
  have HT1 := Lib.hid t1
  clear t1 KN
  go_wp2_with fail
  refine (HWI.out w1).mono ?_
  rintro e w2 ⟨rfl, rfl⟩
  clear HWI
  go_wp2_with fail
  obtain ⟨n, hn⟩ : ∃ n, n = q + 1 := ⟨_, rfl⟩
  rw [show (1 : Int) + (q : Int) = ((n : Nat) : Int) by omega]
  have hni : (n : Int) ≤ 20 := by omega
  have hn0 : 0 < (n : Int) := by omega
  have HN2 := Lib.hid (show 0 < n ∧ n ≤ 20 by have := HN.out; omega)
  clear hn hqi HN
  refine (Hashes_any n (by have := HN2.out; omega) w1).mono ?_
  rintro e w2 ⟨A3, c3, rfl, m3⟩
  have M3 := Lib.hid m3
  clear m3
  go_wp2_with fail
  refine (Root_any n (hashesL n) n (hashesL_len n) (Nat.le_refl _) (by have := HN2.out; omega) A3 c3 w2.heap.size w2 M3.out.hs (Nat.le_refl _)).mono ?_
  rintro e w3 ⟨rfl, t3⟩
  have HT3 := Lib.hid t3
  clear t3
  go_wp2_with fail
  refine (within_any i0 n w3 HI.out.1 HI.out.2 (by have := HN2.out; omega) (by have := HN2.out; omega)).mono ?_
  rintro e w4 ⟨rfl, rfl⟩
  obtain ⟨x, hx⟩ : ∃ x : Nat, (x : Int) = i0 % (n : Int) := ⟨(i0 % (n : Int)).toNat, by have := Int.emod_nonneg i0 (show (n : Int) ≠ 0 by omega); omega⟩
  have hxn : x < n := by have := Int.emod_lt_of_pos i0 hn0; omega
  rw [← hx]
  have PR := Proof_in (hashesL n) n x (hashesL_len n) (by have := HN2.out; omega) hxn A3 c3 w2.heap.size w3 (M3.out.hs.turns HT3.out (Nat.le_refl _) (by simp)) HT3.out.size
  have hpl := mproof_le (hashesL n) x (by rw [hashesL_len]; exact hxn) (by rw [hashesL_len]; have := HN2.out; omega)
  obtain ⟨P, hP⟩ : ∃ P, P = mproof (hashesL n) x := ⟨_, rfl⟩
  rw [← hP] at PR hpl
  have HPR := Lib.hid PR
  obtain ⟨m, hm⟩ : ∃ m, m = P.length := ⟨_, rfl⟩
  rw [← hm] at HPR hpl
  have HM := Lib.hid (And.intro hm hpl)
  have hmi : (m : Int) ≤ 20 := by omega
  clear hx hxn PR hP hpl hm
  go_wp2_with fail
  refine HPR.out.mono ?_
  rintro e w4 ⟨A4, c4, rfl, m4⟩
  have M4 := Lib.hid m4
  clear m4 HPR
  have hgx : ∃ g, (0 < m → A4 = some ⟨g, 0, none⟩) ∧ w3.heap.size ≤ g ∧ Firsts w4 g m := by
    rcases Nat.eq_zero_or_pos m with h0 | h0
    · exact ⟨w3.heap.size, by omega, Nat.le_refl _, fun k hk => by omega⟩
    · obtain ⟨g, h1, h2, _, h3⟩ := M4.out.firsts HM.out.1.symm h0
      exact ⟨g, fun _ => h1, h2, h3⟩
  obtain ⟨g, hA4, hgw, hfi⟩ := hgx
  have HG := Lib.hid (And.intro hA4 (And.intro hgw hfi))
  clear hA4 hgw hfi
  go_wp2_with fail
  go_loopw [8] (fun u wr => ∃ k : Nat, k ≤ m ∧ u = .int .i64 k ∧ Firsts wr g m ∧ Turns [g] w4 wr) (fun u _ => m - (intOf u).toNat)
  case atStart => exact ⟨0, by omega, rfl, HG.out.2.2, Turns.refl _ _⟩
  case round =>
    obtain ⟨k, hk, rfl, hf, td⟩ := hrel
    by_cases hlt : k < m
    · have hki : (k : Int) < (m : Int) := by omega
      obtain ⟨b, cb, fb⟩ := hf k hlt
      have hA := HG.out.1 (by omega)
      subst hA
      have hT : Turns [] wr wr.drew := (Turns.refl _ _).drew
      have HF := Lib.hid (And.intro (hf.set k hlt (b + 1)) (td.setCell (p := ⟨g, k * 32, none⟩) (.inl (by simp)) (u8v (b + 1))))
      have hbv := Lib.hid (inc_val b)
      unfold u8v at cb
      clear hf td hlt hk
      go_upto_region 10 with fail
      refine reg_begin (fun _ => True) (fun W => Turns [] wr W) 8 9 #[false, false, false, false, false, false, false, false, false] (by kernel_rfl) (by kernel_rfl) (by kernel_rfl) ?_
      refine reg_take 0 32 8 #[true, false, false, false, false, false, false, false, false] (by rfl) (v := ?_) rfl rfl (by kernel_rfl) (by kernel_rfl) (by kernel_rfl) (by kernel_rfl) (fun _ _ _ h => h) (by rfl) ?_ (Till.mk' trivial hT) ?_
      rotate_left
      · intro W hS; go_simp; all_goals with_reducible rfl
      try simp only [List.setIfInBounds_toArray, List.set_cons_succ, List.set_cons_zero]
      refine reg_take 1 33 7 #[true, true, false, false, false, false, false, false, false] (by rfl) (v := ?_) rfl rfl (by kernel_rfl) (by kernel_rfl) (by kernel_rfl) (by kernel_rfl) (fun _ _ _ h => h) (by rfl) ?_ (Till.mk' trivial hT) ?_
      rotate_left
      · intro W hS; go_simp; all_goals with_reducible rfl
      try simp only [List.setIfInBounds_toArray, List.set_cons_succ, List.set_cons_zero]
      refine reg_take 2 34 6 #[true, true, true, false, false, false, false, false, false] (by rfl) (v := ?_) rfl rfl (by kernel_rfl) (by kernel_rfl) (by kernel_rfl) (by kernel_rfl) (fun _ _ _ h => h) (by rfl) ?_ (Till.mk' trivial hT) ?_
      rotate_left
      · intro W hS; go_simp; all_goals with_reducible rfl
      try simp only [List.setIfInBounds_toArray, List.set_cons_succ, List.set_cons_zero]
      refine reg_take 3 35 5 #[true, true, true, true, false, false, false, false, false] (by rfl) (v := ?_) rfl rfl (by kernel_rfl) (by kernel_rfl) (by kernel_rfl) (by kernel_rfl) (fun _ _ _ h => h) (by rfl) ?_ (Till.mk' trivial hT) ?_
      rotate_left
      · intro W hS; go_simp; all_goals with_reducible rfl
      try simp only [List.setIfInBounds_toArray, List.set_cons_succ, List.set_cons_zero]
      refine reg_take_t 4 36 4 #[true, true, true, true, true, false, false, false, false] (by rfl) (v := ?_) rfl rfl (by kernel_rfl) (by kernel_rfl) (by kernel_rfl) (by kernel_rfl) (fun _ _ _ h => h) (by rfl) (by kernel_rfl) (by kernel_rfl) ?_ (Till.mk' trivial hT) ?_
      rotate_left
      · rintro W ⟨-, hS⟩; have c2 := cellL hS cb (by simp); go_simp; all_goals with_reducible rfl
      try simp only [List.setIfInBounds_toArray, List.set_cons_succ, List.set_cons_zero]
      refine reg_take 5 37 3 #[true, true, true, true, true, true, false, false, false] (by rfl) (v := ?_) rfl rfl (by kernel_rfl) (by kernel_rfl) (by kernel_rfl) (by kernel_rfl) (fun _ _ _ h => h) (by rfl) ?_ (Till.mk' trivial hT) ?_
      rotate_left
      · intro W hS; go_simp; all_goals with_reducible rfl
      try simp only [List.setIfInBounds_toArray, List.set_cons_succ, List.set_cons_zero]
      refine reg_take 6 38 2 #[true, true, true, true, true, true, true, false, false] (by rfl) (v := ?_) rfl rfl (by kernel_rfl) (by kernel_rfl) (by kernel_rfl) (by kernel_rfl) (fun _ _ _ h => h) (by rfl) ?_ (Till.mk' trivial hT) ?_
      rotate_left
      · intro W hS; go_simp; all_goals with_reducible rfl
      try simp only [List.setIfInBounds_toArray, List.set_cons_succ, List.set_cons_zero]
      refine reg_take 7 39 1 #[true, true, true, true, true, true, true, true, false] (by rfl) (v := ?_) rfl rfl (by kernel_rfl) (by kernel_rfl) (by kernel_rfl) (by kernel_rfl) (fun _ _ _ h => h) (by rfl) ?_ (Till.mk' trivial hT) ?_
      rotate_left
      · intro W hS; go_simp; all_goals with_reducible rfl
      try simp only [List.setIfInBounds_toArray, List.set_cons_succ, List.set_cons_zero]
      refine reg_one 8 0 #[true, true, true, true, true, true, true, true, true] (by kernel_rfl) rfl (by rfl) (by kernel_rfl) (fun K hK => ?_)
      go_simp
      refine hK _ _ (Till.past trivial (by kernel_rfl)) ?_
      clear hK K
      try simp only [List.setIfInBounds_toArray, List.set_cons_succ, List.set_cons_zero]
      refine reg_done (by kernel_rfl) ?_ _
      rw [hbv.out]
      have HN3 := Lib.hid (show Firsts (wr.setCell ⟨g, k * 32, none⟩ (u8v (b + 1))).drew g m ∧ Turns [g] w4 (wr.setCell ⟨g, k * 32, none⟩ (u8v (b + 1))).drew from ⟨fun j hj => HF.out.1 j hj, HF.out.2.drew⟩)
      go_wp2_with fail
      go_roundw
      case rel => exact ⟨k + 1, by omega, by go_num, HN3.out⟩
      case measure => (simp [intOf] <;> omega)
    · obtain rfl : k = m := by omega
      have HTD := Lib.hid td
      have hT : Turns [] w2 wr := (HT3.out.trans M4.out.turns (by simp)).trans td (by intro y hy; simp at hy; subst hy; exact .inr (Nat.le_trans HT3.out.size HG.out.2.1))
      have HT5 := Lib.hid hT
      clear hf td hT
      go_wp2_with fail
      refine (Hashes_any n (by have := HN2.out; omega) wr).mono ?_
      rintro e w6 ⟨A6, c6, rfl, m6⟩
      have M6 := Lib.hid m6
      clear m6
      go_wp2_with fail
      refine (hashes_any (hashesL n) (hashesL n) A3 A6 n n c3 c6 w2.heap.size w6.heap.size w6 (hashesL_len n) (hashesL_len n) (M3.out.hs.turns (HT5.out.trans M6.out.turns (by simp)) (Nat.le_refl _) (by simp)) M6.out.hs (by have := HN2.out; omega) (by have := HN2.out; omega)).mono ?_
      rintro e w7 ⟨rfl, t7⟩
      have hF := Lib.hid (below_of ((HT1.out.trans M3.out.turns (by simp)).trans ((HT5.out.trans M6.out.turns (by simp)).trans t7 (by simp)) (by simp)))
      rw [show (hashesL n == hashesL n) = true by simp]
      clear t7
      go_wp2_with fail
      go_ret
      exact ⟨rfl, hF.out⟩
end Go.Proofs.Ytnjnealphbcamaa
