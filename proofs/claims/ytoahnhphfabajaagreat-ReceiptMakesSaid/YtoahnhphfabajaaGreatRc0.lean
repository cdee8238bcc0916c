/- Receipts: the way of a place; what a proof leads a leaf to. -/
import Derived.Test.YtoahnhphfabajaaGreatGMV
import Derived.Test.YtoahnhphfabajaaGreatGJ
import Derived.Test.YtoahnhphfabajaaGreatGC
namespace Go.Proofs.YtoahnhphfabajaaGreat
open Go.RowKit
set_option linter.unusedVariables false
set_option maxRecDepth 10000
set_option linter.unusedSimpArgs false
set_option linter.unnecessarySimpa false

/-- Whatever the numbers are. -/
theorem Check_any (root leaf : List UInt8) (hr : root.length = 32) (hf : leaf.length = 32) (i n : Int) (p : List (List UInt8)) (m : Nat) (hpm : p.length = m) (hm : m ≤ 1000) (A : Option Addr) (c B : Nat) (w : World) (h : Hs w B (.slice A m c) p) (hB : B ≤ w.heap.size) :
    Calls Tryz.prog 56 #[.agg (bvs root).toArray, .agg (bvs leaf).toArray, .int .i64 i, .int .i64 n, .slice A m c] w fun e w' => e = .returned (.bool (mcheckZ root leaf i n p)) ∧ Turns [] w w' := by
  unfold mcheckZ
  by_cases hin : n ≤ 1048576 ∧ 0 ≤ i ∧ i < n
  · rw [if_pos hin]
    obtain ⟨i', rfl⟩ := Int.eq_ofNat_of_zero_le hin.2.1
    obtain ⟨n', rfl⟩ := Int.eq_ofNat_of_zero_le (show 0 ≤ n by omega)
    exact Check_in root leaf hr hf i' n' (by omega) (by omega) p m hpm hm A c B w h hB
  · rw [if_neg hin]
    exact Check_out 0 root leaf i n (by omega) _ w

set_option maxRecDepth 100000 in
set_option maxHeartbeats 4000000 in
theorem place_any (i n : Nat) (hi : i < n) (hn : n ≤ 1048576) (w : World) :
    Calls Tryz.prog 80 #[.int .i64 i, .int .i64 n] w fun e w' => ∃ A c, e = .returned (.tuple #[.int .i64 0, .slice A (mway i n).length c]) ∧ (mway i n).length ≤ c ∧ BRead w' w.heap.size A (mway i n).reverse ∧ Turns [] w w' := by
  have hl20 := mway_le 20 n i (by omega)
  obtain ⟨W, hW⟩ : ∃ W, W = mway i n := ⟨_, rfl⟩
  rw [← hW] at hl20 ⊢
  have H0 := Lib.hid (And.intro hW (And.intro hi (And.intro hn hl20)))
  have z1 : ¬ (1048576 : Int) < (n : Int) := by omega
  have z2 : ¬ (i : Int) < 0 := by omega
  have z3 : ¬ (n : Int) ≤ (i : Int) := by omega
  clear hW hi hn hl20
  go_enter Tryz.func80, Tryz.ntmps80
  go_wp2_with fail
  go_loopw [0, 1, 6] (fun u0 u1 v wr => ∃ (j m : Nat) (d : List Bool) (A : Option Addr) (c : Nat), u0 = .int .i64 j ∧ u1 = .int .i64 m ∧ v = .slice A d.length c ∧ BMine w wr (.slice A d.length c) d ∧ d ++ mway j m = W ∧ j < m ∧ m ≤ 1048576) (fun _ u1 _ _ => (intOf u1).toNat)
  case atStart => exact ⟨i, n, [], none, 0, rfl, rfl, rfl, BMine.nil (Turns.refl _ _), by rw [List.nil_append]; exact H0.out.1.symm, H0.out.2.1, H0.out.2.2.1⟩
  case round =>
    obtain ⟨j, m, d, A, c, rfl, rfl, rfl, hb, hd, hj, hm⟩ := hrel
    clear z1 z2 z3
    have hdl : d.length ≤ 20 := by have := congrArg List.length hd; simp at this; have := H0.out.2.2.2; omega
    by_cases hm2 : 1 < m
    · have zm : (1 : Int) < (m : Int) := by omega
      have zmb : (m : Int) ≤ 1048576 := by omega
      have HJ := Lib.hid (And.intro hb (And.intro hd (And.intro hj (And.intro hm (And.intro hdl hm2)))))
      clear hb hd hj hm hdl hm2
      go_wp2_with fail
      go_loop [7] (fun u => ∃ k f : Nat, u = .int .i64 k ∧ 0 < k ∧ k ≤ m + 1 ∧ m ≤ k + f ∧ cutF f k m = mcut m) (fun u => m - (intOf u).toNat)
      case atStart => exact ⟨1, m, rfl, by omega, by omega, by omega, rfl⟩
      case round =>
        obtain ⟨k, f, rfl, h0, hk, hf, hc⟩ := hrel
        have hki : (k : Int) ≤ 1048577 := by omega
        by_cases hlt : 2 * k < m
        · have hl : 2 * (k : Int) < (m : Int) := by omega
          cases f with
          | zero => omega
          | succ f =>
            rw [cutF, if_pos hlt] at hc
            have HC := Lib.hid hc
            clear hc
            go_wp2_with fail
            go_round
            case rel => exact ⟨2 * k, f, by go_num, by omega, by omega, by omega, HC.out⟩
            case measure => simp [intOf]; omega
        · have hl : ¬ 2 * (k : Int) < (m : Int) := by omega
          rw [cutF_stop f k m hlt] at hc
          obtain ⟨hb, hd, hj, hm, hdl, hm2⟩ := HJ.out
          have hk1 := mcut_pos m
          have hk2 := mcut_lt m (by omega)
          have hml := mway_left j m (by omega)
          have hmr := mway_right j m (by omega)
          rw [← hc] at hk1 hk2 hml hmr
          clear hf hlt h0 hk hc f
          by_cases hjk : j < k
          · have zjk : (j : Int) < (k : Int) := by omega
            rw [hml hjk] at hd
            obtain ⟨v2, w2, hr2, m2⟩ := bmine_push hb (by omega) false 148
            obtain ⟨A2, c2, rfl, _⟩ := m2.len
            rw [show (d ++ [false]).length = d.length + 1 by simp] at hr2 m2
            have hF := Lib.hid (And.intro m2 (And.intro (show (d ++ [false]) ++ mway j k = W by rw [← hd]; simp) (And.intro hjk (And.intro hk2 hm))))
            have z1 : decide (k ≤ j) = false := by simpa using hjk
            clear hb hd hj hm hm2 hml hmr m2 hjk hk1 hk2
            go_wp2_with (at_builtin; refine wpList_append_at rfl (.tmp 27) (.tmp 31) rfl hr2 rfl rfl ?_)
            clear hr2
            have hk2 := hF.out.2.2.2.1
            have hm := hF.out.2.2.2.2
            go_roundw
            case rel => exact ⟨j, k, d ++ [false], A2, c2, rfl, rfl, by simp, by simpa using hF.out.1, hF.out.2.1, hF.out.2.2.1, by omega⟩
            case measure => (simp [intOf] <;> omega)
          · have zjk : ¬ (j : Int) < (k : Int) := by omega
            rw [hmr hjk] at hd
            obtain ⟨v2, w2, hr2, m2⟩ := bmine_push hb (by omega) true 148
            obtain ⟨A2, c2, rfl, _⟩ := m2.len
            rw [show (d ++ [true]).length = d.length + 1 by simp] at hr2 m2
            have hF := Lib.hid (And.intro m2 (And.intro (show (d ++ [true]) ++ mway (j - k) (m - k) = W by rw [← hd]; simp) (And.intro (show j - k < m - k by omega) (And.intro hk2 (And.intro hm (And.intro hk1 (show k ≤ j by omega)))))))
            have z1 : decide (k ≤ j) = true := by simp; omega
            have w1 : IntKind.i64.wrap ((j : Int) - (k : Int)) = ((j - k : Nat) : Int) := by rw [IntWalk.i64_in _ (by omega)]; omega
            have w2' : IntKind.i64.wrap ((m : Int) - (k : Int)) = ((m - k : Nat) : Int) := by rw [IntWalk.i64_in _ (by omega)]; omega
            clear hb hd hj hm hm2 hml hmr m2 hjk hk1 hk2
            go_wp2_with (at_builtin; refine wpList_append_at rfl (.tmp 27) (.tmp 31) rfl hr2 rfl rfl ?_)
            clear hr2
            have hk2 := hF.out.2.2.2.1
            have hm := hF.out.2.2.2.2
            go_roundw
            case rel => exact ⟨j - k, m - k, d ++ [true], A2, c2, rfl, rfl, by simp, by simpa using hF.out.1, hF.out.2.1, hF.out.2.2.1, by omega⟩
            case measure => (simp [intOf] <;> omega)
    · obtain rfl : m = 1 := by omega
      obtain rfl : j = 0 := by omega
      rw [mway_few 0 1 (by omega), List.append_nil] at hd
      subst hd
      have z1 : ¬ (1 : Int) < 1 := by omega
      have hlen := hb.len
      obtain ⟨A0, c0, hv, hc0⟩ := hlen
      injection hv with e1 e2 e3
      subst e1 e3
      clear e2
      rcases Nat.eq_zero_or_pos d.length with h0 | h0
      · have hd0 : d = [] := List.eq_nil_of_length_eq_zero h0
        have RV := Lib.hid (Reverse_zero A c wr)
        have HT := Lib.hid hb.turns
        subst hd0
        clear hb hj hm hm2 hdl h0 H0
        simp only [List.length_nil]
        go_wp2_with fail
        refine RV.out.mono ?_
        rintro e w3 ⟨rfl, rfl⟩
        clear RV
        go_wp2_with fail
        go_ret2
        exact ⟨A, c, rfl, Nat.zero_le _, fun h => absurd rfl h, HT.out⟩
      · obtain ⟨g, c1, hv, hc1, _, hg1, hg2, hcell⟩ := own_cells hb.own h0
        injection hv with e1 e2 e3
        subst e1 e3
        clear e2
        have hBC : BCells wr g d := fun j x hx => hcell j (.bool x) (by simp [bools, hx])
        have RV := Lib.hid (Reverse_any g d.length c d rfl h0 (by omega) wr hBC)
        have HT := Lib.hid (And.intro hb.turns (And.intro hg1 (And.intro hg2 hc0)))
        obtain ⟨L, hL⟩ : ∃ L, L = d.length := ⟨_, rfl⟩
        have HL := Lib.hid hL
        rw [← hL] at RV
        simp only [← hL] at h0 ⊢
        clear hb hj hm hm2 hdl hcell hBC H0 hc0 hg1 hg2 hL
        go_wp2_with fail
        refine RV.out.mono ?_
        rintro e w3 ⟨rfl, hbc, t3⟩
        have HR := Lib.hid (And.intro hbc t3)
        clear RV hbc t3
        go_wp2_with fail
        go_ret2
        have hT := HT.out
        have hLL := HL.out
        refine ⟨some ⟨g, 0, none⟩, c, by subst hLL; rfl, by omega, fun _ => ⟨g, rfl, hT.2.1, Nat.lt_of_lt_of_le hT.2.2.1 HR.out.2.size, HR.out.1⟩, hT.1.trans HR.out.2 (by intro x hx; simp at hx; subst hx; exact .inr hT.2.1)⟩

theorem root_pair (a b : List UInt8) : mroot [a, b] = twoH a b := by
  rw [mroot_two [a, b] (by simp)]
  have e : mcut [a, b].length = 1 := rfl
  rw [e]
  simp [mroot_one]
set_option maxRecDepth 100000 in
set_option maxHeartbeats 4000000 in
/-- What a proof leads a leaf to. -/
theorem led_in (leaf : List UInt8) (hf : leaf.length = 32) (i n : Nat) (hi : i < n) (hn : n ≤ 1048576) (p : List (List UInt8)) (m : Nat) (hpm : p.length = m) (hpw : (mway i n).length = m) (A : Option Addr) (c B : Nat) (w : World) (h : Hs w B (.slice A m c) p) (hB : B ≤ w.heap.size) :
    Calls Tryz.prog 53 #[.agg (bvs leaf).toArray, .int .i64 i, .int .i64 n, .slice A m c] w fun e w' => e = .returned (.tuple #[.agg (bvs (mled leaf i n p)).toArray, .bool true]) ∧ Turns [] w w' := by
  obtain ⟨zz, hzz⟩ : ∃ z, z = bvs (zeros 32) := ⟨_, rfl⟩
  have hzl : zz.length = 32 := by rw [hzz, bvs_length, zeros_length]
  have hz32 := zero_hash
  rw [← hzz] at hz32
  obtain ⟨lf, hlf⟩ : ∃ z, z = bvs leaf := ⟨_, rfl⟩
  have hll : lf.length = 32 := by rw [hlf, bvs_length, hf]
  have HLF := Lib.hid (And.intro hlf (And.intro hll (show ∀ u ∈ lf, u.oneCell' = true by rw [hlf]; exact bvs_one _)))
  have hsl := Lib.hid (show (Tryz.prog.info? 53).map (·.size) = some lf.length by rw [size_hash, hll])
  rw [← hlf]
  have hl20 := mway_le 20 n i (by omega)
  obtain ⟨W, hW⟩ : ∃ W, W = mway i n := ⟨_, rfl⟩
  rw [← hW] at hl20 hpw
  have PL := fun W' => place_any i n hi hn W'
  simp only [← hW, hpw] at PL
  have PL := Lib.hid PL
  obtain ⟨p4, hp4⟩ : ∃ q, q = w.heap.size := ⟨_, rfl⟩
  obtain ⟨x1, hx1⟩ : ∃ x, x = w.alloc (.cells lf.toArray 53) := ⟨_, rfl⟩
  have b4 := Blk.new w lf 53
  rw [← hx1, ← hp4] at b4
  have hs1 : x1.heap.size = p4 + 1 := by rw [hx1, hp4]; simp
  have t1 : Turns [] w x1 := by rw [hx1]; exact (Turns.refl _ _).alloc _
  obtain ⟨p8, hp8⟩ : ∃ q, q = p4 + 1 := ⟨_, rfl⟩
  obtain ⟨x2, hx2⟩ : ∃ x, x = x1.alloc (.cells zz.toArray 53) := ⟨_, rfl⟩
  have b8 := Blk.new x1 zz 53
  rw [← hx2, hs1, ← hp8] at b8
  have t2 : Turns [] x1 x2 := by rw [hx2]; exact (Turns.refl _ _).alloc _
  have hs2 : x2.heap.size = p8 + 1 := by rw [hx2, hp8, ← hs1]; simp
  have HB10 := Lib.hid (Blk.new x2 zz 53)
  have t3 : Turns [] x2 (x2.alloc (.cells zz.toArray 53)) := (Turns.refl _ _).alloc _
  have HX := Lib.hid (And.intro hx1 (And.intro hp4 (And.intro hx2 hp8)))
  have HB4 := Lib.hid ((b4.turns t2 (by simp)).turns t3 (by simp))
  have b42 := Lib.hid (b4.turns t2 (by simp))
  have HPP := Lib.hid (And.intro hs2 (And.intro hp8 hp4))
  have H0 := Lib.hid (And.intro (b8.turns t3 (by simp)) (And.intro ((t1.trans t2 (by simp)).trans t3 (by simp)) (And.intro h (And.intro hB (And.intro hf (And.intro hW (And.intro hpm (And.intro hl20 hpw))))))))
  have HZL := Lib.hid (And.intro (show zz.length = lf.length by rw [hzl, hll]) (And.intro hzl (And.intro (show (Tryz.prog.info? 53).map (·.size) = some zz.length by rw [size_hash, hzl]) (show ∀ u ∈ zz, u.oneCell' = true by rw [hzz]; exact bvs_one _))))
  have hmm : (m : Int) ≤ 20 := by omega
  have hm20 : m ≤ 20 := by omega
  clear hzz hlf hll hp4 hx1 b4 hs1 t1 hp8 hx2 b8 t2 hs2 t3 h hB hf hW hpm hl20 hzl hpw
  have z0 : ¬ (0 : Int) < 0 := by omega
  have zq : (m != m) = false := by simp
  go_enter Tryz.func53, Tryz.ntmps53
  go_upto_region 1 with (first | (refine wpList_alloc_arr (o := ⟨some 8, _, _, _, _, _⟩) rfl 53 rfl zz.toArray hz32 ?_) | fail)
  try simp only [Act.put, List.setIfInBounds_toArray, List.set_cons_succ, List.set_cons_zero]
  rw [← HX.out.1, ← HX.out.2.2.1, ← HX.out.2.1, ← HX.out.2.2.2]
  go_upto_region 2 with (first
    | (refine wpList_load_blk rfl 53 (.tmp 4) rfl p4 (by kernel_rfl) lf _ _ b42.out Tryz.underlying53 rfl hsl.out ?_)
    | (refine wpList_alloc_arr (o := ⟨some 10, _, _, _, _, _⟩) rfl 53 rfl zz.toArray hz32 ?_)
    | (refine wpList_store_blk rfl 53 (.tmp 10) (.tmp 15) rfl x2.heap.size (by kernel_rfl) lf zz 53 (by kernel_rfl) HB10.out HZL.out.1 hsl.out HLF.out.2.2 (fun w9 hb9 ht9 hs9 => ?_); have HQ := Lib.hid (And.intro hb9 ht9); clear hb9 ht9 hs9)
    | fail)
  try simp only [Act.put, List.setIfInBounds_toArray, List.set_cons_succ, List.set_cons_zero]
  obtain ⟨p10, hp10⟩ : ∃ q, q = x2.heap.size := ⟨_, rfl⟩
  rw [← hp10] at HQ ⊢
  have HP10 := Lib.hid hp10
  clear hp10
  go_wp2_with fail
  refine (PL.out w9).mono ?_
  rintro e X1 ⟨A2, c2, rfl, hc2, hbr, t2⟩
  have HB := Lib.hid (And.intro hbr (And.intro t2 hc2))
  have h8 := (H0.out.1.turns HQ.out.2 (by simp; have := HP10.out; have := HPP.out; omega)).turns t2 (by simp)
  have HB8' := Lib.hid h8
  have HS := Lib.hid (show Blk X1 p10 (bvs (fold2 leaf ((W.reverse.zip p).take 0))) 53 by rw [List.take_zero]; exact HLF.out.1 ▸ (HQ.out.1.turns t2 (by simp)))
  clear PL hbr t2 hc2 h8
  go_wp2_with fail
  go_loopw [34] (fun u wr => ∃ k : Nat, k ≤ m ∧ u = .int .i64 k ∧ Blk wr p10 (bvs (fold2 leaf ((W.reverse.zip p).take k))) 53 ∧ Turns [p10] X1 wr) (fun u _ => m - (intOf u).toNat)
  case atStart => exact ⟨0, by omega, rfl, HS.out, Turns.refl _ _⟩
  case round =>
    obtain ⟨k, hk, rfl, v6, td⟩ := hrel
    obtain ⟨_, htx, hhs, hB, hf, hW, hpm, hl20, hpw⟩ := H0.out
    by_cases hlt : k < m
    · have hki : (k : Int) < (m : Int) := by omega
      have hkr : k < W.reverse.length := by simp; omega
      have hkp : k < p.length := by omega
      have hkz : k < (W.reverse.zip p).length := by simp; omega
      have hstep : (W.reverse.zip p).take (k + 1) = (W.reverse.zip p).take k ++ [(W.reverse[k], p[k])] := by
        rw [List.take_succ_eq_append_getElem hkz]; simp
      have hWne : W.reverse ≠ [] := by intro h; rw [h] at hkr; simp at hkr
      obtain ⟨g, rfl, hglo, hg, hbc⟩ := HB.out.1 hWne
      have cb := (hbc k _ (List.getElem?_eq_getElem hkr)).1
      obtain ⟨b0, off, rfl, hb0, r0⟩ := hhs.at_ (i := k) hkp
      have hpl := hhs.all _ (List.getElem_mem hkp)
      obtain ⟨b, hbb⟩ : ∃ b, b = W.reverse[k] := ⟨_, rfl⟩
      obtain ⟨x, hxx⟩ : ∃ x, x = p[k] := ⟨_, rfl⟩
      rw [← hbb, ← hxx] at hstep
      rw [← hbb] at cb
      rw [← hxx] at r0 hpl
      have hfl := fold2_len leaf hf ((W.reverse.zip p).take k)
      have hfs := fold2_snoc leaf ((W.reverse.zip p).take k) (b, x)
      rw [← hstep] at hfs
      obtain ⟨y, hy⟩ : ∃ y, y = fold2 leaf ((W.reverse.zip p).take k) := ⟨_, rfl⟩
      rw [← hy] at v6 hfl hfs
      have hp10lt := HQ.out.1.lt
      have hgp : g ≠ p10 := by omega
      have hbp : b0 ≠ p10 := by have := HP10.out; have := HPP.out; omega
      have hlo : Turns [] w wr := ((htx.trans HQ.out.2 (by intro x hx; simp at hx; exact .inr (by have := HP10.out; have := HPP.out; omega))).trans HB.out.2.1 (by simp)).trans td (by intro x hx; simp at hx; exact .inr (by have := HP10.out; have := HPP.out; omega))
      have cb := cellL td cb (by simpa using hgp)
      have r0 := rangeV hlo r0
      have HB14 := Lib.hid (And.intro (Blk.new wr zz 53) ((Turns.refl [] wr).alloc (.cells zz.toArray 53)))
      have hsx := Lib.hid (show (Tryz.prog.info? 53).map (·.size) = some (bvs x).length by rw [size_hash, bvs_length, hpl])
      have hsy := Lib.hid (show (Tryz.prog.info? 53).map (·.size) = some (bvs y).length by rw [size_hash, bvs_length, hfl])
      have HXL := Lib.hid (show zz.length = (bvs x).length by rw [HZL.out.2.1, bvs_length, hpl])
      have HT2 := Lib.hid (And.intro (show ∀ u v, (bvs y).length = (bvs (twoH u v)).length from fun u v => by rw [bvs_length, bvs_length, hfl, twoH_len]) (show ∀ u v, (Tryz.prog.info? 53).map (·.size) = some (bvs (twoH u v)).length from fun u v => by rw [size_hash, bvs_length, twoH_len]))
      have HF := Lib.hid (And.intro hpl hfl)
      have HV := Lib.hid (And.intro v6 td)
      clear hkr hkp hkz hstep hWne hg hglo hbc hpl hbb hxx hfl hy v6 td hgp hbp hb0 hhs htx hB hf hW hpm hl20 hpw hlo hp10lt hlt hk
      go_upto_region 8 with (first
        | (refine wpList_load_mid rfl 53 (.tmp 37) rfl b0 (off + k * 32) rfl _ _ r0 Tryz.underlying53 rfl hsx.out ?_)
        | (refine wpList_alloc_arr (o := ⟨some 14, _, _, _, _, _⟩) rfl 53 rfl zz.toArray hz32 ?_)
        | (refine wpList_store_blk rfl 53 (.tmp 14) (.tmp 38) rfl wr.heap.size (by kernel_rfl) (bvs x) zz 53 (by kernel_rfl) HB14.out.1 HXL.out hsx.out (bvs_one _) (fun w7 hb7 ht7 hs7 => ?_); have HQ7 := Lib.hid (And.intro hb7 ht7); clear hb7 ht7 hs7)
        | fail)
      try simp only [Act.put, List.setIfInBounds_toArray, List.set_cons_succ, List.set_cons_zero]
      obtain ⟨p14, hp14⟩ : ∃ q, q = wr.heap.size := ⟨_, rfl⟩
      rw [← hp14] at HQ7 ⊢
      have t7 : Turns [] wr w7 := HB14.out.2.trans HQ7.out.2 (by intro x hx; simp at hx; exact .inr (by omega))
      have cb := cellV t7 cb
      have HM := Lib.hid (And.intro HQ7.out.1 (And.intro (HV.out.1.turns t7 (by simp)) (HV.out.2.trans t7 (by simp))))
      clear t7 hp14 r0
      cases b with
      | true =>
        rw [if_pos rfl] at hfs
        have HFS := Lib.hid hfs
        have HRT := Lib.hid (by have h := Root_any 2 [x, y] 2 rfl (Nat.le_refl _) (by omega) (some ⟨w7.heap.size, 0, none⟩) 2 (w7.heap.size + 1) (w7.alloc (.cells (hcells [x, y]).toArray 53)) (Hs.lit w7 [x, y] (by intro h hh; simp at hh; rcases hh with rfl | rfl; exact HF.out.1; exact HF.out.2) (by simp [maxLen]) _) (by simp); rw [root_pair] at h; exact h : Calls Tryz.prog 64 #[.slice (some ⟨w7.heap.size, 0, none⟩) 2 2] (w7.alloc (.cells (hcells [x, y]).toArray 53)) fun e w' => e = .returned (.agg (bvs (twoH x y)).toArray) ∧ Turns [] (w7.alloc (.cells (hcells [x, y]).toArray 53)) w')
        clear hfs
        go_wp2_with (first
          | (refine wpList_load_blk rfl 53 (.tmp 14) rfl p14 (by kernel_rfl) (bvs x) _ _ HM.out.1 Tryz.underlying53 rfl hsx.out ?_)
          | (refine wpList_load_blk rfl 53 (.tmp 10) rfl p10 (by kernel_rfl) (bvs y) _ _ HM.out.2.1 Tryz.underlying53 rfl hsy.out ?_)
          | (refine wpList_build_hash2 (o := ⟨some 45, _, _, _, _, _⟩) rfl x y HF.out.1 HF.out.2 (.tmp 43) (.tmp 44) rfl (by kernel_rfl) (by kernel_rfl) ?_)
          | fail)
        refine HRT.out.mono ?_
        rintro e w8 ⟨rfl, t8⟩
        have t8 : Turns [] w7 w8 := ((Turns.refl [] w7).alloc _).trans t8 (by simp)
        have HB8 := Lib.hid (And.intro (HM.out.2.1.turns t8 (by simp)) t8)
        clear t8 HRT
        go_wp2_with (first
          | (refine wpList_store_blk rfl 53 (.tmp 10) (.tmp 46) rfl p10 (by kernel_rfl) (bvs (twoH x y)) (bvs y) 53 (by kernel_rfl) HB8.out.1 (HT2.out.1 _ _) (HT2.out.2 _ _) (bvs_one _) (fun w9 hb9 ht9 hs9 => ?_); have HQ9 := Lib.hid (And.intro hb9 ht9); clear hb9 ht9 hs9)
          | fail)
        go_roundw
        case rel => exact ⟨k + 1, by omega, by go_num, by rw [HFS.out]; exact HQ9.out.1, ((HM.out.2.2.trans (HB8.out.2.mono (by simp)) (fun x hx => .inl hx)).trans HQ9.out.2 (fun x hx => .inl hx))⟩
        case measure => (simp [intOf] <;> omega)
      | false =>
        rw [if_neg (by simp)] at hfs
        have HFS := Lib.hid hfs
        have HRT := Lib.hid (by have h := Root_any 2 [y, x] 2 rfl (Nat.le_refl _) (by omega) (some ⟨w7.heap.size, 0, none⟩) 2 (w7.heap.size + 1) (w7.alloc (.cells (hcells [y, x]).toArray 53)) (Hs.lit w7 [y, x] (by intro h hh; simp at hh; rcases hh with rfl | rfl; exact HF.out.2; exact HF.out.1) (by simp [maxLen]) _) (by simp); rw [root_pair] at h; exact h : Calls Tryz.prog 64 #[.slice (some ⟨w7.heap.size, 0, none⟩) 2 2] (w7.alloc (.cells (hcells [y, x]).toArray 53)) fun e w' => e = .returned (.agg (bvs (twoH y x)).toArray) ∧ Turns [] (w7.alloc (.cells (hcells [y, x]).toArray 53)) w')
        clear hfs
        go_wp2_with (first
          | (refine wpList_load_blk rfl 53 (.tmp 14) rfl p14 (by kernel_rfl) (bvs x) _ _ HM.out.1 Tryz.underlying53 rfl hsx.out ?_)
          | (refine wpList_load_blk rfl 53 (.tmp 10) rfl p10 (by kernel_rfl) (bvs y) _ _ HM.out.2.1 Tryz.underlying53 rfl hsy.out ?_)
          | (refine wpList_build_hash2 (o := ⟨some 49, _, _, _, _, _⟩) rfl y x HF.out.2 HF.out.1 (.tmp 47) (.tmp 48) rfl (by kernel_rfl) (by kernel_rfl) ?_)
          | fail)
        refine HRT.out.mono ?_
        rintro e w8 ⟨rfl, t8⟩
        have t8 : Turns [] w7 w8 := ((Turns.refl [] w7).alloc _).trans t8 (by simp)
        have HB8 := Lib.hid (And.intro (HM.out.2.1.turns t8 (by simp)) t8)
        clear t8 HRT
        go_wp2_with (first
          | (refine wpList_store_blk rfl 53 (.tmp 10) (.tmp 50) rfl p10 (by kernel_rfl) (bvs (twoH y x)) (bvs y) 53 (by kernel_rfl) HB8.out.1 (HT2.out.1 _ _) (HT2.out.2 _ _) (bvs_one _) (fun w9 hb9 ht9 hs9 => ?_); have HQ9 := Lib.hid (And.intro hb9 ht9); clear hb9 ht9 hs9)
          | fail)
        go_roundw
        case rel => exact ⟨k + 1, by omega, by go_num, by rw [HFS.out]; exact HQ9.out.1, ((HM.out.2.2.trans (HB8.out.2.mono (by simp)) (fun x hx => .inl hx)).trans HQ9.out.2 (fun x hx => .inl hx))⟩
        case measure => (simp [intOf] <;> omega)
    · obtain rfl : k = m := by omega
      have hzl : (W.reverse.zip p).length ≤ k := by simp; omega
      rw [List.take_of_length_le hzl] at v6
      have hfl := fold2_len leaf hf (W.reverse.zip p)
      obtain ⟨y, hy⟩ : ∃ y, y = mled leaf i n p := ⟨_, rfl⟩
      have HY := Lib.hid hy
      rw [show fold2 leaf (W.reverse.zip p) = y by rw [hy]; unfold mled; rw [← hW]] at v6 hfl
      have hsy := Lib.hid (show (Tryz.prog.info? 53).map (·.size) = some (bvs y).length by rw [size_hash, bvs_length, hfl])
      have HYL := Lib.hid (show zz.length = (bvs y).length by rw [HZL.out.2.1, bvs_length, hfl])
      have HV := Lib.hid (And.intro v6 (And.intro (HB8'.out.turns td (by simp; have := HP10.out; have := HPP.out; omega)) (((htx.trans HQ.out.2 (by intro x hx; simp at hx; exact .inr (by have := HP10.out; have := HPP.out; omega))).trans HB.out.2.1 (by simp)).trans td (by intro x hx; simp at hx; exact .inr (by have := HP10.out; have := HPP.out; omega)))))
      have HPW := Lib.hid (show w.heap.size ≤ p8 by have := HPP.out; omega)
      clear v6 td hzl hfl hy hhs htx hB hf hW hpm hl20 hpw hk hlt
      go_wp2_with (first
        | (refine wpList_load_blk rfl 53 (.tmp 10) rfl p10 (by kernel_rfl) (bvs y) _ _ HV.out.1 Tryz.underlying53 rfl hsy.out ?_)
        | (refine wpList_store_blk rfl 53 (.tmp 8) (.tmp 52) rfl p8 (by kernel_rfl) (bvs y) zz 53 (by kernel_rfl) HV.out.2.1 HYL.out hsy.out (bvs_one _) (fun w9 hb9 ht9 hs9 => ?_); have HQ9 := Lib.hid (And.intro hb9 ht9); clear hb9 ht9 hs9)
        | fail)
      refine bodyPost_ret (results_two rfl _ _ p8 _ _ _ (.bool true) (by kernel_rfl) (by kernel_rfl) HQ9.out.1 Tryz.underlying53 rfl (by rw [List.size_toArray]; exact hsy.out)) rfl ?_
      exact ⟨by rw [HY.out], HV.out.2.2.trans HQ9.out.2 (by intro x hx; simp at hx; exact .inr (by have := HPW.out; omega))⟩
end Go.Proofs.YtoahnhphfabajaaGreat
