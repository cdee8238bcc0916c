/- LedgerCloses, walked. -/
import Derived.Test.YtoahnhphfabajaaGreatGs2
import Derived.Test.YtoahnhphfabajaaGreatLe2
import Derived.Test.YtoahnhphfabajaaGreatLdP
namespace Go.Proofs.YtoahnhphfabajaaGreat
open Go.RowKit
set_option linter.unusedVariables false
set_option maxRecDepth 10000
set_option linter.unusedSimpArgs false
set_option linter.unnecessarySimpa false

set_option maxRecDepth 100000 in
set_option maxHeartbeats 16000000 in
theorem LedgerCloses_walk (l : List Stp) (v : Value) (w0 : World) (hd : Deep StpR w0 (fun _ => True) 4 v l) (hf : ∀ s ∈ l, s.fits) :
    Calls Tryz.prog 4 #[v] w0 fun e w' => e = .returned (.bool true) ∧ Below w0.heap.size w0 w' := by
  obtain ⟨A, c, rfl, _⟩ := hd.form
  have KN := Lib.hid (known14_any w0)
  have HD := Lib.hid (And.intro hd hf)
  clear hd hf
  obtain ⟨n, hn⟩ : ∃ n, n = l.length := ⟨_, rfl⟩
  have HNL := Lib.hid hn
  rw [← hn]
  clear hn
  go_enter Tryz.func4, Tryz.ntmps4
  go_wp2_with fail
  refine KN.out.mono ?_
  rintro e w1 ⟨rfl, t1⟩
  have hd1 := HD.out.1.keep StpR.lasts (t1.keeps0 _)
  have FW := Lib.hid (by have h := Few14_any l (.slice A l.length c) _ w1 hd1 HD.out.2; rw [← HNL.out] at h; exact h : Calls Tryz.prog 7 #[.slice A n c] w1 fun e w' => e = .returned (.bool (fewSs l)) ∧ Turns [] w1 w')
  have H1 := Lib.hid (And.intro t1 hd1)
  clear t1 hd1 KN
  go_wp2_with fail
  refine FW.out.mono ?_
  rintro e w2 ⟨rfl, t2⟩
  have t02 := Lib.hid (H1.out.1.trans t2 (by simp))
  have HD2 := Lib.hid (H1.out.2.keep StpR.lasts (t2.keeps0 _))
  clear t2 FW
  cases hfew : fewSs l
  · go_wp2_with fail
    go_ret
    exact ⟨rfl, below_of' t02.out⟩
  have BD := Lib.hid (by have h := Build_any l (.slice A l.length c) _ w2 HD2.out HD.out.2 hfew; rw [← HNL.out] at h; exact h : Calls Tryz.prog 21 #[.slice A n c] w2 _)
  have hinv := bldL_inv HD.out.2 hfew
  obtain ⟨L, hL⟩ : ∃ L, L = bldL l := ⟨_, rfl⟩
  rw [← hL] at BD hinv
  have HI := Lib.hid hinv.1
  have HLL := Lib.hid hL
  clear hL hinv
  go_wp2_with fail
  refine BD.out.mono ?_
  rintro e w3 ⟨ov, bv, tv, rfl, l3, t3⟩
  obtain ⟨A1, c1, rfl, _⟩ := l3.opn.form
  obtain ⟨A2, c2, rfl, _⟩ := l3.blks.form'
  obtain ⟨A3, c3, rfl, _⟩ := l3.txs.form
  have OF := Lib.hid (Of_any L HI.out.ok _ _ _ _ w3 l3)
  have H3 := Lib.hid (t02.out.trans t3 (by simp))
  clear l3 t3 BD
  go_wp2_with fail
  refine OF.out.mono ?_
  rintro e w4 ⟨bv4, rfl, l4, t4⟩
  obtain ⟨A4, c4, rfl, _⟩ := l4.blks.form'
  obtain ⟨p7, hp4⟩ : ∃ x, x = w4.heap.size := ⟨_, rfl⟩
  obtain ⟨x7, hx4⟩ : ∃ x, x = w4.alloc (.cells #[.int .i64 L.next, .slice A1 L.opn.length c1, .slice A4 L.blks.length c4, .slice A3 L.txs.length c3] 29) := ⟨_, rfl⟩
  have b4 := Blk.new w4 [.int .i64 L.next, .slice A1 L.opn.length c1, .slice A4 L.blks.length c4, .slice A3 L.txs.length c3] 29
  rw [show w4.alloc (.cells [.int .i64 L.next, .slice A1 L.opn.length c1, .slice A4 L.blks.length c4, .slice A3 L.txs.length c3].toArray 29) = x7 from hx4.symm, ← hp4] at b4
  have tx4 : Turns [] w4 x7 := by rw [hx4]; exact (Turns.refl _ _).alloc _
  have H7 := Lib.hid (And.intro b4 (And.intro (l4.keep (tx4.keeps0 _)) ((H3.out.trans t4 (by simp)).trans tx4 (by simp))))
  have HX4 := Lib.hid (And.intro hx4 hp4)
  clear b4 t4 tx4 l4 hx4 hp4 OF
  go_upto_region 6 with fail
  rw [← HX4.out.1, ← HX4.out.2]
  obtain ⟨nO, hnO⟩ : ∃ n, n = L.opn.length := ⟨_, rfl⟩
  obtain ⟨nb, hnb⟩ : ∃ n, n = L.blks.length := ⟨_, rfl⟩
  obtain ⟨nT, hnT⟩ : ∃ n, n = L.txs.length := ⟨_, rfl⟩
  have hb9 : nb ≤ 1000 := by have h1 := HI.out.few; have h2 := HI.out.bt; have h3 := (bldL_inv HD.out.2 hfew).2; rw [← HLL.out] at h3; omega
  have hnbT : nb = nT := by rw [hnb, hnT]; exact HI.out.bt
  have HN := Lib.hid (And.intro hnO (And.intro hnb hnT))
  have hn40 : L.next ≤ 40 := by have h3 := (bldL_inv HD.out.2 hfew).2; rw [← HLL.out] at h3; exact h3
  have HNX := Lib.hid hn40
  have b7 := H7.out.1
  rw [← hnO, ← hnb, ← hnT] at b7
  have R7 := b7.all
  have hz7 := size_led (.int .i64 L.next) (.slice A1 nO c1) (.slice A4 nb c4) (.slice A3 nT c3)
  have HB7 := Lib.hid b7
  have h7c := b7.cell 1
  simp only [List.getElem?_cons_zero, List.getElem?_cons_succ] at h7c
  have H7C := Lib.hid h7c
  have HR7 := Lib.hid (And.intro hnO (And.intro hnb hnT))
  clear b7 h7c hn40
  have HBT := Lib.hid hnbT
  clear hnbT
  by_cases h0 : nO = 0
  · have hkb : ((nO : Int) == 0) = true := beq_iff_eq.2 (by omega)
    have hL0 : L.opn = [] := List.eq_nil_of_length_eq_zero (by omega)
    have CO1 := Lib.hid (by have h := Close_none L HI.out.ok hL0 _ _ _ _ x7 H7.out.2.1; rw [← hnO, ← hnb, ← hnT] at h; exact h)
    have HL0 := Lib.hid hL0
    clear hL0 hnO hnb hnT h0
    go_wp2_with (first
      | (refine wpList_load_mid rfl 29 (.tmp 3) rfl p7 0 rfl _ _ R7 Tryz.underlying29 rfl hz7 ?_)
      | fail)
    refine CO1.out.mono ?_
    rintro e w5 ⟨ov, bv, tv, rfl, l5, t5⟩
    obtain ⟨B1, Bc1, hf1, _⟩ := l5.opn.form
    obtain ⟨B2, Bc2, hf2, _⟩ := l5.blks.form'
    obtain ⟨B3, Bc3, hf3, _⟩ := l5.txs.form
    obtain rfl : ov = .slice B1 nO Bc1 := by rw [hf1]; rw [HN.out.1]
    obtain rfl : bv = .slice B2 nb Bc2 := by rw [hf2]; rw [HN.out.2.1]
    obtain rfl : tv = .slice B3 nT Bc3 := by rw [hf3]; rw [HN.out.2.2]
    obtain ⟨p4, hpp⟩ : ∃ q, q = w5.heap.size := ⟨_, rfl⟩
    obtain ⟨x4, hxx⟩ : ∃ q, q = w5.alloc (.cells #[.int .i64 L.next, .slice B1 nO Bc1, .slice B2 nb Bc2, .slice B3 nT Bc3] 29) := ⟨_, rfl⟩
    have bb := Blk.new w5 [.int .i64 L.next, .slice B1 nO Bc1, .slice B2 nb Bc2, .slice B3 nT Bc3] 29
    rw [show w5.alloc (.cells [.int .i64 L.next, .slice B1 nO Bc1, .slice B2 nb Bc2, .slice B3 nT Bc3].toArray 29) = x4 from hxx.symm, ← hpp] at bb
    have tx : Turns [] w5 x4 := by rw [hxx]; exact (Turns.refl _ _).alloc _
    have HB := Lib.hid (And.intro bb (And.intro (l5.keep (tx.keeps0 _)) (t5.trans tx (by simp))))
    have HXB := Lib.hid (And.intro hxx hpp)
    clear hf1 hf2 hf3 bb tx l5 t5 hxx hpp CO1
    go_upto_region 7 with fail
    rw [← HXB.out.1, ← HXB.out.2]
    have R4 := HB.out.1.all
    have hz4 := size_led (.int .i64 L.next) (.slice B1 nO Bc1) (.slice B2 nb Bc2) (.slice B3 nT Bc3)
    have CO2 := Lib.hid (Close_none L HI.out.ok HL0.out _ _ _ _ x4 HB.out.2.1)
    clear R7
    go_wp2_with (first
      | (refine wpList_load_mid rfl 29 (.tmp 4) rfl p4 0 rfl _ _ R4 Tryz.underlying29 rfl hz4 ?_)
      | fail)
    refine CO2.out.mono ?_
    rintro e w6 ⟨ov, bv, tv, rfl, l5, t5⟩
    obtain ⟨C1, Cc1, hf1, _⟩ := l5.opn.form
    obtain ⟨C2, Cc2, hf2, _⟩ := l5.blks.form'
    obtain ⟨C3, Cc3, hf3, _⟩ := l5.txs.form
    obtain rfl : ov = .slice C1 nO Cc1 := by rw [hf1]; rw [HN.out.1]
    obtain rfl : bv = .slice C2 nb Cc2 := by rw [hf2]; rw [HN.out.2.1]
    obtain rfl : tv = .slice C3 nT Cc3 := by rw [hf3]; rw [HN.out.2.2]
    obtain ⟨p6, hpp⟩ : ∃ q, q = w6.heap.size := ⟨_, rfl⟩
    obtain ⟨x6, hxx⟩ : ∃ q, q = w6.alloc (.cells #[.int .i64 L.next, .slice C1 nO Cc1, .slice C2 nb Cc2, .slice C3 nT Cc3] 29) := ⟨_, rfl⟩
    have bb := Blk.new w6 [.int .i64 L.next, .slice C1 nO Cc1, .slice C2 nb Cc2, .slice C3 nT Cc3] 29
    rw [show w6.alloc (.cells [.int .i64 L.next, .slice C1 nO Cc1, .slice C2 nb Cc2, .slice C3 nT Cc3].toArray 29) = x6 from hxx.symm, ← hpp] at bb
    have tx : Turns [] w6 x6 := by rw [hxx]; exact (Turns.refl _ _).alloc _
    have HC := Lib.hid (And.intro bb (And.intro (l5.keep (tx.keeps0 _)) (t5.trans tx (by simp))))
    have HXC := Lib.hid (And.intro hxx hpp)
    clear hf1 hf2 hf3 bb tx l5 t5 hxx hpp CO2
    go_upto_region 8 with fail
    rw [← HXC.out.1, ← HXC.out.2]
    have t74 := HB.out.2.2
    have t46 := HC.out.2.2
    have t76 := t74.trans t46 (by simp)
    have q1 := cellV t76 H7C.out
    have R7 := (HB7.out.turns t76 (by simp)).all
    have R4 := (HB.out.1.turns t46 (by simp)).all
    have SM := Lib.hid (Same_same L HI.out.ok _ _ _ _ _ _ _ _ x6 (H7.out.2.1.keep (t76.keeps0 _)) (HB.out.2.1.keep (t46.keeps0 _)))
    have HT := Lib.hid (H7.out.2.2.trans t76 (by simp))
    rw [← HN.out.1, ← HN.out.2.1, ← HN.out.2.2] at SM
    clear t74 t46 t76
    go_wp2_with (first
      | (refine wpList_load_g (by rfl) 29 (.tmp 3) rfl p7 0 rfl _ _ R7 Tryz.underlying29 rfl hz7 ?_)
      | (refine wpList_load_g (by rfl) 29 (.tmp 4) rfl p4 0 rfl _ _ R4 Tryz.underlying29 rfl hz4 ?_)
      | fail)
    refine SM.out.mono ?_
    rintro e w9 ⟨rfl, t9⟩
    have HFF := Lib.hid (below_of' (HT.out.trans t9 (by simp)))
    clear t9 SM R7 R4 q1
    go_wp2_with fail
    go_ret
    exact ⟨rfl, HFF.out⟩
  · have hkb : ((nO : Int) == 0) = false := beq_eq_false_iff_ne.2 (by omega)
    have hroom := HI.out.room (by have := HNX.out; omega)
    obtain ⟨M, hM⟩ : ∃ M, M = closeL L := ⟨_, rfl⟩
    have hIM : Inv M := by rw [hM]; exact HI.out.close (by omega) (by have := HNX.out; omega)
    obtain ⟨nb1, hnb1⟩ : ∃ n, n = nb + 1 := ⟨_, rfl⟩
    obtain ⟨nT1, hnT1⟩ : ∃ n, n = nT + 1 := ⟨_, rfl⟩
    have hMo : M.opn = [] := by rw [hM]; rfl
    have hMb : M.blks.length = nb1 := by rw [hM, hnb1, hnb]; simp [closeL]
    have hMt : M.txs.length = nT1 := by rw [hM, hnT1, hnT]; simp [closeL]
    have hMx : M.txs[nT]? = some L.opn := by rw [hM, hnT]; simp [closeL]
    have HM := Lib.hid (And.intro hMb hMt)
    have hMn : M.next = L.next := by rw [hM]; rfl
    have CO1 := Lib.hid (by have h := Close_any L HI.out.ok hroom.2.2 (by omega) _ _ _ _ x7 H7.out.2.1; rw [← hnO, ← hnb, ← hnT, ← hM] at h; exact h)
    have HMM := Lib.hid (And.intro hIM (And.intro hMo (And.intro hMx hMn)))
    have HNB := Lib.hid (And.intro hnb1 hnT1)
    clear hM hIM hMo hMb hMt hMx hMn hnO hnb hnT hnb1 hnT1 hroom h0
    go_wp2_with (first
      | (refine wpList_load_mid rfl 29 (.tmp 3) rfl p7 0 rfl _ _ R7 Tryz.underlying29 rfl hz7 ?_)
      | fail)
    refine CO1.out.mono ?_
    rintro e w5 ⟨ov, bv, tv, rfl, l5, t5⟩
    obtain ⟨B1, Bc1, hf1, _⟩ := l5.opn.form
    obtain ⟨B2, Bc2, hf2, _⟩ := l5.blks.form'
    obtain ⟨B3, Bc3, hf3, _⟩ := l5.txs.form
    obtain rfl : ov = .slice B1 0 Bc1 := by rw [hf1]; rw [HMM.out.2.1]; rfl
    obtain rfl : bv = .slice B2 nb1 Bc2 := by rw [hf2]; rw [HM.out.1]
    obtain rfl : tv = .slice B3 nT1 Bc3 := by rw [hf3]; rw [HM.out.2]
    obtain ⟨p4, hpp⟩ : ∃ q, q = w5.heap.size := ⟨_, rfl⟩
    obtain ⟨x4, hxx⟩ : ∃ q, q = w5.alloc (.cells #[.int .i64 L.next, .slice B1 0 Bc1, .slice B2 nb1 Bc2, .slice B3 nT1 Bc3] 29) := ⟨_, rfl⟩
    have bb := Blk.new w5 [.int .i64 L.next, .slice B1 0 Bc1, .slice B2 nb1 Bc2, .slice B3 nT1 Bc3] 29
    rw [show w5.alloc (.cells [.int .i64 L.next, .slice B1 0 Bc1, .slice B2 nb1 Bc2, .slice B3 nT1 Bc3].toArray 29) = x4 from hxx.symm, ← hpp] at bb
    have tx : Turns [] w5 x4 := by rw [hxx]; exact (Turns.refl _ _).alloc _
    have HB := Lib.hid (And.intro bb (And.intro (l5.keep (tx.keeps0 _)) (t5.trans tx (by simp))))
    have HXB := Lib.hid (And.intro hxx hpp)
    clear hf1 hf2 hf3 bb tx l5 t5 hxx hpp CO1
    go_upto_region 7 with fail
    rw [← HXB.out.1, ← HXB.out.2]
    have R4 := HB.out.1.all
    have hz4 := size_led (.int .i64 L.next) (.slice B1 0 Bc1) (.slice B2 nb1 Bc2) (.slice B3 nT1 Bc3)
    have CO2 := Lib.hid (by have h := Close_none M HMM.out.1.ok HMM.out.2.1 _ _ _ _ x4 HB.out.2.1; rw [HMM.out.2.2.2] at h; exact h)
    clear R7
    go_wp2_with (first
      | (refine wpList_load_mid rfl 29 (.tmp 4) rfl p4 0 rfl _ _ R4 Tryz.underlying29 rfl hz4 ?_)
      | fail)
    refine CO2.out.mono ?_
    rintro e w6 ⟨ov, bv, tv, rfl, l5, t5⟩
    obtain ⟨C1, Cc1, hf1, _⟩ := l5.opn.form
    obtain ⟨C2, Cc2, hf2, _⟩ := l5.blks.form'
    obtain ⟨C3, Cc3, hf3, _⟩ := l5.txs.form
    obtain rfl : ov = .slice C1 0 Cc1 := by rw [hf1]; rw [HMM.out.2.1]; rfl
    obtain rfl : bv = .slice C2 nb1 Cc2 := by rw [hf2]; rw [HM.out.1]
    obtain rfl : tv = .slice C3 nT1 Cc3 := by rw [hf3]; rw [HM.out.2]
    obtain ⟨p6, hpp⟩ : ∃ q, q = w6.heap.size := ⟨_, rfl⟩
    obtain ⟨x6, hxx⟩ : ∃ q, q = w6.alloc (.cells #[.int .i64 L.next, .slice C1 0 Cc1, .slice C2 nb1 Cc2, .slice C3 nT1 Cc3] 29) := ⟨_, rfl⟩
    have bb := Blk.new w6 [.int .i64 L.next, .slice C1 0 Cc1, .slice C2 nb1 Cc2, .slice C3 nT1 Cc3] 29
    rw [show w6.alloc (.cells [.int .i64 L.next, .slice C1 0 Cc1, .slice C2 nb1 Cc2, .slice C3 nT1 Cc3].toArray 29) = x6 from hxx.symm, ← hpp] at bb
    have tx : Turns [] w6 x6 := by rw [hxx]; exact (Turns.refl _ _).alloc _
    have HC := Lib.hid (And.intro bb (And.intro (l5.keep (tx.keeps0 _)) (t5.trans tx (by simp))))
    have HXC := Lib.hid (And.intro hxx hpp)
    clear hf1 hf2 hf3 bb tx l5 t5 hxx hpp CO2
    go_upto_region 8 with fail
    rw [← HXC.out.1, ← HXC.out.2]
    obtain ⟨Y, hY⟩ : ∃ q, q = x6.drew := ⟨_, rfl⟩
    have tY : Turns [] x6 Y := by rw [hY]; exact (Turns.refl _ _).drew
    have HYY := Lib.hid hY
    have t6Y := tY
    have t4Y := HC.out.2.2.trans tY (by simp)
    have t7Y := HB.out.2.2.trans t4Y (by simp)
    have q1 := cellV (HB.out.2.2.trans HC.out.2.2 (by simp)) H7C.out
    have b7Y := HB7.out.turns t7Y (by simp)
    have b4Y := HB.out.1.turns t4Y (by simp)
    have A0 := b7Y.cell 0
    have A1' := b7Y.cell 1
    have A2 := b7Y.cell 2
    have B0 := b4Y.cell 0
    have B1' := b4Y.cell 1
    have B2' := b4Y.cell 2
    have B3' := b4Y.cell 3
    simp only [List.getElem?_cons_zero, List.getElem?_cons_succ] at A0 A1' A2 B0 B1' B2' B3'
    have R4 := b4Y.all
    have R6 := (HC.out.1.turns tY (by simp)).all
    have hz6 := size_led (.int .i64 L.next) (.slice C1 0 Cc1) (.slice C2 nb1 Cc2) (.slice C3 nT1 Cc3)
    have hw1 : IntKind.i64.wrap ((nb : Int) + 1) = (nb1 : Int) := by rw [IntWalk.i64_in _ (by omega)]; have := HNB.out.1; omega
    have hnT9 : nT ≤ 1000 := by have := HBT.out; omega
    have hwt : IntKind.i64.wrap ((nT1 : Int) - 1) = (nT : Int) := by have := HNB.out.2; rw [IntWalk.i64_in _ (by omega)]; omega
    have hti : (nT : Int) < (nT1 : Int) := by have := HNB.out.2; omega
    obtain ⟨hMl, hMe⟩ := List.getElem?_eq_some_iff.1 HMM.out.2.2.1
    obtain ⟨bT, offT, cT, csT, hvT, _, _, _, rgT, hRT⟩ := (HB.out.2.1.keep (t4Y.keeps0 _)).txs.at_ (by omega) nT hMl
    injection hvT with e1 e2 e3
    subst e1 e3
    clear e2
    rw [hMe] at hRT
    obtain ⟨vx, rfl, dx⟩ := hRT
    have BX := rgT 0 _ rfl
    rw [Nat.add_zero, Nat.mul_one] at BX
    have E1 := Lib.hid (fun W (t : Turns [] Y W) => by
      have h := Same_same M HMM.out.1.ok _ _ _ _ _ _ _ _ W (HB.out.2.1.keep ((t4Y.trans t (by simp)).keeps0 _)) (HC.out.2.1.keep ((tY.trans t (by simp)).keeps0 _))
      rw [HMM.out.2.2.2] at h
      exact h)
    have E2 := Lib.hid (fun W (t : Turns [] Y W) => by
      have h := SameTxs_same L.opn HI.out.ok.opn HI.out.ok.otx _ _ _ _ W (dx.keep TxR.lasts (t.keeps0 _)) (H7.out.2.1.opn.keep TxR.lasts ((t7Y.trans t (by simp)).keeps0 _))
      rw [← HN.out.1] at h
      exact h)
    have HTY := Lib.hid (H7.out.2.2.trans t7Y (by simp))
    have S0 : Turns [] Y Y := Turns.refl _ _
    clear hY tY t6Y t4Y t7Y b7Y b4Y hMl hMe rgT dx
    go_upto_region 10 with fail
    refine rk0 (fun W => Turns [] Y W) (fun _ => True) 48 48 ?_
    rw [← HYY.out]
    refine rkA 0 37 1 (v := ?_) ?_ (.mk' S0 trivial) ?_
    rotate_left
    · intro W hS; go_simp; all_goals with_reducible rfl
    try simp only [sI, sS, sZ]
    refine rkA 1 38 3 (v := ?_) ?_ (.mk' S0 trivial) ?_
    rotate_left
    · intro W hS; go_simp; all_goals with_reducible rfl
    try simp only [sI, sS, sZ]
    refine rkA 2 39 7 (v := ?_) ?_ (.mk' S0 trivial) ?_
    rotate_left
    · intro W hS; go_simp; all_goals with_reducible rfl
    try simp only [sI, sS, sZ]
    refine rkA 3 40 15 (v := ?_) ?_ (.mk' S0 trivial) ?_
    rotate_left
    · intro W hS; go_simp; all_goals with_reducible rfl
    try simp only [sI, sS, sZ]
    refine rkA 4 41 31 (v := ?_) ?_ (.mk' S0 trivial) ?_
    rotate_left
    · intro W hS; go_simp; all_goals with_reducible rfl
    try simp only [sI, sS, sZ]
    refine rkA 5 42 63 (v := ?_) ?_ (.mk' S0 trivial) ?_
    rotate_left
    · intro W hS; go_simp; all_goals with_reducible rfl
    try simp only [sI, sS, sZ]
    refine rkA 6 43 127 (v := ?_) ?_ (.mk' S0 trivial) ?_
    rotate_left
    · intro W hS; go_simp; all_goals with_reducible rfl
    try simp only [sI, sS, sZ]
    refine rkY 7 44 255 rfl (yieldsIf_load_mid (by rfl) _ _ rfl p4 0 (by rfl) _ _ (fun W hS => rangeV hS R4) Tryz.underlying29 rfl hz4) (.mk' S0 trivial) ?_
    try simp only [sI, sS, sZ]
    refine rkY 8 45 511 rfl (yieldsIf_load_mid (by rfl) _ _ rfl p6 0 (by rfl) _ _ (fun W hS => rangeV hS R6) Tryz.underlying29 rfl hz6) (.mk' S0 trivial) ?_
    try simp only [sI, sS, sZ]
    refine rk1 9 1023 (fun K hK => ?_)
    go_simp
    refine (E1.out Y (Turns.refl [] Y)).mono ?_
    rintro e X46 ⟨rfl, D46⟩
    refine hK _ _ (.mk' ((Turns.refl [] Y).trans D46 (by simp)) trivial) ?_
    clear hK K
    try simp only [sI, sS, sZ]
    refine rkA 10 47 2047 (v := ?_) ?_ (.mk' ((Turns.refl [] Y).trans D46 (by simp)) trivial) ?_
    rotate_left
    · intro W hS; go_simp; all_goals with_reducible rfl
    try simp only [sI, sS, sZ]
    refine rkA 11 48 4095 (v := ?_) ?_ (.mk' ((Turns.refl [] Y).trans D46 (by simp)) trivial) ?_
    rotate_left
    · intro W hS; go_simp; all_goals with_reducible rfl
    try simp only [sI, sS, sZ]
    refine rkA 12 49 8191 (v := ?_) ?_ (.mk' ((Turns.refl [] Y).trans D46 (by simp)) trivial) ?_
    rotate_left
    · intro W hS; go_simp; all_goals with_reducible rfl
    try simp only [sI, sS, sZ]
    refine rkA 13 50 16383 (v := ?_) ?_ (.mk' ((Turns.refl [] Y).trans D46 (by simp)) trivial) ?_
    rotate_left
    · intro W hS; have c0 := cellL hS B1' (by simp); go_simp; all_goals with_reducible rfl
    try simp only [sI, sS, sZ]
    refine rkA 14 51 32767 (v := ?_) ?_ (.mk' ((Turns.refl [] Y).trans D46 (by simp)) trivial) ?_
    rotate_left
    · intro W hS; go_simp; all_goals with_reducible rfl
    try simp only [sI, sS, sZ]
    refine rkA 15 52 65535 (v := ?_) ?_ (.mk' ((Turns.refl [] Y).trans D46 (by simp)) trivial) ?_
    rotate_left
    · intro W hS; go_simp; all_goals with_reducible rfl
    try simp only [sI, sS, sZ]
    refine rkA 16 53 131071 (v := ?_) ?_ (.mk' ((Turns.refl [] Y).trans D46 (by simp)) trivial) ?_
    rotate_left
    · intro W hS; go_simp; all_goals with_reducible rfl
    try simp only [sI, sS, sZ]
    refine rkA 17 54 262143 (v := ?_) ?_ (.mk' ((Turns.refl [] Y).trans D46 (by simp)) trivial) ?_
    rotate_left
    · intro W hS; go_simp; all_goals with_reducible rfl
    try simp only [sI, sS, sZ]
    refine rkA 18 55 524287 (v := ?_) ?_ (.mk' ((Turns.refl [] Y).trans D46 (by simp)) trivial) ?_
    rotate_left
    · intro W hS; go_simp; all_goals with_reducible rfl
    try simp only [sI, sS, sZ]
    refine rkA 19 56 1048575 (v := ?_) ?_ (.mk' ((Turns.refl [] Y).trans D46 (by simp)) trivial) ?_
    rotate_left
    · intro W hS; have c0 := cellL hS B2' (by simp); go_simp; all_goals with_reducible rfl
    try simp only [sI, sS, sZ]
    refine rkA 20 57 2097151 (v := ?_) ?_ (.mk' ((Turns.refl [] Y).trans D46 (by simp)) trivial) ?_
    rotate_left
    · intro W hS; go_simp; all_goals with_reducible rfl
    try simp only [sI, sS, sZ]
    refine rkA 21 58 4194303 (v := ?_) ?_ (.mk' ((Turns.refl [] Y).trans D46 (by simp)) trivial) ?_
    rotate_left
    · intro W hS; go_simp; all_goals with_reducible rfl
    try simp only [sI, sS, sZ]
    refine rkA 22 59 8388607 (v := ?_) ?_ (.mk' ((Turns.refl [] Y).trans D46 (by simp)) trivial) ?_
    rotate_left
    · intro W hS; have c0 := cellL hS A2 (by simp); go_simp; all_goals with_reducible rfl
    try simp only [sI, sS, sZ]
    refine rkA 23 60 16777215 (v := ?_) ?_ (.mk' ((Turns.refl [] Y).trans D46 (by simp)) trivial) ?_
    rotate_left
    · intro W hS; go_simp; all_goals with_reducible rfl
    try simp only [sI, sS, sZ]
    refine rkA 24 61 33554431 (v := ?_) ?_ (.mk' ((Turns.refl [] Y).trans D46 (by simp)) trivial) ?_
    rotate_left
    · intro W hS; go_simp; all_goals with_reducible rfl
    try simp only [sI, sS, sZ]
    refine rkA 25 62 67108863 (v := ?_) ?_ (.mk' ((Turns.refl [] Y).trans D46 (by simp)) trivial) ?_
    rotate_left
    · intro W hS; go_simp; all_goals with_reducible rfl
    try simp only [sI, sS, sZ]
    refine rkA 26 63 134217727 (v := ?_) ?_ (.mk' ((Turns.refl [] Y).trans D46 (by simp)) trivial) ?_
    rotate_left
    · intro W hS; go_simp; all_goals with_reducible rfl
    try simp only [sI, sS, sZ]
    refine rkA 27 64 268435455 (v := ?_) ?_ (.mk' ((Turns.refl [] Y).trans D46 (by simp)) trivial) ?_
    rotate_left
    · intro W hS; go_simp; all_goals with_reducible rfl
    try simp only [sI, sS, sZ]
    refine rkA 28 65 536870911 (v := ?_) ?_ (.mk' ((Turns.refl [] Y).trans D46 (by simp)) trivial) ?_
    rotate_left
    · intro W hS; go_simp; all_goals with_reducible rfl
    try simp only [sI, sS, sZ]
    refine rkA 29 66 1073741823 (v := ?_) ?_ (.mk' ((Turns.refl [] Y).trans D46 (by simp)) trivial) ?_
    rotate_left
    · intro W hS; have c0 := cellL hS B3' (by simp); go_simp; all_goals with_reducible rfl
    try simp only [sI, sS, sZ]
    refine rkA 30 67 2147483647 (v := ?_) ?_ (.mk' ((Turns.refl [] Y).trans D46 (by simp)) trivial) ?_
    rotate_left
    · intro W hS; go_simp; all_goals with_reducible rfl
    try simp only [sI, sS, sZ]
    refine rkA 31 68 4294967295 (v := ?_) ?_ (.mk' ((Turns.refl [] Y).trans D46 (by simp)) trivial) ?_
    rotate_left
    · intro W hS; have c0 := cellL hS B3' (by simp); go_simp; all_goals with_reducible rfl
    try simp only [sI, sS, sZ]
    refine rkA 32 69 8589934591 (v := ?_) ?_ (.mk' ((Turns.refl [] Y).trans D46 (by simp)) trivial) ?_
    rotate_left
    · intro W hS; go_simp; all_goals with_reducible rfl
    try simp only [sI, sS, sZ]
    refine rkA 33 70 17179869183 (v := ?_) ?_ (.mk' ((Turns.refl [] Y).trans D46 (by simp)) trivial) ?_
    rotate_left
    · intro W hS; go_simp; all_goals with_reducible rfl
    try simp only [sI, sS, sZ]
    refine rkA 34 71 34359738367 (v := ?_) ?_ (.mk' ((Turns.refl [] Y).trans D46 (by simp)) trivial) ?_
    rotate_left
    · intro W hS; go_simp; all_goals with_reducible rfl
    try simp only [sI, sS, sZ]
    refine rkA 35 72 68719476735 (v := ?_) ?_ (.mk' ((Turns.refl [] Y).trans D46 (by simp)) trivial) ?_
    rotate_left
    · intro W hS; have c0 := cellL hS BX (by simp); go_simp; all_goals with_reducible rfl
    try simp only [sI, sS, sZ]
    refine rkA 36 73 137438953471 (v := ?_) ?_ (.mk' ((Turns.refl [] Y).trans D46 (by simp)) trivial) ?_
    rotate_left
    · intro W hS; go_simp; all_goals with_reducible rfl
    try simp only [sI, sS, sZ]
    refine rkA 37 74 274877906943 (v := ?_) ?_ (.mk' ((Turns.refl [] Y).trans D46 (by simp)) trivial) ?_
    rotate_left
    · intro W hS; have c0 := cellL hS A1' (by simp); go_simp; all_goals with_reducible rfl
    try simp only [sI, sS, sZ]
    refine rk1 38 549755813887 (fun K hK => ?_)
    go_simp
    refine (E2.out X46 ((Turns.refl [] Y).trans D46 (by simp))).mono ?_
    rintro e X75 ⟨rfl, D75⟩
    refine hK _ _ (.mk' (((Turns.refl [] Y).trans D46 (by simp)).trans D75 (by simp)) trivial) ?_
    clear hK K
    try simp only [sI, sS, sZ]
    refine rkA 39 76 1099511627775 (v := ?_) ?_ (.mk' (((Turns.refl [] Y).trans D46 (by simp)).trans D75 (by simp)) trivial) ?_
    rotate_left
    · intro W hS; go_simp; all_goals with_reducible rfl
    try simp only [sI, sS, sZ]
    refine rkA 40 77 2199023255551 (v := ?_) ?_ (.mk' (((Turns.refl [] Y).trans D46 (by simp)).trans D75 (by simp)) trivial) ?_
    rotate_left
    · intro W hS; go_simp; all_goals with_reducible rfl
    try simp only [sI, sS, sZ]
    refine rkA 41 78 4398046511103 (v := ?_) ?_ (.mk' (((Turns.refl [] Y).trans D46 (by simp)).trans D75 (by simp)) trivial) ?_
    rotate_left
    · intro W hS; go_simp; all_goals with_reducible rfl
    try simp only [sI, sS, sZ]
    refine rkA 42 79 8796093022207 (v := ?_) ?_ (.mk' (((Turns.refl [] Y).trans D46 (by simp)).trans D75 (by simp)) trivial) ?_
    rotate_left
    · intro W hS; have c0 := cellL hS B0 (by simp); go_simp; all_goals with_reducible rfl
    try simp only [sI, sS, sZ]
    refine rkA 43 80 17592186044415 (v := ?_) ?_ (.mk' (((Turns.refl [] Y).trans D46 (by simp)).trans D75 (by simp)) trivial) ?_
    rotate_left
    · intro W hS; go_simp; all_goals with_reducible rfl
    try simp only [sI, sS, sZ]
    refine rkA 44 81 35184372088831 (v := ?_) ?_ (.mk' (((Turns.refl [] Y).trans D46 (by simp)).trans D75 (by simp)) trivial) ?_
    rotate_left
    · intro W hS; have c0 := cellL hS A0 (by simp); go_simp; all_goals with_reducible rfl
    try simp only [sI, sS, sZ]
    refine rkA 45 82 70368744177663 (v := ?_) ?_ (.mk' (((Turns.refl [] Y).trans D46 (by simp)).trans D75 (by simp)) trivial) ?_
    rotate_left
    · intro W hS; go_simp; all_goals with_reducible rfl
    try simp only [sI, sS, sZ]
    refine rkA 46 83 140737488355327 (v := ?_) ?_ (.mk' (((Turns.refl [] Y).trans D46 (by simp)).trans D75 (by simp)) trivial) ?_
    rotate_left
    · intro W hS; go_simp; all_goals with_reducible rfl
    try simp only [sI, sS, sZ]
    refine rkA 47 2 281474976710655 (v := ?_) ?_ (.mk' (((Turns.refl [] Y).trans D46 (by simp)).trans D75 (by simp)) trivial) ?_
    rotate_left
    · intro W hS; go_simp; all_goals with_reducible rfl
    try simp only [sI, sS, sZ]
    refine rkZ ?_
    have HFF := Lib.hid (below_of' (HTY.out.trans (((Turns.refl [] Y).trans D46 (by simp)).trans D75 (by simp)) (by simp)))
    go_wp2_with fail
    go_ret
    exact ⟨rfl, HFF.out⟩
end Go.Proofs.YtoahnhphfabajaaGreat
