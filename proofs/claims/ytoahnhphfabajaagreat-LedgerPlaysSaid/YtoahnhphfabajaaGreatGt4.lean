/- LedgerPlays, walked. -/
import Derived.Test.YtoahnhphfabajaaGreatGt3
namespace Go.Proofs.YtoahnhphfabajaaGreat
open Go.RowKit
set_option linter.unusedVariables false
set_option maxRecDepth 10000
set_option linter.unusedSimpArgs false
set_option linter.unnecessarySimpa false

set_option maxRecDepth 100000 in
set_option maxHeartbeats 32000000 in
theorem LedgerPlays_walk (l : List Stp) (v : Value) (w0 : World) (hd : Deep StpR w0 (fun _ => True) 4 v l) (hf : ∀ s ∈ l, s.fits) :
    Calls Tryz.prog 3 #[v] w0 fun e w' => e = .returned (.bool true) ∧ Below w0.heap.size w0 w' := by
  obtain ⟨A, c, rfl, _⟩ := hd.form
  have KN := Lib.hid (known14_any w0)
  have HD := Lib.hid (And.intro hd hf)
  clear hd hf
  obtain ⟨n, hn⟩ : ∃ n, n = l.length := ⟨_, rfl⟩
  have HNL := Lib.hid hn
  rw [← hn]
  clear hn
  go_enter Tryz.func3, Tryz.ntmps3
  go_wp2_with fail
  refine KN.out.mono ?_
  rintro e w1 ⟨rfl, t1⟩
  have hd1 := HD.out.1.keep StpR.lasts (t1.keeps0 _)
  have FW := Lib.hid (by have h := Few14_any l (.slice A l.length c) _ w1 hd1 HD.out.2; rw [← HNL.out] at h; exact h : Calls Tryz.prog 7 #[.slice A n c] w1 fun e w' => e = .returned (.bool (fewSs l)) ∧ Turns [] w1 w')
  have H1 := Lib.hid (And.intro t1 hd1)
  clear t1 hd1 KN
  go_wp2_with fail
  refine FW.out.mono ?_
  rintro e w2 ⟨rfl, t2⟩
  have t02 := Lib.hid (H1.out.1.trans t2 (by simp))
  have HD2 := Lib.hid (H1.out.2.keep StpR.lasts (t2.keeps0 _))
  clear t2 FW
  cases hfew : fewSs l
  · go_wp2_with fail
    go_ret
    exact ⟨rfl, below_of' t02.out⟩
  obtain ⟨pa, hpa⟩ : ∃ x, x = w2.heap.size := ⟨_, rfl⟩
  obtain ⟨xa, hxa⟩ : ∃ x, x = w2.alloc (.cells #[.int .i64 0, .slice none 0 0, .slice none 0 0, .slice none 0 0] 29) := ⟨_, rfl⟩
  obtain ⟨x3, hx3⟩ : ∃ x, x = xa.alloc (.cells #[.int .i64 0, .slice none 0 0, .slice none 0 0, .slice none 0 0] 32) := ⟨_, rfl⟩
  have ba0 := Blk.new w2 [.int .i64 0, .slice none 0 0, .slice none 0 0, .slice none 0 0] 29
  rw [show w2.alloc (.cells [.int .i64 0, .slice none 0 0, .slice none 0 0, .slice none 0 0].toArray 29) = xa from hxa.symm, ← hpa] at ba0
  have bb0 := Blk.new xa [.int .i64 0, .slice none 0 0, .slice none 0 0, .slice none 0 0] 32
  rw [show xa.alloc (.cells [.int .i64 0, .slice none 0 0, .slice none 0 0, .slice none 0 0].toArray 32) = x3 from hx3.symm, show xa.heap.size = pa + 1 by rw [hxa, hpa]; simp] at bb0
  have ta : Turns [] w2 xa := by rw [hxa]; exact (Turns.refl _ _).alloc _
  have t3 : Turns [] xa x3 := by rw [hx3]; exact (Turns.refl _ _).alloc _
  obtain ⟨pb, hpb⟩ : ∃ x, x = pa + 1 := ⟨_, rfl⟩
  have HK0 := Lib.hid (show PlI (bldK l 0) x3 pa pb x3 from ⟨_, _, _, _, _, _, ba0.turns t3 (by simp), by rw [hpb]; exact bb0, LedR.zero, LedR.zero, Turns.refl _ _⟩)
  have HX := Lib.hid (And.intro hxa (And.intro hx3 (And.intro hpa hpb)))
  have H3 := Lib.hid (t02.out.trans (ta.trans t3 (by simp)) (by simp))
  have HPL := Lib.hid (show w0.heap.size ≤ pa ∧ w0.heap.size ≤ pb ∧ pa ≠ pb from ⟨by have := t02.out.size; omega, by have := t02.out.size; omega, by omega⟩)
  obtain ⟨zL, hzL⟩ : ∃ z : List Value, z = [.int .i64 0, .slice none 0 0, .slice none 0 0, .slice none 0 0] := ⟨_, rfl⟩
  obtain ⟨zX, hzX⟩ : ∃ z : List Value, z = [.int .i64 0, .slice none 0 0] := ⟨_, rfl⟩
  have HZ := Lib.hid (show (Tryz.prog.info? 29).bind (·.zero) = some (.agg zL.toArray) ∧ (Tryz.prog.info? 32).bind (·.zero) = some (.agg zL.toArray) ∧ (Tryz.prog.info? 45).bind (·.zero) = some (.agg zX.toArray) by
    rw [hzL, hzX]; exact ⟨by kernel_rfl, by kernel_rfl, by kernel_rfl⟩)
  have HZL := Lib.hid (show zL.length = 4 ∧ zX.length = 2 by rw [hzL, hzX]; exact ⟨rfl, rfl⟩)
  clear hxa hx3 hpa hpb ba0 bb0 ta t3 hzL hzX
  go_upto_region 6 with fail
  rw [← HX.out.1, ← HX.out.2.1, ← HX.out.2.2.1, ← HX.out.2.2.2]
  go_wp2_with fail
  go_loopw [5] (fun i wr => ∃ k : Nat, k ≤ n ∧ i = .int .i64 k ∧ PlI (bldK l k) x3 pa pb wr) (fun i _ => n - (intOf i).toNat)
  case atStart => exact ⟨0, by omega, rfl, HK0.out⟩
  case round =>
    rename World => wr
    obtain ⟨k, hk, rfl, ov, bv, tv, ov', bv', tv', ba, bb, la, lb, tk⟩ := hrel
    obtain ⟨A1, a1, rfl, _⟩ := la.opn.form
    obtain ⟨A2, a2, rfl, _⟩ := la.blks.form'
    obtain ⟨A3, a3, rfl, _⟩ := la.txs.form
    obtain ⟨B1, b1, rfl, _⟩ := lb.opn.form
    obtain ⟨B2, b2, rfl, _⟩ := lb.blks.form'
    obtain ⟨B3, b3, rfl, _⟩ := lb.txs.form
    have tw : Turns [] w0 wr := H3.out.trans tk (by intro x hx; simp at hx; rcases hx with rfl | rfl; exact .inr HPL.out.1; exact .inr HPL.out.2.1)
    by_cases hlt : k < n
    · have hki : (k : Int) < (n : Int) := by omega
      have hkl : k < l.length := by have := HNL.out; omega
      have hl40 : l.length ≤ 40 := (fewSs_all' hfew).2
      have hinv := bldK_inv l HD.out.2 hfew k (by omega)
      have hinv2 := bldK_inv l HD.out.2 hfew (k + 1) (by omega)
      have hstep := bldK_step l k hkl
      have hfs := (fewSs_all' hfew).1 _ (List.getElem_mem hkl)
      have hck := HD.out.2 _ (List.getElem_mem hkl)
      obtain ⟨b0, off, cc, cs, hv, _, _, _, rg, hR⟩ := (HD.out.1.keep StpR.lasts (tw.keeps0 _)).at_ (by omega) k hkl
      injection hv with e1 e2 e3
      subst e1 e3
      clear e2
      obtain ⟨s, hs⟩ : ∃ s, s = l[k] := ⟨_, rfl⟩
      rw [← hs] at hR hck hfs hstep
      rw [stepL_cls] at hstep
      obtain ⟨M, hM⟩ : ∃ M, M = bldK l k := ⟨_, rfl⟩
      obtain ⟨M', hM'⟩ : ∃ M, M = bldK l (k + 1) := ⟨_, rfl⟩
      rw [← hM] at ba bb la lb hinv hstep
      rw [← hM'] at hinv2 hstep
      have hroom := hinv.1.room (by omega)
      have HIM := Lib.hid (And.intro hinv.1 (And.intro hroom (show M.next < 100000 ∧ M.opn.length ≤ 3 ∧ M.blks.length < 100000 ∧ M.txs.length < 100000 from ⟨hroom.1, hinv.1.o3, hroom.2.2⟩)))
      have HIM2 := Lib.hid hinv2.1
      have HMM := Lib.hid hM'
      have HST := Lib.hid hstep
      have HSC := Lib.hid (stCs_ok hck hfs)
      obtain ⟨rv, rfl, hsl⟩ := hR
      obtain ⟨Ar, cr, rfl, _⟩ := hsl.form'
      have hz4s := size_stp s.n s.op s.name (.slice Ar s.v.length cr)
      have r1 := ba.all
      have hz1 := size_led (.int .i64 M.next) (.slice A1 M.opn.length a1) (.slice A2 M.blks.length a2) (.slice A3 M.txs.length a3)
      have hz2 := size_rled (.int .i64 M.next) (.slice B1 M.opn.length b1) (.slice B2 M.blks.length b2) (.slice B3 M.txs.length b3)
      have TO := Lib.hid (ToRef_any M hinv.1.ok _ _ _ _ wr la)
      have HK := Lib.hid (And.intro ba (And.intro bb (And.intro la (And.intro lb (And.intro tk tw)))))
      have HSW := Lib.hid (And.intro rg (And.intro hsl (And.intro hck hfs)))
      have HPB1 := Lib.hid (And.intro ba.lt bb.lt)
      have HK1 := Lib.hid (show k + 1 ≤ n ∧ n ≤ 40 from ⟨hlt, by have := HNL.out; omega⟩)
      clear ba bb la lb tk tw hkl hl40 hinv hinv2 hstep hfs hck hs hM hM' hroom rg hsl
      go_wp2_with (first
        | (refine wpList_load_mid rfl 29 (.tmp 3) rfl pa 0 rfl _ _ r1 Tryz.underlying29 rfl hz1 ?_)
        | fail)
      refine TO.out.mono ?_
      rintro e y1 ⟨bv6, rfl, l6, t6⟩
      obtain ⟨A6, a6, rfl, _⟩ := l6.blks.form'
      obtain ⟨p6, hp6⟩ : ∃ x, x = y1.heap.size := ⟨_, rfl⟩
      obtain ⟨x6, hx6⟩ : ∃ x, x = y1.alloc (.cells #[.int .i64 M.next, .slice A1 M.opn.length a1, .slice A6 M.blks.length a6, .slice A3 M.txs.length a3] 32) := ⟨_, rfl⟩
      obtain ⟨x7, hx7⟩ : ∃ x, x = x6.alloc (.cells #[.int .i64 M.next, .slice A1 M.opn.length a1, .slice A2 M.blks.length a2, .slice A3 M.txs.length a3] 29) := ⟨_, rfl⟩
      have b6 := Blk.new y1 [.int .i64 M.next, .slice A1 M.opn.length a1, .slice A6 M.blks.length a6, .slice A3 M.txs.length a3] 32
      rw [show y1.alloc (.cells [.int .i64 M.next, .slice A1 M.opn.length a1, .slice A6 M.blks.length a6, .slice A3 M.txs.length a3].toArray 32) = x6 from hx6.symm, ← hp6] at b6
      have hs6 : x6.heap.size = p6 + 1 := by rw [hx6, hp6]; simp
      have b7 := Blk.new x6 [.int .i64 M.next, .slice A1 M.opn.length a1, .slice A2 M.blks.length a2, .slice A3 M.txs.length a3] 29
      obtain ⟨p7, hp7⟩ : ∃ x, x = x6.heap.size := ⟨_, rfl⟩
      rw [show x6.alloc (.cells [.int .i64 M.next, .slice A1 M.opn.length a1, .slice A2 M.blks.length a2, .slice A3 M.txs.length a3].toArray 29) = x7 from hx7.symm, ← hp7] at b7
      have t66 : Turns [] y1 x6 := by rw [hx6]; exact (Turns.refl _ _).alloc _
      have t67 : Turns [] x6 x7 := by rw [hx7]; exact (Turns.refl _ _).alloc _
      have r1 := rangeV (t6.trans t66 (by simp)) r1
      have tr7 := (t6.trans t66 (by simp)).trans t67 (by simp)
      have q0 := rangeV tr7 HSW.out.1 0 _ rfl
      rw [Nat.add_zero] at q0
      have H7 := Lib.hid (And.intro (b6.turns t67 (by simp)) (And.intro b7 (And.intro (l6.keep ((t66.trans t67 (by simp)).keeps0 _)) (And.intro tr7 (show wr.heap.size ≤ p6 ∧ wr.heap.size ≤ p7 by have := t6.size; have := t66.size; omega)))))
      have HX6 := Lib.hid (And.intro hx6 hp6)
      have HX7 := Lib.hid (And.intro hx7 hp7)
      clear t6 t66 t67 tr7 b6 b7 l6 hx6 hx7 hp6 hp7 hs6 TO
      go_upto_region 10 with fail
      rw [← HX6.out.1, ← HX6.out.2]
      go_upto_region 11 with (first
        | (refine wpList_load_mid rfl 29 (.tmp 3) rfl pa 0 rfl _ _ r1 Tryz.underlying29 rfl hz1 ?_)
        | fail)
      rw [← HX7.out.1, ← HX7.out.2]
      have WI := Lib.hid (within14_any s.n 4 x7 HSW.out.2.2.1.n.1 HSW.out.2.2.1.n.2 (by omega) (by omega))
      clear r1
      go_wp2_with fail
      refine WI.out.mono ?_
      rintro e xw ⟨rfl, rfl⟩
      clear WI q0
      have ha7 := HK.out.1.turns H7.out.2.2.2.1 (by simp)
      have hb7 := HK.out.2.1.turns H7.out.2.2.2.1 (by simp)
      have HLA := Lib.hid (HK.out.2.2.1.keep (H7.out.2.2.2.1.keeps0 _))
      have HLB := Lib.hid (HK.out.2.2.2.1.keep (H7.out.2.2.2.1.keeps0 _))
      have HRG := Lib.hid (rangeV H7.out.2.2.2.1 HSW.out.1)
      have HSL := Lib.hid (HSW.out.2.1.keep (H7.out.2.2.2.1.keeps0 _))
      have HPA := Lib.hid (And.intro ha7 (And.intro hb7 (And.intro ha7.lt hb7.lt)))
      clear ha7 hb7
      go_upto_if 42 with fail
      go_cut [] (fun wx => PlI M' x7 pa pb wx)
      case first =>
        by_cases h3 : s.n % 4 = 3
        · have h3b : (s.n % 4 == 3) = true := beq_iff_eq.2 h3
          have hMc : M' = clsL M := by rw [HST.out, if_pos h3]
          have CL := Close_all M HIM.out.1.ok HIM.out.2.1.2.2 _ _ _ _ x7 HLA.out
          have RCL := fun W (t : Turns [] x7 W) => RClose_all M HIM.out.1.ok _ _ _ _ W (HLB.out.keep (t.keeps0 _))
          obtain ⟨ce, hce⟩ : ∃ c, c = clsE M := ⟨_, rfl⟩
          rw [← hMc, ← hce] at CL
          simp only [← hMc, ← hce] at RCL
          have HCL := Lib.hid CL
          have HRCL := Lib.hid RCL
          have r1 := HPA.out.1.all
          clear CL RCL hMc hce h3
          go_wp2_with (first
            | (refine wpList_load_mid rfl 29 (.tmp 3) rfl pa 0 rfl _ _ r1 Tryz.underlying29 rfl hz1 ?_)
            | fail)
          refine HCL.out.mono ?_
          rintro e y8 ⟨ov8, bv8, tv8, rfl, l8, t8⟩
          obtain ⟨A8, c8, rfl, _⟩ := l8.opn.form
          obtain ⟨A9, c9, rfl, _⟩ := l8.blks.form'
          obtain ⟨A10, c10, rfl, _⟩ := l8.txs.form
          obtain ⟨p8, hp8⟩ : ∃ x, x = y8.heap.size := ⟨_, rfl⟩
          obtain ⟨x8, hx8⟩ : ∃ x, x = y8.alloc (.cells #[.int .i64 M'.next, .slice A8 M'.opn.length c8, .slice A9 M'.blks.length c9, .slice A10 M'.txs.length c10] 29) := ⟨_, rfl⟩
          have b8 := Blk.new y8 [.int .i64 M'.next, .slice A8 M'.opn.length c8, .slice A9 M'.blks.length c9, .slice A10 M'.txs.length c10] 29
          rw [show y8.alloc (.cells [.int .i64 M'.next, .slice A8 M'.opn.length c8, .slice A9 M'.blks.length c9, .slice A10 M'.txs.length c10].toArray 29) = x8 from hx8.symm, ← hp8] at b8
          have tx8 : Turns [] y8 x8 := by rw [hx8]; exact (Turns.refl _ _).alloc _
          have t78 := t8.trans tx8 (by simp)
          have HC8 := Lib.hid (And.intro b8 (And.intro (l8.keep (tx8.keeps0 _)) (And.intro t78 (show x7.heap.size ≤ p8 by have := t8.size; omega))))
          have HX8 := Lib.hid (And.intro hx8 hp8)
          have r2 := rangeV t78 HPA.out.2.1.all
          clear b8 tx8 t8 l8 t78 hx8 hp8 r1 HCL
          go_upto_region 13 with fail
          rw [← HX8.out.1, ← HX8.out.2]
          go_wp2_with (first
            | (refine wpList_load_mid rfl 32 (.tmp 4) rfl pb 0 rfl _ _ r2 Tryz.underlying32 rfl hz2 ?_)
            | fail)
          refine (HRCL.out x8 HC8.out.2.2.1).mono ?_
          rintro e y9 ⟨ov9, bv9, tv9, rfl, l9, t9⟩
          obtain ⟨B8, d8, rfl, _⟩ := l9.opn.form
          obtain ⟨B9, d9, rfl, _⟩ := l9.blks.form'
          obtain ⟨B10, d10, rfl, _⟩ := l9.txs.form
          obtain ⟨p10, hp10⟩ : ∃ x, x = y9.heap.size := ⟨_, rfl⟩
          obtain ⟨x10, hx10⟩ : ∃ x, x = y9.alloc (.cells #[.int .i64 M'.next, .slice B8 M'.opn.length d8, .slice B9 M'.blks.length d9, .slice B10 M'.txs.length d10] 32) := ⟨_, rfl⟩
          have b10 := Blk.new y9 [.int .i64 M'.next, .slice B8 M'.opn.length d8, .slice B9 M'.blks.length d9, .slice B10 M'.txs.length d10] 32
          rw [show y9.alloc (.cells [.int .i64 M'.next, .slice B8 M'.opn.length d8, .slice B9 M'.blks.length d9, .slice B10 M'.txs.length d10].toArray 32) = x10 from hx10.symm, ← hp10] at b10
          have tx10 : Turns [] y9 x10 := by rw [hx10]; exact (Turns.refl _ _).alloc _
          have HX10 := Lib.hid (And.intro hx10 hp10)
          have hn10 : x7.heap.size ≤ p10 := by have := t9.size; have := HC8.out.2.2.1.size; omega
          have t810 := t9.trans tx10 (by simp)
          have hz8 := size_led (.int .i64 M'.next) (.slice A8 M'.opn.length c8) (.slice A9 M'.blks.length c9) (.slice A10 M'.txs.length c10)
          have hz10 := size_rled (.int .i64 M'.next) (.slice B8 M'.opn.length d8) (.slice B9 M'.blks.length d9) (.slice B10 M'.txs.length d10)
          obtain ⟨Y, hY⟩ : ∃ q, q = x10.drew := ⟨_, rfl⟩
          have tY : Turns [] x10 Y := by rw [hY]; exact (Turns.refl _ _).drew
          have HYY := Lib.hid hY
          have t8Y := t810.trans tY (by simp)
          have t7Y := HC8.out.2.2.1.trans t8Y (by simp)
          have b8Y := HC8.out.1.turns t8Y (by simp)
          have b10Y := b10.turns tY (by simp)
          have bpaY := HPA.out.1.turns t7Y (by simp)
          have bpbY := HPA.out.2.1.turns t7Y (by simp)
          have NG : p8 ∉ [pa, pb] := by have := HC8.out.2.2.2; have := HPA.out.2.2; simp; omega
          have NH : p10 ∉ [pa, pb] := by have := HPA.out.2.2; simp; omega
          have NPB := Lib.hid (show pb ∉ [pa] by have := HPL.out; simp; omega)
          have NPA := Lib.hid (show pa ∉ [pb] by have := HPL.out; simp; omega)
          have la8 : LedR Y (fun b => b ≠ pa ∧ b ≠ pb) _ _ _ M' := (HC8.out.2.1.mono (S' := fun b => b ≠ pa ∧ b ≠ pb) (fun j hj hS => by have := HPA.out.2.2; omega)).keep (t8Y.keeps0 _)
          have lb8 : LedR Y (fun b => b ≠ pa ∧ b ≠ pb) _ _ _ M' := (l9.mono (S' := fun b => b ≠ pa ∧ b ≠ pb) (fun j hj hS => by
            rcases hS with hS | hS
            · exact hS
            · have := HPA.out.2.2; have := HC8.out.2.2.1.size; omega)).keep ((tx10.trans tY (by simp)).keeps0 _)
          have HL8 := Lib.hid (And.intro la8 (And.intro lb8 t7Y))
          have S0 : Turns [pa, pb] Y Y := Turns.refl _ _
          clear hx10 hp10 hn10 t810 hY tY t8Y t7Y b10 tx10 l9 t9 la8 lb8 r2
          go_upto_region 14 with fail
          rw [← HX10.out.1, ← HX10.out.2]
          go_upto_region 16 with fail
          refine rk0 (fun W => Turns [pa, pb] Y W) (fun _ => True) 4 4 ?_
          rw [← HYY.out]
          refine rkY 0 56 1 rfl (yieldsIf_load_mid (by rfl) _ _ rfl p8 0 (by rfl) _ _ (fun W hS => (b8Y.turns hS NG).all) Tryz.underlying29 rfl hz8) (.mk' S0 trivial) ?_
          try simp only [sI, sS, sZ]
          refine rkY 1 57 3 rfl (yieldsIf_load_mid (by rfl) _ _ rfl p10 0 (by rfl) _ _ (fun W hS => (b10Y.turns hS NH).all) Tryz.underlying32 rfl hz10) (.mk' S0 trivial) ?_
          try simp only [sI, sS, sZ]
          refine rk1 2 7 (fun K hK => ?_)
          refine wp_store_blk 29 _ _ (by rfl) pa (by rfl) [.int .i64 M'.next, .slice A8 M'.opn.length c8, .slice A9 M'.blks.length c9, .slice A10 M'.txs.length c10] _ 29 (by rfl) bpaY rfl hz8 (by intro u hu; simp at hu; rcases hu with rfl | rfl | rfl | rfl <;> rfl) (fun X2 hb2 ht2 => ?_)
          have D2 : Turns [pa, pb] Y X2 := ht2.mono (by simp)
          refine hK _ _ (.mk' D2 trivial) ?_
          clear hK K
          try simp only [sI, sS, sZ]
          refine rk1 3 15 (fun K hK => ?_)
          refine wp_store_blk 32 _ _ (by rfl) pb (by rfl) [.int .i64 M'.next, .slice B8 M'.opn.length d8, .slice B9 M'.blks.length d9, .slice B10 M'.txs.length d10] _ 32 (by rfl) (bpbY.turns ht2 NPB.out) rfl hz10 (by intro u hu; simp at hu; rcases hu with rfl | rfl | rfl | rfl <;> rfl) (fun X3 hb3 ht3 => ?_)
          have D3 : Turns [pa, pb] Y X3 := D2.trans (ht3.mono (L' := [pa, pb]) (by simp)) (fun x hx => .inl hx)
          have b2 := hb2.turns ht3 NPA.out
          refine hK _ _ (.mk' D3 trivial) ?_
          clear hK K
          try simp only [sI, sS, sZ]
          refine rkZ ?_
          go_wp2_with fail
          go_meet
          exact ⟨_, _, _, _, _, _, b2, hb3, HL8.out.1.two D3, HL8.out.2.1.two D3, (HL8.out.2.2.mono (L' := [pa, pb]) (by simp)).trans D3 (fun x hx => .inl hx)⟩
        · have h3b : (s.n % 4 == 3) = false := beq_eq_false_iff_ne.2 h3
          have hadd : M' = addLed M (stCs s) := by rw [HST.out, if_neg h3]
          have HADD := Lib.hid hadd
          clear h3 hadd
          obtain ⟨Y, hY⟩ : ∃ q, q = x7.drew := ⟨_, rfl⟩
          have tY : Turns [] x7 Y := by rw [hY]; exact (Turns.refl _ _).drew
          have HYY := Lib.hid hY
          have R1 := rangeV tY HPA.out.1.all
          have RQ := rangeV tY HRG.out
          have HLA := Lib.hid (HLA.out.keep (tY.keeps0 _))
          have HSK := Lib.hid (And.intro HSW.out.2.2.1 (And.intro HSW.out.2.2.2 (HSL.out.keep (tY.keeps0 _))))
          have HPP := Lib.hid (show pa < Y.heap.size ∧ pb < Y.heap.size by have := HPA.out.2.2; have := tY.size; omega)
          have HTY := Lib.hid tY
          have hzL := HZ.out.1
          have hzX := HZ.out.2.2
          have S0 : Turns [] Y Y := Turns.refl _ _
          clear hY tY
          go_upto_region 17 with fail
          go_cut [12, 13] (fun u v wx => AddQ Y M' M.next (stCs s) 29 pa pb u v wx)
          case first =>
            refine rk0 (fun W => Turns [] Y W) (fun _ => True) 14 14 ?_
            rw [← HYY.out]
            have T := S0
            refine rkY 0 59 1 rfl (yieldsIf_load_mid (by rfl) _ _ rfl pa 0 (by rfl) _ _ (fun W hS => rangeV hS R1) Tryz.underlying29 rfl hz1) (.mk' T trivial) ?_
            try simp only [sI, sS, sZ]
            refine rkA 1 60 3 (v := ?_) ?_ (.mk' T trivial) ?_
            rotate_left
            · intro W hS; go_simp; all_goals with_reducible rfl
            try simp only [sI, sS, sZ]
            refine rkA 2 61 7 (v := ?_) ?_ (.mk' T trivial) ?_
            rotate_left
            · intro W hS; go_simp; all_goals with_reducible rfl
            try simp only [sI, sS, sZ]
            refine rkA 3 62 15 (v := ?_) ?_ (.mk' T trivial) ?_
            rotate_left
            · intro W hS; go_simp; all_goals with_reducible rfl
            try simp only [sI, sS, sZ]
            refine rkY 4 63 31 rfl (yieldsIf_load_mid (by rfl) _ _ rfl b0 (off + k * 4) (by rfl) _ _ (fun W hS => rangeV hS RQ) Tryz.underlying37 rfl hz4s) (.mk' T trivial) ?_
            try simp only [sI, sS, sZ]
            refine rk3 5 10 11 63 1055 2079 (fun K hK => ?_) (fun K hK => ?_) (fun K hK => ?_)
            go_simp
            refine (Changes_any s HSK.out.1 HSK.out.2.1 (.slice Ar s.v.length cr) _ _ (HSK.out.2.2.keep (T.keeps0 _))).mono ?_
            rintro e X ⟨A5, c5, rfl, d5, D⟩
            have d5 := d5.mono ChgR.lasts (S' := fun b => b ≠ pa ∧ b ≠ pb) (fun j hj h => by have := T.size; have := HPP.out; refine ⟨?_, ?_⟩ <;> omega)
            have T := T.trans D (by simp)
            refine hK _ _ (.mk' T trivial) ?_
            clear hK K
            try simp only [sI, sS, sZ]
            refine rk3 6 10 11 127 1087 2111 (fun K hK => ?_) (fun K hK => ?_) (fun K hK => ?_)
            go_simp
            refine (Add_any M HIM.out.1.ok HIM.out.2.1 (stCs s) HSC.out _ _ _ _ _ _ _ ((HLA.out.mono (S' := fun b => b ≠ pa ∧ b ≠ pb) (fun j hj h => by refine ⟨?_, ?_⟩ <;> omega)).keep (T.keeps0 _)) d5).mono ?_
            rintro e X ⟨ov6, bv6, tv6, cv6, rfl, l6, d6, D⟩
            rw [← HADD.out] at l6 ⊢
            have l6 := l6.mono (S' := fun b => b ≠ pa ∧ b ≠ pb) (fun j hj h => by have := T.size; have := HPP.out; refine ⟨?_, ?_⟩ <;> omega)
            have d6 := d6.mono ChgR.lasts (S' := fun b => b ≠ pa ∧ b ≠ pb) (fun j hj h => by have := T.size; have := HPP.out; refine ⟨?_, ?_⟩ <;> omega)
            obtain ⟨A7, k7, rfl, _⟩ := l6.opn.form
            obtain ⟨A8, k8, rfl, _⟩ := l6.blks.form'
            obtain ⟨A9, k9, rfl, _⟩ := l6.txs.form
            obtain ⟨A4, k4, rfl, _⟩ := d6.form
            have T := T.trans D (by simp)
            refine hK _ _ (.mk' T trivial) ?_
            clear hK K
            try simp only [sI, sS, sZ]
            refine rkA 7 58 255 (v := ?_) ?_ (.mk' T trivial) ?_
            rotate_left
            · intro W hS; go_simp; all_goals with_reducible rfl
            try simp only [sI, sS, sZ]
            refine rkA 8 66 511 (v := ?_) ?_ (.mk' T trivial) ?_
            rotate_left
            · intro W hS; go_simp; all_goals with_reducible rfl
            try simp only [sI, sS, sZ]
            refine rkA 9 67 1023 (v := ?_) ?_ (.mk' T trivial) ?_
            rotate_left
            · intro W hS; go_simp; all_goals with_reducible rfl
            try simp only [sI, sS, sZ]
            refine rk2 10 11 2047 3071 (fun K hK => ?_) (fun K hK => ?_)
            refine wp_alloc_arr 29 (by rfl) zL.toArray hzL ?_
            have BN := Blk.new X zL 29
            have D : Turns [] X (X.alloc (.cells zL.toArray 29)) := (Turns.refl _ _).alloc _
            obtain ⟨g22, hg⟩ : ∃ g, g = X.heap.size := ⟨_, rfl⟩
            have G22 := Lib.hid (show Y.heap.size ≤ g22 by rw [hg]; exact T.size)
            replace l6 := (l6.mono (S' := fun b => b ≠ pa ∧ b ≠ pb ∧ b ≠ g22) (fun j hj h => by refine ⟨?_, ?_, ?_⟩ <;> omega)).keep (D.keeps0 _)
            replace d6 := (d6.mono ChgR.lasts (S' := fun b => b ≠ pa ∧ b ≠ pb ∧ b ≠ g22) (fun j hj h => by refine ⟨?_, ?_, ?_⟩ <;> omega)).keep ChgR.lasts (D.keeps0 _)
            rw [← hg] at BN ⊢
            have T := T.trans D (by simp)
            clear hg D
            generalize X.alloc (.cells zL.toArray 29) = X at BN T l6 d6 ⊢
            have B22 := BN
            clear BN
            refine hK _ _ (.mk' T trivial) ?_
            clear hK K
            try simp only [sI, sS, sZ]
            refine rk1 11 4095 (fun K hK => ?_)
            refine wp_alloc_arr 45 (by rfl) zX.toArray hzX ?_
            have BN := Blk.new X zX 45
            have D : Turns [] X (X.alloc (.cells zX.toArray 45)) := (Turns.refl _ _).alloc _
            obtain ⟨g23, hg⟩ : ∃ g, g = X.heap.size := ⟨_, rfl⟩
            have G23 := Lib.hid (show Y.heap.size ≤ g23 by rw [hg]; exact T.size)
            have N := Lib.hid (show g22 ≠ g23 by have := B22.lt; omega)
            replace l6 := (l6.mono (S' := fun b => b ≠ pa ∧ b ≠ pb ∧ b ≠ g22 ∧ b ≠ g23) (fun j hj h => by refine ⟨?_, ?_, ?_, ?_⟩ <;> omega)).keep (D.keeps0 _)
            replace d6 := (d6.mono ChgR.lasts (S' := fun b => b ≠ pa ∧ b ≠ pb ∧ b ≠ g22 ∧ b ≠ g23) (fun j hj h => by refine ⟨?_, ?_, ?_, ?_⟩ <;> omega)).keep ChgR.lasts (D.keeps0 _)
            replace B22 := B22.turns D (by simp)
            rw [← hg] at BN ⊢
            have T := T.trans D (by simp)
            clear hg D
            generalize X.alloc (.cells zX.toArray 45) = X at BN T l6 d6 B22 ⊢
            have B23 := BN
            clear BN
            refine hK _ _ (.mk' T trivial) ?_
            clear hK K
            try simp only [sI, sS, sZ]
            rotate_left
            refine wp_alloc_arr 45 (by rfl) zX.toArray hzX ?_
            have BN := Blk.new X zX 45
            have D : Turns [] X (X.alloc (.cells zX.toArray 45)) := (Turns.refl _ _).alloc _
            obtain ⟨g23, hg⟩ : ∃ g, g = X.heap.size := ⟨_, rfl⟩
            have G23 := Lib.hid (show Y.heap.size ≤ g23 by rw [hg]; exact T.size)
            replace l6 := (l6.mono (S' := fun b => b ≠ pa ∧ b ≠ pb ∧ b ≠ g23) (fun j hj h => by refine ⟨?_, ?_, ?_⟩ <;> omega)).keep (D.keeps0 _)
            replace d6 := (d6.mono ChgR.lasts (S' := fun b => b ≠ pa ∧ b ≠ pb ∧ b ≠ g23) (fun j hj h => by refine ⟨?_, ?_, ?_⟩ <;> omega)).keep ChgR.lasts (D.keeps0 _)
            rw [← hg] at BN ⊢
            have T := T.trans D (by simp)
            clear hg D
            generalize X.alloc (.cells zX.toArray 45) = X at BN T l6 d6 ⊢
            have B23 := BN
            clear BN
            refine hK _ _ (.mk' T trivial) ?_
            clear hK K
            try simp only [sI, sS, sZ]
            refine rk1 10 4095 (fun K hK => ?_)
            refine wp_alloc_arr 29 (by rfl) zL.toArray hzL ?_
            have BN := Blk.new X zL 29
            have D : Turns [] X (X.alloc (.cells zL.toArray 29)) := (Turns.refl _ _).alloc _
            obtain ⟨g22, hg⟩ : ∃ g, g = X.heap.size := ⟨_, rfl⟩
            have G22 := Lib.hid (show Y.heap.size ≤ g22 by rw [hg]; exact T.size)
            have N := Lib.hid (show g22 ≠ g23 by have := B23.lt; omega)
            replace l6 := (l6.mono (S' := fun b => b ≠ pa ∧ b ≠ pb ∧ b ≠ g22 ∧ b ≠ g23) (fun j hj h => by refine ⟨?_, ?_, ?_, ?_⟩ <;> omega)).keep (D.keeps0 _)
            replace d6 := (d6.mono ChgR.lasts (S' := fun b => b ≠ pa ∧ b ≠ pb ∧ b ≠ g22 ∧ b ≠ g23) (fun j hj h => by refine ⟨?_, ?_, ?_, ?_⟩ <;> omega)).keep ChgR.lasts (D.keeps0 _)
            replace B23 := B23.turns D (by simp)
            rw [← hg] at BN ⊢
            have T := T.trans D (by simp)
            clear hg D
            generalize X.alloc (.cells zL.toArray 29) = X at BN T l6 d6 B23 ⊢
            have B22 := BN
            clear BN
            refine hK _ _ (.mk' T trivial) ?_
            clear hK K
            try simp only [sI, sS, sZ]
            rotate_left
            refine wp_alloc_arr 29 (by rfl) zL.toArray hzL ?_
            have BN := Blk.new X zL 29
            have D : Turns [] X (X.alloc (.cells zL.toArray 29)) := (Turns.refl _ _).alloc _
            obtain ⟨g22, hg⟩ : ∃ g, g = X.heap.size := ⟨_, rfl⟩
            have G22 := Lib.hid (show Y.heap.size ≤ g22 by rw [hg]; exact T.size)
            replace d5 := (d5.mono ChgR.lasts (S' := fun b => b ≠ pa ∧ b ≠ pb ∧ b ≠ g22) (fun j hj h => by refine ⟨?_, ?_, ?_⟩ <;> omega)).keep ChgR.lasts (D.keeps0 _)
            rw [← hg] at BN ⊢
            have T := T.trans D (by simp)
            clear hg D
            generalize X.alloc (.cells zL.toArray 29) = X at BN T d5 ⊢
            have B22 := BN
            clear BN
            refine hK _ _ (.mk' T trivial) ?_
            clear hK K
            try simp only [sI, sS, sZ]
            refine rk2 6 11 1151 3135 (fun K hK => ?_) (fun K hK => ?_)
            go_simp
            refine (Add_any M HIM.out.1.ok HIM.out.2.1 (stCs s) HSC.out _ _ _ _ _ _ _ ((HLA.out.mono (S' := fun b => b ≠ pa ∧ b ≠ pb ∧ b ≠ g22) (fun j hj h => by have := G22.out; refine ⟨?_, ?_, ?_⟩ <;> omega)).keep (T.keeps0 _)) d5).mono ?_
            rintro e X ⟨ov6, bv6, tv6, cv6, rfl, l6, d6, D⟩
            rw [← HADD.out] at l6 ⊢
            have l6 := l6.mono (S' := fun b => b ≠ pa ∧ b ≠ pb ∧ b ≠ g22) (fun j hj h => by have := T.size; have := HPP.out; have := B22.lt; refine ⟨?_, ?_, ?_⟩ <;> omega)
            have d6 := d6.mono ChgR.lasts (S' := fun b => b ≠ pa ∧ b ≠ pb ∧ b ≠ g22) (fun j hj h => by have := T.size; have := HPP.out; have := B22.lt; refine ⟨?_, ?_, ?_⟩ <;> omega)
            obtain ⟨A7, k7, rfl, _⟩ := l6.opn.form
            obtain ⟨A8, k8, rfl, _⟩ := l6.blks.form'
            obtain ⟨A9, k9, rfl, _⟩ := l6.txs.form
            obtain ⟨A4, k4, rfl, _⟩ := d6.form
            have T := T.trans D (by simp)
            replace B22 := B22.turns D (by simp)
            refine hK _ _ (.mk' T trivial) ?_
            clear hK K
            try simp only [sI, sS, sZ]
            refine rkA 7 58 1279 (v := ?_) ?_ (.mk' T trivial) ?_
            rotate_left
            · intro W hS; go_simp; all_goals with_reducible rfl
            try simp only [sI, sS, sZ]
            refine rkA 8 66 1535 (v := ?_) ?_ (.mk' T trivial) ?_
            rotate_left
            · intro W hS; go_simp; all_goals with_reducible rfl
            try simp only [sI, sS, sZ]
            refine rkA 9 67 2047 (v := ?_) ?_ (.mk' T trivial) ?_
            rotate_left
            · intro W hS; go_simp; all_goals with_reducible rfl
            try simp only [sI, sS, sZ]
            refine rk1 11 4095 (fun K hK => ?_)
            refine wp_alloc_arr 45 (by rfl) zX.toArray hzX ?_
            have BN := Blk.new X zX 45
            have D : Turns [] X (X.alloc (.cells zX.toArray 45)) := (Turns.refl _ _).alloc _
            obtain ⟨g23, hg⟩ : ∃ g, g = X.heap.size := ⟨_, rfl⟩
            have G23 := Lib.hid (show Y.heap.size ≤ g23 by rw [hg]; exact T.size)
            have N := Lib.hid (show g22 ≠ g23 by have := B22.lt; omega)
            replace l6 := (l6.mono (S' := fun b => b ≠ pa ∧ b ≠ pb ∧ b ≠ g22 ∧ b ≠ g23) (fun j hj h => by refine ⟨?_, ?_, ?_, ?_⟩ <;> omega)).keep (D.keeps0 _)
            replace d6 := (d6.mono ChgR.lasts (S' := fun b => b ≠ pa ∧ b ≠ pb ∧ b ≠ g22 ∧ b ≠ g23) (fun j hj h => by refine ⟨?_, ?_, ?_, ?_⟩ <;> omega)).keep ChgR.lasts (D.keeps0 _)
            replace B22 := B22.turns D (by simp)
            rw [← hg] at BN ⊢
            have T := T.trans D (by simp)
            clear hg D
            generalize X.alloc (.cells zX.toArray 45) = X at BN T l6 d6 B22 ⊢
            have B23 := BN
            clear BN
            refine hK _ _ (.mk' T trivial) ?_
            clear hK K
            try simp only [sI, sS, sZ]
            rotate_left
            refine wp_alloc_arr 45 (by rfl) zX.toArray hzX ?_
            have BN := Blk.new X zX 45
            have D : Turns [] X (X.alloc (.cells zX.toArray 45)) := (Turns.refl _ _).alloc _
            obtain ⟨g23, hg⟩ : ∃ g, g = X.heap.size := ⟨_, rfl⟩
            have G23 := Lib.hid (show Y.heap.size ≤ g23 by rw [hg]; exact T.size)
            have N := Lib.hid (show g22 ≠ g23 by have := B22.lt; omega)
            replace d5 := (d5.mono ChgR.lasts (S' := fun b => b ≠ pa ∧ b ≠ pb ∧ b ≠ g22 ∧ b ≠ g23) (fun j hj h => by refine ⟨?_, ?_, ?_, ?_⟩ <;> omega)).keep ChgR.lasts (D.keeps0 _)
            replace B22 := B22.turns D (by simp)
            rw [← hg] at BN ⊢
            have T := T.trans D (by simp)
            clear hg D
            generalize X.alloc (.cells zX.toArray 45) = X at BN T d5 B22 ⊢
            have B23 := BN
            clear BN
            refine hK _ _ (.mk' T trivial) ?_
            clear hK K
            try simp only [sI, sS, sZ]
            refine rk1 6 3199 (fun K hK => ?_)
            go_simp
            refine (Add_any M HIM.out.1.ok HIM.out.2.1 (stCs s) HSC.out _ _ _ _ _ _ _ ((HLA.out.mono (S' := fun b => b ≠ pa ∧ b ≠ pb ∧ b ≠ g22 ∧ b ≠ g23) (fun j hj h => by have := G22.out; have := G23.out; refine ⟨?_, ?_, ?_, ?_⟩ <;> omega)).keep (T.keeps0 _)) d5).mono ?_
            rintro e X ⟨ov6, bv6, tv6, cv6, rfl, l6, d6, D⟩
            rw [← HADD.out] at l6 ⊢
            have l6 := l6.mono (S' := fun b => b ≠ pa ∧ b ≠ pb ∧ b ≠ g22 ∧ b ≠ g23) (fun j hj h => by have := T.size; have := HPP.out; have := B22.lt; have := B23.lt; refine ⟨?_, ?_, ?_, ?_⟩ <;> omega)
            have d6 := d6.mono ChgR.lasts (S' := fun b => b ≠ pa ∧ b ≠ pb ∧ b ≠ g22 ∧ b ≠ g23) (fun j hj h => by have := T.size; have := HPP.out; have := B22.lt; have := B23.lt; refine ⟨?_, ?_, ?_, ?_⟩ <;> omega)
            obtain ⟨A7, k7, rfl, _⟩ := l6.opn.form
            obtain ⟨A8, k8, rfl, _⟩ := l6.blks.form'
            obtain ⟨A9, k9, rfl, _⟩ := l6.txs.form
            obtain ⟨A4, k4, rfl, _⟩ := d6.form
            have T := T.trans D (by simp)
            replace B22 := B22.turns D (by simp)
            replace B23 := B23.turns D (by simp)
            refine hK _ _ (.mk' T trivial) ?_
            clear hK K
            try simp only [sI, sS, sZ]
            refine rkA 7 58 3327 (v := ?_) ?_ (.mk' T trivial) ?_
            rotate_left
            · intro W hS; go_simp; all_goals with_reducible rfl
            try simp only [sI, sS, sZ]
            refine rkA 8 66 3583 (v := ?_) ?_ (.mk' T trivial) ?_
            rotate_left
            · intro W hS; go_simp; all_goals with_reducible rfl
            try simp only [sI, sS, sZ]
            refine rkA 9 67 4095 (v := ?_) ?_ (.mk' T trivial) ?_
            rotate_left
            · intro W hS; go_simp; all_goals with_reducible rfl
            try simp only [sI, sS, sZ]
            rotate_left
            refine wp_alloc_arr 45 (by rfl) zX.toArray hzX ?_
            have BN := Blk.new X zX 45
            have D : Turns [] X (X.alloc (.cells zX.toArray 45)) := (Turns.refl _ _).alloc _
            obtain ⟨g23, hg⟩ : ∃ g, g = X.heap.size := ⟨_, rfl⟩
            have G23 := Lib.hid (show Y.heap.size ≤ g23 by rw [hg]; exact T.size)
            replace d5 := (d5.mono ChgR.lasts (S' := fun b => b ≠ pa ∧ b ≠ pb ∧ b ≠ g23) (fun j hj h => by refine ⟨?_, ?_, ?_⟩ <;> omega)).keep ChgR.lasts (D.keeps0 _)
            rw [← hg] at BN ⊢
            have T := T.trans D (by simp)
            clear hg D
            generalize X.alloc (.cells zX.toArray 45) = X at BN T d5 ⊢
            have B23 := BN
            clear BN
            refine hK _ _ (.mk' T trivial) ?_
            clear hK K
            try simp only [sI, sS, sZ]
            refine rk2 6 10 2175 3135 (fun K hK => ?_) (fun K hK => ?_)
            go_simp
            refine (Add_any M HIM.out.1.ok HIM.out.2.1 (stCs s) HSC.out _ _ _ _ _ _ _ ((HLA.out.mono (S' := fun b => b ≠ pa ∧ b ≠ pb ∧ b ≠ g23) (fun j hj h => by have := G23.out; refine ⟨?_, ?_, ?_⟩ <;> omega)).keep (T.keeps0 _)) d5).mono ?_
            rintro e X ⟨ov6, bv6, tv6, cv6, rfl, l6, d6, D⟩
            rw [← HADD.out] at l6 ⊢
            have l6 := l6.mono (S' := fun b => b ≠ pa ∧ b ≠ pb ∧ b ≠ g23) (fun j hj h => by have := T.size; have := HPP.out; have := B23.lt; refine ⟨?_, ?_, ?_⟩ <;> omega)
            have d6 := d6.mono ChgR.lasts (S' := fun b => b ≠ pa ∧ b ≠ pb ∧ b ≠ g23) (fun j hj h => by have := T.size; have := HPP.out; have := B23.lt; refine ⟨?_, ?_, ?_⟩ <;> omega)
            obtain ⟨A7, k7, rfl, _⟩ := l6.opn.form
            obtain ⟨A8, k8, rfl, _⟩ := l6.blks.form'
            obtain ⟨A9, k9, rfl, _⟩ := l6.txs.form
            obtain ⟨A4, k4, rfl, _⟩ := d6.form
            have T := T.trans D (by simp)
            replace B23 := B23.turns D (by simp)
            refine hK _ _ (.mk' T trivial) ?_
            clear hK K
            try simp only [sI, sS, sZ]
            refine rkA 7 58 2303 (v := ?_) ?_ (.mk' T trivial) ?_
            rotate_left
            · intro W hS; go_simp; all_goals with_reducible rfl
            try simp only [sI, sS, sZ]
            refine rkA 8 66 2559 (v := ?_) ?_ (.mk' T trivial) ?_
            rotate_left
            · intro W hS; go_simp; all_goals with_reducible rfl
            try simp only [sI, sS, sZ]
            refine rkA 9 67 3071 (v := ?_) ?_ (.mk' T trivial) ?_
            rotate_left
            · intro W hS; go_simp; all_goals with_reducible rfl
            try simp only [sI, sS, sZ]
            refine rk1 10 4095 (fun K hK => ?_)
            refine wp_alloc_arr 29 (by rfl) zL.toArray hzL ?_
            have BN := Blk.new X zL 29
            have D : Turns [] X (X.alloc (.cells zL.toArray 29)) := (Turns.refl _ _).alloc _
            obtain ⟨g22, hg⟩ : ∃ g, g = X.heap.size := ⟨_, rfl⟩
            have G22 := Lib.hid (show Y.heap.size ≤ g22 by rw [hg]; exact T.size)
            have N := Lib.hid (show g22 ≠ g23 by have := B23.lt; omega)
            replace l6 := (l6.mono (S' := fun b => b ≠ pa ∧ b ≠ pb ∧ b ≠ g22 ∧ b ≠ g23) (fun j hj h => by refine ⟨?_, ?_, ?_, ?_⟩ <;> omega)).keep (D.keeps0 _)
            replace d6 := (d6.mono ChgR.lasts (S' := fun b => b ≠ pa ∧ b ≠ pb ∧ b ≠ g22 ∧ b ≠ g23) (fun j hj h => by refine ⟨?_, ?_, ?_, ?_⟩ <;> omega)).keep ChgR.lasts (D.keeps0 _)
            replace B23 := B23.turns D (by simp)
            rw [← hg] at BN ⊢
            have T := T.trans D (by simp)
            clear hg D
            generalize X.alloc (.cells zL.toArray 29) = X at BN T l6 d6 B23 ⊢
            have B22 := BN
            clear BN
            refine hK _ _ (.mk' T trivial) ?_
            clear hK K
            try simp only [sI, sS, sZ]
            rotate_left
            refine wp_alloc_arr 29 (by rfl) zL.toArray hzL ?_
            have BN := Blk.new X zL 29
            have D : Turns [] X (X.alloc (.cells zL.toArray 29)) := (Turns.refl _ _).alloc _
            obtain ⟨g22, hg⟩ : ∃ g, g = X.heap.size := ⟨_, rfl⟩
            have G22 := Lib.hid (show Y.heap.size ≤ g22 by rw [hg]; exact T.size)
            have N := Lib.hid (show g22 ≠ g23 by have := B23.lt; omega)
            replace d5 := (d5.mono ChgR.lasts (S' := fun b => b ≠ pa ∧ b ≠ pb ∧ b ≠ g22 ∧ b ≠ g23) (fun j hj h => by refine ⟨?_, ?_, ?_, ?_⟩ <;> omega)).keep ChgR.lasts (D.keeps0 _)
            replace B23 := B23.turns D (by simp)
            rw [← hg] at BN ⊢
            have T := T.trans D (by simp)
            clear hg D
            generalize X.alloc (.cells zL.toArray 29) = X at BN T d5 B23 ⊢
            have B22 := BN
            clear BN
            refine hK _ _ (.mk' T trivial) ?_
            clear hK K
            try simp only [sI, sS, sZ]
            refine rk1 6 3199 (fun K hK => ?_)
            go_simp
            refine (Add_any M HIM.out.1.ok HIM.out.2.1 (stCs s) HSC.out _ _ _ _ _ _ _ ((HLA.out.mono (S' := fun b => b ≠ pa ∧ b ≠ pb ∧ b ≠ g22 ∧ b ≠ g23) (fun j hj h => by have := G22.out; have := G23.out; refine ⟨?_, ?_, ?_, ?_⟩ <;> omega)).keep (T.keeps0 _)) d5).mono ?_
            rintro e X ⟨ov6, bv6, tv6, cv6, rfl, l6, d6, D⟩
            rw [← HADD.out] at l6 ⊢
            have l6 := l6.mono (S' := fun b => b ≠ pa ∧ b ≠ pb ∧ b ≠ g22 ∧ b ≠ g23) (fun j hj h => by have := T.size; have := HPP.out; have := B22.lt; have := B23.lt; refine ⟨?_, ?_, ?_, ?_⟩ <;> omega)
            have d6 := d6.mono ChgR.lasts (S' := fun b => b ≠ pa ∧ b ≠ pb ∧ b ≠ g22 ∧ b ≠ g23) (fun j hj h => by have := T.size; have := HPP.out; have := B22.lt; have := B23.lt; refine ⟨?_, ?_, ?_, ?_⟩ <;> omega)
            obtain ⟨A7, k7, rfl, _⟩ := l6.opn.form
            obtain ⟨A8, k8, rfl, _⟩ := l6.blks.form'
            obtain ⟨A9, k9, rfl, _⟩ := l6.txs.form
            obtain ⟨A4, k4, rfl, _⟩ := d6.form
            have T := T.trans D (by simp)
            replace B22 := B22.turns D (by simp)
            replace B23 := B23.turns D (by simp)
            refine hK _ _ (.mk' T trivial) ?_
            clear hK K
            try simp only [sI, sS, sZ]
            refine rkA 7 58 3327 (v := ?_) ?_ (.mk' T trivial) ?_
            rotate_left
            · intro W hS; go_simp; all_goals with_reducible rfl
            try simp only [sI, sS, sZ]
            refine rkA 8 66 3583 (v := ?_) ?_ (.mk' T trivial) ?_
            rotate_left
            · intro W hS; go_simp; all_goals with_reducible rfl
            try simp only [sI, sS, sZ]
            refine rkA 9 67 4095 (v := ?_) ?_ (.mk' T trivial) ?_
            rotate_left
            · intro W hS; go_simp; all_goals with_reducible rfl
            try simp only [sI, sS, sZ]
            rotate_left
            refine wp_alloc_arr 29 (by rfl) zL.toArray hzL ?_
            have BN := Blk.new Y zL 29
            have D : Turns [] Y (Y.alloc (.cells zL.toArray 29)) := (Turns.refl _ _).alloc _
            obtain ⟨g22, hg⟩ : ∃ g, g = Y.heap.size := ⟨_, rfl⟩
            have G22 := Lib.hid (show Y.heap.size ≤ g22 by rw [hg]; exact T.size)
            rw [← hg] at BN ⊢
            have T := T.trans D (by simp)
            clear hg D
            generalize Y.alloc (.cells zL.toArray 29) = X at BN T ⊢
            have B22 := BN
            clear BN
            refine hK _ _ (.mk' T trivial) ?_
            clear hK K
            try simp only [sI, sS, sZ]
            refine rk2 5 11 1087 3103 (fun K hK => ?_) (fun K hK => ?_)
            go_simp
            refine (Changes_any s HSK.out.1 HSK.out.2.1 (.slice Ar s.v.length cr) _ _ (HSK.out.2.2.keep (T.keeps0 _))).mono ?_
            rintro e X ⟨A5, c5, rfl, d5, D⟩
            have d5 := d5.mono ChgR.lasts (S' := fun b => b ≠ pa ∧ b ≠ pb ∧ b ≠ g22) (fun j hj h => by have := T.size; have := HPP.out; have := B22.lt; refine ⟨?_, ?_, ?_⟩ <;> omega)
            have T := T.trans D (by simp)
            replace B22 := B22.turns D (by simp)
            refine hK _ _ (.mk' T trivial) ?_
            clear hK K
            try simp only [sI, sS, sZ]
            refine rk2 6 11 1151 3135 (fun K hK => ?_) (fun K hK => ?_)
            go_simp
            refine (Add_any M HIM.out.1.ok HIM.out.2.1 (stCs s) HSC.out _ _ _ _ _ _ _ ((HLA.out.mono (S' := fun b => b ≠ pa ∧ b ≠ pb ∧ b ≠ g22) (fun j hj h => by have := G22.out; refine ⟨?_, ?_, ?_⟩ <;> omega)).keep (T.keeps0 _)) d5).mono ?_
            rintro e X ⟨ov6, bv6, tv6, cv6, rfl, l6, d6, D⟩
            rw [← HADD.out] at l6 ⊢
            have l6 := l6.mono (S' := fun b => b ≠ pa ∧ b ≠ pb ∧ b ≠ g22) (fun j hj h => by have := T.size; have := HPP.out; have := B22.lt; refine ⟨?_, ?_, ?_⟩ <;> omega)
            have d6 := d6.mono ChgR.lasts (S' := fun b => b ≠ pa ∧ b ≠ pb ∧ b ≠ g22) (fun j hj h => by have := T.size; have := HPP.out; have := B22.lt; refine ⟨?_, ?_, ?_⟩ <;> omega)
            obtain ⟨A7, k7, rfl, _⟩ := l6.opn.form
            obtain ⟨A8, k8, rfl, _⟩ := l6.blks.form'
            obtain ⟨A9, k9, rfl, _⟩ := l6.txs.form
            obtain ⟨A4, k4, rfl, _⟩ := d6.form
            have T := T.trans D (by simp)
            replace B22 := B22.turns D (by simp)
            refine hK _ _ (.mk' T trivial) ?_
            clear hK K
            try simp only [sI, sS, sZ]
            refine rkA 7 58 1279 (v := ?_) ?_ (.mk' T trivial) ?_
            rotate_left
            · intro W hS; go_simp; all_goals with_reducible rfl
            try simp only [sI, sS, sZ]
            refine rkA 8 66 1535 (v := ?_) ?_ (.mk' T trivial) ?_
            rotate_left
            · intro W hS; go_simp; all_goals with_reducible rfl
            try simp only [sI, sS, sZ]
            refine rkA 9 67 2047 (v := ?_) ?_ (.mk' T trivial) ?_
            rotate_left
            · intro W hS; go_simp; all_goals with_reducible rfl
            try simp only [sI, sS, sZ]
            refine rk1 11 4095 (fun K hK => ?_)
            refine wp_alloc_arr 45 (by rfl) zX.toArray hzX ?_
            have BN := Blk.new X zX 45
            have D : Turns [] X (X.alloc (.cells zX.toArray 45)) := (Turns.refl _ _).alloc _
            obtain ⟨g23, hg⟩ : ∃ g, g = X.heap.size := ⟨_, rfl⟩
            have G23 := Lib.hid (show Y.heap.size ≤ g23 by rw [hg]; exact T.size)
            have N := Lib.hid (show g22 ≠ g23 by have := B22.lt; omega)
            replace l6 := (l6.mono (S' := fun b => b ≠ pa ∧ b ≠ pb ∧ b ≠ g22 ∧ b ≠ g23) (fun j hj h => by refine ⟨?_, ?_, ?_, ?_⟩ <;> omega)).keep (D.keeps0 _)
            replace d6 := (d6.mono ChgR.lasts (S' := fun b => b ≠ pa ∧ b ≠ pb ∧ b ≠ g22 ∧ b ≠ g23) (fun j hj h => by refine ⟨?_, ?_, ?_, ?_⟩ <;> omega)).keep ChgR.lasts (D.keeps0 _)
            replace B22 := B22.turns D (by simp)
            rw [← hg] at BN ⊢
            have T := T.trans D (by simp)
            clear hg D
            generalize X.alloc (.cells zX.toArray 45) = X at BN T l6 d6 B22 ⊢
            have B23 := BN
            clear BN
            refine hK _ _ (.mk' T trivial) ?_
            clear hK K
            try simp only [sI, sS, sZ]
            rotate_left
            refine wp_alloc_arr 45 (by rfl) zX.toArray hzX ?_
            have BN := Blk.new X zX 45
            have D : Turns [] X (X.alloc (.cells zX.toArray 45)) := (Turns.refl _ _).alloc _
            obtain ⟨g23, hg⟩ : ∃ g, g = X.heap.size := ⟨_, rfl⟩
            have G23 := Lib.hid (show Y.heap.size ≤ g23 by rw [hg]; exact T.size)
            have N := Lib.hid (show g22 ≠ g23 by have := B22.lt; omega)
            replace d5 := (d5.mono ChgR.lasts (S' := fun b => b ≠ pa ∧ b ≠ pb ∧ b ≠ g22 ∧ b ≠ g23) (fun j hj h => by refine ⟨?_, ?_, ?_, ?_⟩ <;> omega)).keep ChgR.lasts (D.keeps0 _)
            replace B22 := B22.turns D (by simp)
            rw [← hg] at BN ⊢
            have T := T.trans D (by simp)
            clear hg D
            generalize X.alloc (.cells zX.toArray 45) = X at BN T d5 B22 ⊢
            have B23 := BN
            clear BN
            refine hK _ _ (.mk' T trivial) ?_
            clear hK K
            try simp only [sI, sS, sZ]
            refine rk1 6 3199 (fun K hK => ?_)
            go_simp
            refine (Add_any M HIM.out.1.ok HIM.out.2.1 (stCs s) HSC.out _ _ _ _ _ _ _ ((HLA.out.mono (S' := fun b => b ≠ pa ∧ b ≠ pb ∧ b ≠ g22 ∧ b ≠ g23) (fun j hj h => by have := G22.out; have := G23.out; refine ⟨?_, ?_, ?_, ?_⟩ <;> omega)).keep (T.keeps0 _)) d5).mono ?_
            rintro e X ⟨ov6, bv6, tv6, cv6, rfl, l6, d6, D⟩
            rw [← HADD.out] at l6 ⊢
            have l6 := l6.mono (S' := fun b => b ≠ pa ∧ b ≠ pb ∧ b ≠ g22 ∧ b ≠ g23) (fun j hj h => by have := T.size; have := HPP.out; have := B22.lt; have := B23.lt; refine ⟨?_, ?_, ?_, ?_⟩ <;> omega)
            have d6 := d6.mono ChgR.lasts (S' := fun b => b ≠ pa ∧ b ≠ pb ∧ b ≠ g22 ∧ b ≠ g23) (fun j hj h => by have := T.size; have := HPP.out; have := B22.lt; have := B23.lt; refine ⟨?_, ?_, ?_, ?_⟩ <;> omega)
            obtain ⟨A7, k7, rfl, _⟩ := l6.opn.form
            obtain ⟨A8, k8, rfl, _⟩ := l6.blks.form'
            obtain ⟨A9, k9, rfl, _⟩ := l6.txs.form
            obtain ⟨A4, k4, rfl, _⟩ := d6.form
            have T := T.trans D (by simp)
            replace B22 := B22.turns D (by simp)
            replace B23 := B23.turns D (by simp)
            refine hK _ _ (.mk' T trivial) ?_
            clear hK K
            try simp only [sI, sS, sZ]
            refine rkA 7 58 3327 (v := ?_) ?_ (.mk' T trivial) ?_
            rotate_left
            · intro W hS; go_simp; all_goals with_reducible rfl
            try simp only [sI, sS, sZ]
            refine rkA 8 66 3583 (v := ?_) ?_ (.mk' T trivial) ?_
            rotate_left
            · intro W hS; go_simp; all_goals with_reducible rfl
            try simp only [sI, sS, sZ]
            refine rkA 9 67 4095 (v := ?_) ?_ (.mk' T trivial) ?_
            rotate_left
            · intro W hS; go_simp; all_goals with_reducible rfl
            try simp only [sI, sS, sZ]
            rotate_left
            refine wp_alloc_arr 45 (by rfl) zX.toArray hzX ?_
            have BN := Blk.new X zX 45
            have D : Turns [] X (X.alloc (.cells zX.toArray 45)) := (Turns.refl _ _).alloc _
            obtain ⟨g23, hg⟩ : ∃ g, g = X.heap.size := ⟨_, rfl⟩
            have G23 := Lib.hid (show Y.heap.size ≤ g23 by rw [hg]; exact T.size)
            have N := Lib.hid (show g22 ≠ g23 by have := B22.lt; omega)
            replace B22 := B22.turns D (by simp)
            rw [← hg] at BN ⊢
            have T := T.trans D (by simp)
            clear hg D
            generalize X.alloc (.cells zX.toArray 45) = X at BN T B22 ⊢
            have B23 := BN
            clear BN
            refine hK _ _ (.mk' T trivial) ?_
            clear hK K
            try simp only [sI, sS, sZ]
            refine rk1 5 3135 (fun K hK => ?_)
            go_simp
            refine (Changes_any s HSK.out.1 HSK.out.2.1 (.slice Ar s.v.length cr) _ _ (HSK.out.2.2.keep (T.keeps0 _))).mono ?_
            rintro e X ⟨A5, c5, rfl, d5, D⟩
            have d5 := d5.mono ChgR.lasts (S' := fun b => b ≠ pa ∧ b ≠ pb ∧ b ≠ g22 ∧ b ≠ g23) (fun j hj h => by have := T.size; have := HPP.out; have := B22.lt; have := B23.lt; refine ⟨?_, ?_, ?_, ?_⟩ <;> omega)
            have T := T.trans D (by simp)
            replace B22 := B22.turns D (by simp)
            replace B23 := B23.turns D (by simp)
            refine hK _ _ (.mk' T trivial) ?_
            clear hK K
            try simp only [sI, sS, sZ]
            refine rk1 6 3199 (fun K hK => ?_)
            go_simp
            refine (Add_any M HIM.out.1.ok HIM.out.2.1 (stCs s) HSC.out _ _ _ _ _ _ _ ((HLA.out.mono (S' := fun b => b ≠ pa ∧ b ≠ pb ∧ b ≠ g22 ∧ b ≠ g23) (fun j hj h => by have := G22.out; have := G23.out; refine ⟨?_, ?_, ?_, ?_⟩ <;> omega)).keep (T.keeps0 _)) d5).mono ?_
            rintro e X ⟨ov6, bv6, tv6, cv6, rfl, l6, d6, D⟩
            rw [← HADD.out] at l6 ⊢
            have l6 := l6.mono (S' := fun b => b ≠ pa ∧ b ≠ pb ∧ b ≠ g22 ∧ b ≠ g23) (fun j hj h => by have := T.size; have := HPP.out; have := B22.lt; have := B23.lt; refine ⟨?_, ?_, ?_, ?_⟩ <;> omega)
            have d6 := d6.mono ChgR.lasts (S' := fun b => b ≠ pa ∧ b ≠ pb ∧ b ≠ g22 ∧ b ≠ g23) (fun j hj h => by have := T.size; have := HPP.out; have := B22.lt; have := B23.lt; refine ⟨?_, ?_, ?_, ?_⟩ <;> omega)
            obtain ⟨A7, k7, rfl, _⟩ := l6.opn.form
            obtain ⟨A8, k8, rfl, _⟩ := l6.blks.form'
            obtain ⟨A9, k9, rfl, _⟩ := l6.txs.form
            obtain ⟨A4, k4, rfl, _⟩ := d6.form
            have T := T.trans D (by simp)
            replace B22 := B22.turns D (by simp)
            replace B23 := B23.turns D (by simp)
            refine hK _ _ (.mk' T trivial) ?_
            clear hK K
            try simp only [sI, sS, sZ]
            refine rkA 7 58 3327 (v := ?_) ?_ (.mk' T trivial) ?_
            rotate_left
            · intro W hS; go_simp; all_goals with_reducible rfl
            try simp only [sI, sS, sZ]
            refine rkA 8 66 3583 (v := ?_) ?_ (.mk' T trivial) ?_
            rotate_left
            · intro W hS; go_simp; all_goals with_reducible rfl
            try simp only [sI, sS, sZ]
            refine rkA 9 67 4095 (v := ?_) ?_ (.mk' T trivial) ?_
            rotate_left
            · intro W hS; go_simp; all_goals with_reducible rfl
            try simp only [sI, sS, sZ]
            rotate_left
            refine wp_alloc_arr 45 (by rfl) zX.toArray hzX ?_
            have BN := Blk.new Y zX 45
            have D : Turns [] Y (Y.alloc (.cells zX.toArray 45)) := (Turns.refl _ _).alloc _
            obtain ⟨g23, hg⟩ : ∃ g, g = Y.heap.size := ⟨_, rfl⟩
            have G23 := Lib.hid (show Y.heap.size ≤ g23 by rw [hg]; exact T.size)
            rw [← hg] at BN ⊢
            have T := T.trans D (by simp)
            clear hg D
            generalize Y.alloc (.cells zX.toArray 45) = X at BN T ⊢
            have B23 := BN
            clear BN
            refine hK _ _ (.mk' T trivial) ?_
            clear hK K
            try simp only [sI, sS, sZ]
            refine rk2 5 10 2111 3103 (fun K hK => ?_) (fun K hK => ?_)
            go_simp
            refine (Changes_any s HSK.out.1 HSK.out.2.1 (.slice Ar s.v.length cr) _ _ (HSK.out.2.2.keep (T.keeps0 _))).mono ?_
            rintro e X ⟨A5, c5, rfl, d5, D⟩
            have d5 := d5.mono ChgR.lasts (S' := fun b => b ≠ pa ∧ b ≠ pb ∧ b ≠ g23) (fun j hj h => by have := T.size; have := HPP.out; have := B23.lt; refine ⟨?_, ?_, ?_⟩ <;> omega)
            have T := T.trans D (by simp)
            replace B23 := B23.turns D (by simp)
            refine hK _ _ (.mk' T trivial) ?_
            clear hK K
            try simp only [sI, sS, sZ]
            refine rk2 6 10 2175 3135 (fun K hK => ?_) (fun K hK => ?_)
            go_simp
            refine (Add_any M HIM.out.1.ok HIM.out.2.1 (stCs s) HSC.out _ _ _ _ _ _ _ ((HLA.out.mono (S' := fun b => b ≠ pa ∧ b ≠ pb ∧ b ≠ g23) (fun j hj h => by have := G23.out; refine ⟨?_, ?_, ?_⟩ <;> omega)).keep (T.keeps0 _)) d5).mono ?_
            rintro e X ⟨ov6, bv6, tv6, cv6, rfl, l6, d6, D⟩
            rw [← HADD.out] at l6 ⊢
            have l6 := l6.mono (S' := fun b => b ≠ pa ∧ b ≠ pb ∧ b ≠ g23) (fun j hj h => by have := T.size; have := HPP.out; have := B23.lt; refine ⟨?_, ?_, ?_⟩ <;> omega)
            have d6 := d6.mono ChgR.lasts (S' := fun b => b ≠ pa ∧ b ≠ pb ∧ b ≠ g23) (fun j hj h => by have := T.size; have := HPP.out; have := B23.lt; refine ⟨?_, ?_, ?_⟩ <;> omega)
            obtain ⟨A7, k7, rfl, _⟩ := l6.opn.form
            obtain ⟨A8, k8, rfl, _⟩ := l6.blks.form'
            obtain ⟨A9, k9, rfl, _⟩ := l6.txs.form
            obtain ⟨A4, k4, rfl, _⟩ := d6.form
            have T := T.trans D (by simp)
            replace B23 := B23.turns D (by simp)
            refine hK _ _ (.mk' T trivial) ?_
            clear hK K
            try simp only [sI, sS, sZ]
            refine rkA 7 58 2303 (v := ?_) ?_ (.mk' T trivial) ?_
            rotate_left
            · intro W hS; go_simp; all_goals with_reducible rfl
            try simp only [sI, sS, sZ]
            refine rkA 8 66 2559 (v := ?_) ?_ (.mk' T trivial) ?_
            rotate_left
            · intro W hS; go_simp; all_goals with_reducible rfl
            try simp only [sI, sS, sZ]
            refine rkA 9 67 3071 (v := ?_) ?_ (.mk' T trivial) ?_
            rotate_left
            · intro W hS; go_simp; all_goals with_reducible rfl
            try simp only [sI, sS, sZ]
            refine rk1 10 4095 (fun K hK => ?_)
            refine wp_alloc_arr 29 (by rfl) zL.toArray hzL ?_
            have BN := Blk.new X zL 29
            have D : Turns [] X (X.alloc (.cells zL.toArray 29)) := (Turns.refl _ _).alloc _
            obtain ⟨g22, hg⟩ : ∃ g, g = X.heap.size := ⟨_, rfl⟩
            have G22 := Lib.hid (show Y.heap.size ≤ g22 by rw [hg]; exact T.size)
            have N := Lib.hid (show g22 ≠ g23 by have := B23.lt; omega)
            replace l6 := (l6.mono (S' := fun b => b ≠ pa ∧ b ≠ pb ∧ b ≠ g22 ∧ b ≠ g23) (fun j hj h => by refine ⟨?_, ?_, ?_, ?_⟩ <;> omega)).keep (D.keeps0 _)
            replace d6 := (d6.mono ChgR.lasts (S' := fun b => b ≠ pa ∧ b ≠ pb ∧ b ≠ g22 ∧ b ≠ g23) (fun j hj h => by refine ⟨?_, ?_, ?_, ?_⟩ <;> omega)).keep ChgR.lasts (D.keeps0 _)
            replace B23 := B23.turns D (by simp)
            rw [← hg] at BN ⊢
            have T := T.trans D (by simp)
            clear hg D
            generalize X.alloc (.cells zL.toArray 29) = X at BN T l6 d6 B23 ⊢
            have B22 := BN
            clear BN
            refine hK _ _ (.mk' T trivial) ?_
            clear hK K
            try simp only [sI, sS, sZ]
            rotate_left
            refine wp_alloc_arr 29 (by rfl) zL.toArray hzL ?_
            have BN := Blk.new X zL 29
            have D : Turns [] X (X.alloc (.cells zL.toArray 29)) := (Turns.refl _ _).alloc _
            obtain ⟨g22, hg⟩ : ∃ g, g = X.heap.size := ⟨_, rfl⟩
            have G22 := Lib.hid (show Y.heap.size ≤ g22 by rw [hg]; exact T.size)
            have N := Lib.hid (show g22 ≠ g23 by have := B23.lt; omega)
            replace d5 := (d5.mono ChgR.lasts (S' := fun b => b ≠ pa ∧ b ≠ pb ∧ b ≠ g22 ∧ b ≠ g23) (fun j hj h => by refine ⟨?_, ?_, ?_, ?_⟩ <;> omega)).keep ChgR.lasts (D.keeps0 _)
            replace B23 := B23.turns D (by simp)
            rw [← hg] at BN ⊢
            have T := T.trans D (by simp)
            clear hg D
            generalize X.alloc (.cells zL.toArray 29) = X at BN T d5 B23 ⊢
            have B22 := BN
            clear BN
            refine hK _ _ (.mk' T trivial) ?_
            clear hK K
            try simp only [sI, sS, sZ]
            refine rk1 6 3199 (fun K hK => ?_)
            go_simp
            refine (Add_any M HIM.out.1.ok HIM.out.2.1 (stCs s) HSC.out _ _ _ _ _ _ _ ((HLA.out.mono (S' := fun b => b ≠ pa ∧ b ≠ pb ∧ b ≠ g22 ∧ b ≠ g23) (fun j hj h => by have := G22.out; have := G23.out; refine ⟨?_, ?_, ?_, ?_⟩ <;> omega)).keep (T.keeps0 _)) d5).mono ?_
            rintro e X ⟨ov6, bv6, tv6, cv6, rfl, l6, d6, D⟩
            rw [← HADD.out] at l6 ⊢
            have l6 := l6.mono (S' := fun b => b ≠ pa ∧ b ≠ pb ∧ b ≠ g22 ∧ b ≠ g23) (fun j hj h => by have := T.size; have := HPP.out; have := B22.lt; have := B23.lt; refine ⟨?_, ?_, ?_, ?_⟩ <;> omega)
            have d6 := d6.mono ChgR.lasts (S' := fun b => b ≠ pa ∧ b ≠ pb ∧ b ≠ g22 ∧ b ≠ g23) (fun j hj h => by have := T.size; have := HPP.out; have := B22.lt; have := B23.lt; refine ⟨?_, ?_, ?_, ?_⟩ <;> omega)
            obtain ⟨A7, k7, rfl, _⟩ := l6.opn.form
            obtain ⟨A8, k8, rfl, _⟩ := l6.blks.form'
            obtain ⟨A9, k9, rfl, _⟩ := l6.txs.form
            obtain ⟨A4, k4, rfl, _⟩ := d6.form
            have T := T.trans D (by simp)
            replace B22 := B22.turns D (by simp)
            replace B23 := B23.turns D (by simp)
            refine hK _ _ (.mk' T trivial) ?_
            clear hK K
            try simp only [sI, sS, sZ]
            refine rkA 7 58 3327 (v := ?_) ?_ (.mk' T trivial) ?_
            rotate_left
            · intro W hS; go_simp; all_goals with_reducible rfl
            try simp only [sI, sS, sZ]
            refine rkA 8 66 3583 (v := ?_) ?_ (.mk' T trivial) ?_
            rotate_left
            · intro W hS; go_simp; all_goals with_reducible rfl
            try simp only [sI, sS, sZ]
            refine rkA 9 67 4095 (v := ?_) ?_ (.mk' T trivial) ?_
            rotate_left
            · intro W hS; go_simp; all_goals with_reducible rfl
            try simp only [sI, sS, sZ]
            rotate_left
            refine wp_alloc_arr 29 (by rfl) zL.toArray hzL ?_
            have BN := Blk.new X zL 29
            have D : Turns [] X (X.alloc (.cells zL.toArray 29)) := (Turns.refl _ _).alloc _
            obtain ⟨g22, hg⟩ : ∃ g, g = X.heap.size := ⟨_, rfl⟩
            have G22 := Lib.hid (show Y.heap.size ≤ g22 by rw [hg]; exact T.size)
            have N := Lib.hid (show g22 ≠ g23 by have := B23.lt; omega)
            replace B23 := B23.turns D (by simp)
            rw [← hg] at BN ⊢
            have T := T.trans D (by simp)
            clear hg D
            generalize X.alloc (.cells zL.toArray 29) = X at BN T B23 ⊢
            have B22 := BN
            clear BN
            refine hK _ _ (.mk' T trivial) ?_
            clear hK K
            try simp only [sI, sS, sZ]
            refine rk1 5 3135 (fun K hK => ?_)
            go_simp
            refine (Changes_any s HSK.out.1 HSK.out.2.1 (.slice Ar s.v.length cr) _ _ (HSK.out.2.2.keep (T.keeps0 _))).mono ?_
            rintro e X ⟨A5, c5, rfl, d5, D⟩
            have d5 := d5.mono ChgR.lasts (S' := fun b => b ≠ pa ∧ b ≠ pb ∧ b ≠ g22 ∧ b ≠ g23) (fun j hj h => by have := T.size; have := HPP.out; have := B22.lt; have := B23.lt; refine ⟨?_, ?_, ?_, ?_⟩ <;> omega)
            have T := T.trans D (by simp)
            replace B22 := B22.turns D (by simp)
            replace B23 := B23.turns D (by simp)
            refine hK _ _ (.mk' T trivial) ?_
            clear hK K
            try simp only [sI, sS, sZ]
            refine rk1 6 3199 (fun K hK => ?_)
            go_simp
            refine (Add_any M HIM.out.1.ok HIM.out.2.1 (stCs s) HSC.out _ _ _ _ _ _ _ ((HLA.out.mono (S' := fun b => b ≠ pa ∧ b ≠ pb ∧ b ≠ g22 ∧ b ≠ g23) (fun j hj h => by have := G22.out; have := G23.out; refine ⟨?_, ?_, ?_, ?_⟩ <;> omega)).keep (T.keeps0 _)) d5).mono ?_
            rintro e X ⟨ov6, bv6, tv6, cv6, rfl, l6, d6, D⟩
            rw [← HADD.out] at l6 ⊢
            have l6 := l6.mono (S' := fun b => b ≠ pa ∧ b ≠ pb ∧ b ≠ g22 ∧ b ≠ g23) (fun j hj h => by have := T.size; have := HPP.out; have := B22.lt; have := B23.lt; refine ⟨?_, ?_, ?_, ?_⟩ <;> omega)
            have d6 := d6.mono ChgR.lasts (S' := fun b => b ≠ pa ∧ b ≠ pb ∧ b ≠ g22 ∧ b ≠ g23) (fun j hj h => by have := T.size; have := HPP.out; have := B22.lt; have := B23.lt; refine ⟨?_, ?_, ?_, ?_⟩ <;> omega)
            obtain ⟨A7, k7, rfl, _⟩ := l6.opn.form
            obtain ⟨A8, k8, rfl, _⟩ := l6.blks.form'
            obtain ⟨A9, k9, rfl, _⟩ := l6.txs.form
            obtain ⟨A4, k4, rfl, _⟩ := d6.form
            have T := T.trans D (by simp)
            replace B22 := B22.turns D (by simp)
            replace B23 := B23.turns D (by simp)
            refine hK _ _ (.mk' T trivial) ?_
            clear hK K
            try simp only [sI, sS, sZ]
            refine rkA 7 58 3327 (v := ?_) ?_ (.mk' T trivial) ?_
            rotate_left
            · intro W hS; go_simp; all_goals with_reducible rfl
            try simp only [sI, sS, sZ]
            refine rkA 8 66 3583 (v := ?_) ?_ (.mk' T trivial) ?_
            rotate_left
            · intro W hS; go_simp; all_goals with_reducible rfl
            try simp only [sI, sS, sZ]
            refine rkA 9 67 4095 (v := ?_) ?_ (.mk' T trivial) ?_
            rotate_left
            · intro W hS; go_simp; all_goals with_reducible rfl
            try simp only [sI, sS, sZ]
            all_goals
              refine rk1 12 8191 (fun K hK => ?_)
              refine wp_store_blk 29 _ _ (by rfl) g22 (by rfl) [.int .i64 M'.next, .slice A7 M'.opn.length k7, .slice A8 M'.blks.length k8, .slice A9 M'.txs.length k9] zL 29 (by rfl) B22 HZL.out.1 (size_led _ _ _ _) (by intro u hu; simp at hu; rcases hu with rfl | rfl | rfl | rfl <;> rfl) (fun X12 hb12 ht12 => ?_)
              have D12 := T.trans ht12 (by intro x hx; simp at hx; exact .inr (by rw [hx]; exact G22.out))
              have B13 := B23.turns ht12 (by simp; exact fun e => N.out e.symm)
              refine hK _ _ (.mk' D12 trivial) ?_
              clear hK K
              try simp only [sI, sS, sZ]
              refine rk1 13 16383 (fun K hK => ?_)
              refine wp_store_blk 45 _ _ (by rfl) g23 (by rfl) [.int .i64 M.next, .slice A4 (stCs s).length k4] zX 45 (by rfl) B13 HZL.out.2 (size_tx _ _) (by intro u hu; simp at hu; rcases hu with rfl | rfl <;> rfl) (fun X13 hb13 ht13 => ?_)
              have D13 := D12.trans ht13 (by intro x hx; simp at hx; exact .inr (by rw [hx]; exact G23.out))
              have t13 := (ht12.mono (L' := [g22, g23]) (by simp)).trans (ht13.mono (L' := [g22, g23]) (by simp)) (fun x hx => .inl hx)
              have kp := t13.keepsB (fun b => b ≠ pa ∧ b ≠ pb ∧ b ≠ g22 ∧ b ≠ g23) (by intro x hx _ h; simp at hx; rcases hx with rfl | rfl; exact h.2.2.1 rfl; exact h.2.2.2 rfl)
              have HFX := Lib.hid (show AddQ Y M' M.next (stCs s) 29 pa pb _ _ X13 from ⟨g22, g23, _, _, _, _, rfl, rfl, G22.out, G23.out, hb12.turns ht13 (by simp; exact N.out), hb13, (l6.keep kp).mono (fun _ _ h => ⟨h.1, h.2.1⟩), (d6.keep ChgR.lasts kp).mono ChgR.lasts (fun _ _ _ => trivial), D13⟩)
              refine hK _ _ (.mk' D13 trivial) ?_
              clear hK K
              try simp only [sI, sS, sZ]
              refine rkZ ?_
              go_wp2_with fail
              go_meet
              exact HFX.out
          case rest =>
            generalize wc = z1 at *
            obtain ⟨g8, g13, ov8, bv8, tv8, cv8, rfl, rfl, hg8, hg13, b8, b13, la8, d8', tz1⟩ := hcut
            obtain ⟨A8, c8, rfl, _⟩ := la8.opn.form
            obtain ⟨A9, c9, rfl, _⟩ := la8.blks.form'
            obtain ⟨A10, c10, rfl, _⟩ := la8.txs.form
            obtain ⟨Ac, cc1, rfl, _⟩ := d8'.form
            have t7z := HTY.out.trans tz1 (by simp)
            have HQ8 := Lib.hid (And.intro b8 (And.intro b13 (And.intro la8 (And.intro d8' (And.intro t7z (show x7.heap.size ≤ g8 by have := HTY.out.size; omega))))))
            clear S0 R1 RQ HLA HSK HPP HTY hzL hg8 hg13 b8 b13 la8 d8' tz1
            obtain ⟨Y, hY⟩ : ∃ q, q = z1.drew := ⟨_, rfl⟩
            have tY : Turns [] z1 Y := by rw [hY]; exact (Turns.refl _ _).drew
            have HYY := Lib.hid hY
            have t7Y := t7z.trans tY (by simp)
            have R2 := rangeV t7Y HPA.out.2.1.all
            have RQ := rangeV t7Y HRG.out
            have HLB := Lib.hid (HLB.out.keep (t7Y.keeps0 _))
            have HSK := Lib.hid (And.intro HSW.out.2.2.1 (And.intro HSW.out.2.2.2 (HSL.out.keep (t7Y.keeps0 _))))
            have HPP := Lib.hid (show pa < Y.heap.size ∧ pb < Y.heap.size by have := HPA.out.2.2; have := t7Y.size; omega)
            have HTY := Lib.hid tY
            have hzR := HZ.out.2.1
            have S0 : Turns [] Y Y := Turns.refl _ _
            clear hY tY t7Y t7z
            go_upto_region 18 with fail
            go_cut [14, 15] (fun u v wx => AddQ Y M' M.next (stCs s) 32 pa pb u v wx)
            case first =>
              refine rk0 (fun W => Turns [] Y W) (fun _ => True) 14 14 ?_
              rw [← HYY.out]
              have T := S0
              refine rkY 0 69 1 rfl (yieldsIf_load_mid (by rfl) _ _ rfl pb 0 (by rfl) _ _ (fun W hS => rangeV hS R2) Tryz.underlying32 rfl hz2) (.mk' T trivial) ?_
              try simp only [sI, sS, sZ]
              refine rkA 1 70 3 (v := ?_) ?_ (.mk' T trivial) ?_
              rotate_left
              · intro W hS; go_simp; all_goals with_reducible rfl
              try simp only [sI, sS, sZ]
              refine rkA 2 71 7 (v := ?_) ?_ (.mk' T trivial) ?_
              rotate_left
              · intro W hS; go_simp; all_goals with_reducible rfl
              try simp only [sI, sS, sZ]
              refine rkA 3 72 15 (v := ?_) ?_ (.mk' T trivial) ?_
              rotate_left
              · intro W hS; go_simp; all_goals with_reducible rfl
              try simp only [sI, sS, sZ]
              refine rkY 4 73 31 rfl (yieldsIf_load_mid (by rfl) _ _ rfl b0 (off + k * 4) (by rfl) _ _ (fun W hS => rangeV hS RQ) Tryz.underlying37 rfl hz4s) (.mk' T trivial) ?_
              try simp only [sI, sS, sZ]
              refine rk3 5 10 11 63 1055 2079 (fun K hK => ?_) (fun K hK => ?_) (fun K hK => ?_)
              go_simp
              refine (Changes_any s HSK.out.1 HSK.out.2.1 (.slice Ar s.v.length cr) _ _ (HSK.out.2.2.keep (T.keeps0 _))).mono ?_
              rintro e X ⟨A5, c5, rfl, d5, D⟩
              have d5 := d5.mono ChgR.lasts (S' := fun b => b ≠ pa ∧ b ≠ pb) (fun j hj h => by have := T.size; have := HPP.out; refine ⟨?_, ?_⟩ <;> omega)
              have T := T.trans D (by simp)
              refine hK _ _ (.mk' T trivial) ?_
              clear hK K
              try simp only [sI, sS, sZ]
              refine rk3 6 10 11 127 1087 2111 (fun K hK => ?_) (fun K hK => ?_) (fun K hK => ?_)
              go_simp
              refine (RAdd_any M HIM.out.1.ok HIM.out.2.2 (stCs s) HSC.out _ _ _ _ _ _ ((HLB.out.mono (S' := fun b => b ≠ pa ∧ b ≠ pb) (fun j hj h => by refine ⟨?_, ?_⟩ <;> omega)).keep (T.keeps0 _)) d5).mono ?_
              rintro e X ⟨ov6, bv6, tv6, cv6, rfl, l6, d6, D⟩
              rw [← HADD.out] at l6 ⊢
              have l6 := l6.mono (S' := fun b => b ≠ pa ∧ b ≠ pb) (fun j hj h => by rcases h with h | h; exact h; have := T.size; have := HPP.out; refine ⟨?_, ?_⟩ <;> omega)
              have d6 := d6.mono ChgR.lasts (S' := fun b => b ≠ pa ∧ b ≠ pb) (fun j hj h => by rcases h with h | h; exact h; have := T.size; have := HPP.out; refine ⟨?_, ?_⟩ <;> omega)
              obtain ⟨A7, k7, rfl, _⟩ := l6.opn.form
              obtain ⟨A8, k8, rfl, _⟩ := l6.blks.form'
              obtain ⟨A9, k9, rfl, _⟩ := l6.txs.form
              obtain ⟨A4, k4, rfl, _⟩ := d6.form
              have T := T.trans D (by simp)
              refine hK _ _ (.mk' T trivial) ?_
              clear hK K
              try simp only [sI, sS, sZ]
              refine rkA 7 68 255 (v := ?_) ?_ (.mk' T trivial) ?_
              rotate_left
              · intro W hS; go_simp; all_goals with_reducible rfl
              try simp only [sI, sS, sZ]
              refine rkA 8 76 511 (v := ?_) ?_ (.mk' T trivial) ?_
              rotate_left
              · intro W hS; go_simp; all_goals with_reducible rfl
              try simp only [sI, sS, sZ]
              refine rkA 9 77 1023 (v := ?_) ?_ (.mk' T trivial) ?_
              rotate_left
              · intro W hS; go_simp; all_goals with_reducible rfl
              try simp only [sI, sS, sZ]
              refine rk2 10 11 2047 3071 (fun K hK => ?_) (fun K hK => ?_)
              refine wp_alloc_arr 32 (by rfl) zL.toArray hzR ?_
              have BN := Blk.new X zL 32
              have D : Turns [] X (X.alloc (.cells zL.toArray 32)) := (Turns.refl _ _).alloc _
              obtain ⟨g22, hg⟩ : ∃ g, g = X.heap.size := ⟨_, rfl⟩
              have G22 := Lib.hid (show Y.heap.size ≤ g22 by rw [hg]; exact T.size)
              replace l6 := (l6.mono (S' := fun b => b ≠ pa ∧ b ≠ pb ∧ b ≠ g22) (fun j hj h => by refine ⟨?_, ?_, ?_⟩ <;> omega)).keep (D.keeps0 _)
              replace d6 := (d6.mono ChgR.lasts (S' := fun b => b ≠ pa ∧ b ≠ pb ∧ b ≠ g22) (fun j hj h => by refine ⟨?_, ?_, ?_⟩ <;> omega)).keep ChgR.lasts (D.keeps0 _)
              rw [← hg] at BN ⊢
              have T := T.trans D (by simp)
              clear hg D
              generalize X.alloc (.cells zL.toArray 32) = X at BN T l6 d6 ⊢
              have B22 := BN
              clear BN
              refine hK _ _ (.mk' T trivial) ?_
              clear hK K
              try simp only [sI, sS, sZ]
              refine rk1 11 4095 (fun K hK => ?_)
              refine wp_alloc_arr 45 (by rfl) zX.toArray hzX ?_
              have BN := Blk.new X zX 45
              have D : Turns [] X (X.alloc (.cells zX.toArray 45)) := (Turns.refl _ _).alloc _
              obtain ⟨g23, hg⟩ : ∃ g, g = X.heap.size := ⟨_, rfl⟩
              have G23 := Lib.hid (show Y.heap.size ≤ g23 by rw [hg]; exact T.size)
              have N := Lib.hid (show g22 ≠ g23 by have := B22.lt; omega)
              replace l6 := (l6.mono (S' := fun b => b ≠ pa ∧ b ≠ pb ∧ b ≠ g22 ∧ b ≠ g23) (fun j hj h => by refine ⟨?_, ?_, ?_, ?_⟩ <;> omega)).keep (D.keeps0 _)
              replace d6 := (d6.mono ChgR.lasts (S' := fun b => b ≠ pa ∧ b ≠ pb ∧ b ≠ g22 ∧ b ≠ g23) (fun j hj h => by refine ⟨?_, ?_, ?_, ?_⟩ <;> omega)).keep ChgR.lasts (D.keeps0 _)
              replace B22 := B22.turns D (by simp)
              rw [← hg] at BN ⊢
              have T := T.trans D (by simp)
              clear hg D
              generalize X.alloc (.cells zX.toArray 45) = X at BN T l6 d6 B22 ⊢
              have B23 := BN
              clear BN
              refine hK _ _ (.mk' T trivial) ?_
              clear hK K
              try simp only [sI, sS, sZ]
              rotate_left
              refine wp_alloc_arr 45 (by rfl) zX.toArray hzX ?_
              have BN := Blk.new X zX 45
              have D : Turns [] X (X.alloc (.cells zX.toArray 45)) := (Turns.refl _ _).alloc _
              obtain ⟨g23, hg⟩ : ∃ g, g = X.heap.size := ⟨_, rfl⟩
              have G23 := Lib.hid (show Y.heap.size ≤ g23 by rw [hg]; exact T.size)
              replace l6 := (l6.mono (S' := fun b => b ≠ pa ∧ b ≠ pb ∧ b ≠ g23) (fun j hj h => by refine ⟨?_, ?_, ?_⟩ <;> omega)).keep (D.keeps0 _)
              replace d6 := (d6.mono ChgR.lasts (S' := fun b => b ≠ pa ∧ b ≠ pb ∧ b ≠ g23) (fun j hj h => by refine ⟨?_, ?_, ?_⟩ <;> omega)).keep ChgR.lasts (D.keeps0 _)
              rw [← hg] at BN ⊢
              have T := T.trans D (by simp)
              clear hg D
              generalize X.alloc (.cells zX.toArray 45) = X at BN T l6 d6 ⊢
              have B23 := BN
              clear BN
              refine hK _ _ (.mk' T trivial) ?_
              clear hK K
              try simp only [sI, sS, sZ]
              refine rk1 10 4095 (fun K hK => ?_)
              refine wp_alloc_arr 32 (by rfl) zL.toArray hzR ?_
              have BN := Blk.new X zL 32
              have D : Turns [] X (X.alloc (.cells zL.toArray 32)) := (Turns.refl _ _).alloc _
              obtain ⟨g22, hg⟩ : ∃ g, g = X.heap.size := ⟨_, rfl⟩
              have G22 := Lib.hid (show Y.heap.size ≤ g22 by rw [hg]; exact T.size)
              have N := Lib.hid (show g22 ≠ g23 by have := B23.lt; omega)
              replace l6 := (l6.mono (S' := fun b => b ≠ pa ∧ b ≠ pb ∧ b ≠ g22 ∧ b ≠ g23) (fun j hj h => by refine ⟨?_, ?_, ?_, ?_⟩ <;> omega)).keep (D.keeps0 _)
              replace d6 := (d6.mono ChgR.lasts (S' := fun b => b ≠ pa ∧ b ≠ pb ∧ b ≠ g22 ∧ b ≠ g23) (fun j hj h => by refine ⟨?_, ?_, ?_, ?_⟩ <;> omega)).keep ChgR.lasts (D.keeps0 _)
              replace B23 := B23.turns D (by simp)
              rw [← hg] at BN ⊢
              have T := T.trans D (by simp)
              clear hg D
              generalize X.alloc (.cells zL.toArray 32) = X at BN T l6 d6 B23 ⊢
              have B22 := BN
              clear BN
              refine hK _ _ (.mk' T trivial) ?_
              clear hK K
              try simp only [sI, sS, sZ]
              rotate_left
              refine wp_alloc_arr 32 (by rfl) zL.toArray hzR ?_
              have BN := Blk.new X zL 32
              have D : Turns [] X (X.alloc (.cells zL.toArray 32)) := (Turns.refl _ _).alloc _
              obtain ⟨g22, hg⟩ : ∃ g, g = X.heap.size := ⟨_, rfl⟩
              have G22 := Lib.hid (show Y.heap.size ≤ g22 by rw [hg]; exact T.size)
              replace d5 := (d5.mono ChgR.lasts (S' := fun b => b ≠ pa ∧ b ≠ pb ∧ b ≠ g22) (fun j hj h => by refine ⟨?_, ?_, ?_⟩ <;> omega)).keep ChgR.lasts (D.keeps0 _)
              rw [← hg] at BN ⊢
              have T := T.trans D (by simp)
              clear hg D
              generalize X.alloc (.cells zL.toArray 32) = X at BN T d5 ⊢
              have B22 := BN
              clear BN
              refine hK _ _ (.mk' T trivial) ?_
              clear hK K
              try simp only [sI, sS, sZ]
              refine rk2 6 11 1151 3135 (fun K hK => ?_) (fun K hK => ?_)
              go_simp
              refine (RAdd_any M HIM.out.1.ok HIM.out.2.2 (stCs s) HSC.out _ _ _ _ _ _ ((HLB.out.mono (S' := fun b => b ≠ pa ∧ b ≠ pb ∧ b ≠ g22) (fun j hj h => by have := G22.out; refine ⟨?_, ?_, ?_⟩ <;> omega)).keep (T.keeps0 _)) d5).mono ?_
              rintro e X ⟨ov6, bv6, tv6, cv6, rfl, l6, d6, D⟩
              rw [← HADD.out] at l6 ⊢
              have l6 := l6.mono (S' := fun b => b ≠ pa ∧ b ≠ pb ∧ b ≠ g22) (fun j hj h => by rcases h with h | h; exact h; have := T.size; have := HPP.out; have := B22.lt; refine ⟨?_, ?_, ?_⟩ <;> omega)
              have d6 := d6.mono ChgR.lasts (S' := fun b => b ≠ pa ∧ b ≠ pb ∧ b ≠ g22) (fun j hj h => by rcases h with h | h; exact h; have := T.size; have := HPP.out; have := B22.lt; refine ⟨?_, ?_, ?_⟩ <;> omega)
              obtain ⟨A7, k7, rfl, _⟩ := l6.opn.form
              obtain ⟨A8, k8, rfl, _⟩ := l6.blks.form'
              obtain ⟨A9, k9, rfl, _⟩ := l6.txs.form
              obtain ⟨A4, k4, rfl, _⟩ := d6.form
              have T := T.trans D (by simp)
              replace B22 := B22.turns D (by simp)
              refine hK _ _ (.mk' T trivial) ?_
              clear hK K
              try simp only [sI, sS, sZ]
              refine rkA 7 68 1279 (v := ?_) ?_ (.mk' T trivial) ?_
              rotate_left
              · intro W hS; go_simp; all_goals with_reducible rfl
              try simp only [sI, sS, sZ]
              refine rkA 8 76 1535 (v := ?_) ?_ (.mk' T trivial) ?_
              rotate_left
              · intro W hS; go_simp; all_goals with_reducible rfl
              try simp only [sI, sS, sZ]
              refine rkA 9 77 2047 (v := ?_) ?_ (.mk' T trivial) ?_
              rotate_left
              · intro W hS; go_simp; all_goals with_reducible rfl
              try simp only [sI, sS, sZ]
              refine rk1 11 4095 (fun K hK => ?_)
              refine wp_alloc_arr 45 (by rfl) zX.toArray hzX ?_
              have BN := Blk.new X zX 45
              have D : Turns [] X (X.alloc (.cells zX.toArray 45)) := (Turns.refl _ _).alloc _
              obtain ⟨g23, hg⟩ : ∃ g, g = X.heap.size := ⟨_, rfl⟩
              have G23 := Lib.hid (show Y.heap.size ≤ g23 by rw [hg]; exact T.size)
              have N := Lib.hid (show g22 ≠ g23 by have := B22.lt; omega)
              replace l6 := (l6.mono (S' := fun b => b ≠ pa ∧ b ≠ pb ∧ b ≠ g22 ∧ b ≠ g23) (fun j hj h => by refine ⟨?_, ?_, ?_, ?_⟩ <;> omega)).keep (D.keeps0 _)
              replace d6 := (d6.mono ChgR.lasts (S' := fun b => b ≠ pa ∧ b ≠ pb ∧ b ≠ g22 ∧ b ≠ g23) (fun j hj h => by refine ⟨?_, ?_, ?_, ?_⟩ <;> omega)).keep ChgR.lasts (D.keeps0 _)
              replace B22 := B22.turns D (by simp)
              rw [← hg] at BN ⊢
              have T := T.trans D (by simp)
              clear hg D
              generalize X.alloc (.cells zX.toArray 45) = X at BN T l6 d6 B22 ⊢
              have B23 := BN
              clear BN
              refine hK _ _ (.mk' T trivial) ?_
              clear hK K
              try simp only [sI, sS, sZ]
              rotate_left
              refine wp_alloc_arr 45 (by rfl) zX.toArray hzX ?_
              have BN := Blk.new X zX 45
              have D : Turns [] X (X.alloc (.cells zX.toArray 45)) := (Turns.refl _ _).alloc _
              obtain ⟨g23, hg⟩ : ∃ g, g = X.heap.size := ⟨_, rfl⟩
              have G23 := Lib.hid (show Y.heap.size ≤ g23 by rw [hg]; exact T.size)
              have N := Lib.hid (show g22 ≠ g23 by have := B22.lt; omega)
              replace d5 := (d5.mono ChgR.lasts (S' := fun b => b ≠ pa ∧ b ≠ pb ∧ b ≠ g22 ∧ b ≠ g23) (fun j hj h => by refine ⟨?_, ?_, ?_, ?_⟩ <;> omega)).keep ChgR.lasts (D.keeps0 _)
              replace B22 := B22.turns D (by simp)
              rw [← hg] at BN ⊢
              have T := T.trans D (by simp)
              clear hg D
              generalize X.alloc (.cells zX.toArray 45) = X at BN T d5 B22 ⊢
              have B23 := BN
              clear BN
              refine hK _ _ (.mk' T trivial) ?_
              clear hK K
              try simp only [sI, sS, sZ]
              refine rk1 6 3199 (fun K hK => ?_)
              go_simp
              refine (RAdd_any M HIM.out.1.ok HIM.out.2.2 (stCs s) HSC.out _ _ _ _ _ _ ((HLB.out.mono (S' := fun b => b ≠ pa ∧ b ≠ pb ∧ b ≠ g22 ∧ b ≠ g23) (fun j hj h => by have := G22.out; have := G23.out; refine ⟨?_, ?_, ?_, ?_⟩ <;> omega)).keep (T.keeps0 _)) d5).mono ?_
              rintro e X ⟨ov6, bv6, tv6, cv6, rfl, l6, d6, D⟩
              rw [← HADD.out] at l6 ⊢
              have l6 := l6.mono (S' := fun b => b ≠ pa ∧ b ≠ pb ∧ b ≠ g22 ∧ b ≠ g23) (fun j hj h => by rcases h with h | h; exact h; have := T.size; have := HPP.out; have := B22.lt; have := B23.lt; refine ⟨?_, ?_, ?_, ?_⟩ <;> omega)
              have d6 := d6.mono ChgR.lasts (S' := fun b => b ≠ pa ∧ b ≠ pb ∧ b ≠ g22 ∧ b ≠ g23) (fun j hj h => by rcases h with h | h; exact h; have := T.size; have := HPP.out; have := B22.lt; have := B23.lt; refine ⟨?_, ?_, ?_, ?_⟩ <;> omega)
              obtain ⟨A7, k7, rfl, _⟩ := l6.opn.form
              obtain ⟨A8, k8, rfl, _⟩ := l6.blks.form'
              obtain ⟨A9, k9, rfl, _⟩ := l6.txs.form
              obtain ⟨A4, k4, rfl, _⟩ := d6.form
              have T := T.trans D (by simp)
              replace B22 := B22.turns D (by simp)
              replace B23 := B23.turns D (by simp)
              refine hK _ _ (.mk' T trivial) ?_
              clear hK K
              try simp only [sI, sS, sZ]
              refine rkA 7 68 3327 (v := ?_) ?_ (.mk' T trivial) ?_
              rotate_left
              · intro W hS; go_simp; all_goals with_reducible rfl
              try simp only [sI, sS, sZ]
              refine rkA 8 76 3583 (v := ?_) ?_ (.mk' T trivial) ?_
              rotate_left
              · intro W hS; go_simp; all_goals with_reducible rfl
              try simp only [sI, sS, sZ]
              refine rkA 9 77 4095 (v := ?_) ?_ (.mk' T trivial) ?_
              rotate_left
              · intro W hS; go_simp; all_goals with_reducible rfl
              try simp only [sI, sS, sZ]
              rotate_left
              refine wp_alloc_arr 45 (by rfl) zX.toArray hzX ?_
              have BN := Blk.new X zX 45
              have D : Turns [] X (X.alloc (.cells zX.toArray 45)) := (Turns.refl _ _).alloc _
              obtain ⟨g23, hg⟩ : ∃ g, g = X.heap.size := ⟨_, rfl⟩
              have G23 := Lib.hid (show Y.heap.size ≤ g23 by rw [hg]; exact T.size)
              replace d5 := (d5.mono ChgR.lasts (S' := fun b => b ≠ pa ∧ b ≠ pb ∧ b ≠ g23) (fun j hj h => by refine ⟨?_, ?_, ?_⟩ <;> omega)).keep ChgR.lasts (D.keeps0 _)
              rw [← hg] at BN ⊢
              have T := T.trans D (by simp)
              clear hg D
              generalize X.alloc (.cells zX.toArray 45) = X at BN T d5 ⊢
              have B23 := BN
              clear BN
              refine hK _ _ (.mk' T trivial) ?_
              clear hK K
              try simp only [sI, sS, sZ]
              refine rk2 6 10 2175 3135 (fun K hK => ?_) (fun K hK => ?_)
              go_simp
              refine (RAdd_any M HIM.out.1.ok HIM.out.2.2 (stCs s) HSC.out _ _ _ _ _ _ ((HLB.out.mono (S' := fun b => b ≠ pa ∧ b ≠ pb ∧ b ≠ g23) (fun j hj h => by have := G23.out; refine ⟨?_, ?_, ?_⟩ <;> omega)).keep (T.keeps0 _)) d5).mono ?_
              rintro e X ⟨ov6, bv6, tv6, cv6, rfl, l6, d6, D⟩
              rw [← HADD.out] at l6 ⊢
              have l6 := l6.mono (S' := fun b => b ≠ pa ∧ b ≠ pb ∧ b ≠ g23) (fun j hj h => by rcases h with h | h; exact h; have := T.size; have := HPP.out; have := B23.lt; refine ⟨?_, ?_, ?_⟩ <;> omega)
              have d6 := d6.mono ChgR.lasts (S' := fun b => b ≠ pa ∧ b ≠ pb ∧ b ≠ g23) (fun j hj h => by rcases h with h | h; exact h; have := T.size; have := HPP.out; have := B23.lt; refine ⟨?_, ?_, ?_⟩ <;> omega)
              obtain ⟨A7, k7, rfl, _⟩ := l6.opn.form
              obtain ⟨A8, k8, rfl, _⟩ := l6.blks.form'
              obtain ⟨A9, k9, rfl, _⟩ := l6.txs.form
              obtain ⟨A4, k4, rfl, _⟩ := d6.form
              have T := T.trans D (by simp)
              replace B23 := B23.turns D (by simp)
              refine hK _ _ (.mk' T trivial) ?_
              clear hK K
              try simp only [sI, sS, sZ]
              refine rkA 7 68 2303 (v := ?_) ?_ (.mk' T trivial) ?_
              rotate_left
              · intro W hS; go_simp; all_goals with_reducible rfl
              try simp only [sI, sS, sZ]
              refine rkA 8 76 2559 (v := ?_) ?_ (.mk' T trivial) ?_
              rotate_left
              · intro W hS; go_simp; all_goals with_reducible rfl
              try simp only [sI, sS, sZ]
              refine rkA 9 77 3071 (v := ?_) ?_ (.mk' T trivial) ?_
              rotate_left
              · intro W hS; go_simp; all_goals with_reducible rfl
              try simp only [sI, sS, sZ]
              refine rk1 10 4095 (fun K hK => ?_)
              refine wp_alloc_arr 32 (by rfl) zL.toArray hzR ?_
              have BN := Blk.new X zL 32
              have D : Turns [] X (X.alloc (.cells zL.toArray 32)) := (Turns.refl _ _).alloc _
              obtain ⟨g22, hg⟩ : ∃ g, g = X.heap.size := ⟨_, rfl⟩
              have G22 := Lib.hid (show Y.heap.size ≤ g22 by rw [hg]; exact T.size)
              have N := Lib.hid (show g22 ≠ g23 by have := B23.lt; omega)
              replace l6 := (l6.mono (S' := fun b => b ≠ pa ∧ b ≠ pb ∧ b ≠ g22 ∧ b ≠ g23) (fun j hj h => by refine ⟨?_, ?_, ?_, ?_⟩ <;> omega)).keep (D.keeps0 _)
              replace d6 := (d6.mono ChgR.lasts (S' := fun b => b ≠ pa ∧ b ≠ pb ∧ b ≠ g22 ∧ b ≠ g23) (fun j hj h => by refine ⟨?_, ?_, ?_, ?_⟩ <;> omega)).keep ChgR.lasts (D.keeps0 _)
              replace B23 := B23.turns D (by simp)
              rw [← hg] at BN ⊢
              have T := T.trans D (by simp)
              clear hg D
              generalize X.alloc (.cells zL.toArray 32) = X at BN T l6 d6 B23 ⊢
              have B22 := BN
              clear BN
              refine hK _ _ (.mk' T trivial) ?_
              clear hK K
              try simp only [sI, sS, sZ]
              rotate_left
              refine wp_alloc_arr 32 (by rfl) zL.toArray hzR ?_
              have BN := Blk.new X zL 32
              have D : Turns [] X (X.alloc (.cells zL.toArray 32)) := (Turns.refl _ _).alloc _
              obtain ⟨g22, hg⟩ : ∃ g, g = X.heap.size := ⟨_, rfl⟩
              have G22 := Lib.hid (show Y.heap.size ≤ g22 by rw [hg]; exact T.size)
              have N := Lib.hid (show g22 ≠ g23 by have := B23.lt; omega)
              replace d5 := (d5.mono ChgR.lasts (S' := fun b => b ≠ pa ∧ b ≠ pb ∧ b ≠ g22 ∧ b ≠ g23) (fun j hj h => by refine ⟨?_, ?_, ?_, ?_⟩ <;> omega)).keep ChgR.lasts (D.keeps0 _)
              replace B23 := B23.turns D (by simp)
              rw [← hg] at BN ⊢
              have T := T.trans D (by simp)
              clear hg D
              generalize X.alloc (.cells zL.toArray 32) = X at BN T d5 B23 ⊢
              have B22 := BN
              clear BN
              refine hK _ _ (.mk' T trivial) ?_
              clear hK K
              try simp only [sI, sS, sZ]
              refine rk1 6 3199 (fun K hK => ?_)
              go_simp
              refine (RAdd_any M HIM.out.1.ok HIM.out.2.2 (stCs s) HSC.out _ _ _ _ _ _ ((HLB.out.mono (S' := fun b => b ≠ pa ∧ b ≠ pb ∧ b ≠ g22 ∧ b ≠ g23) (fun j hj h => by have := G22.out; have := G23.out; refine ⟨?_, ?_, ?_, ?_⟩ <;> omega)).keep (T.keeps0 _)) d5).mono ?_
              rintro e X ⟨ov6, bv6, tv6, cv6, rfl, l6, d6, D⟩
              rw [← HADD.out] at l6 ⊢
              have l6 := l6.mono (S' := fun b => b ≠ pa ∧ b ≠ pb ∧ b ≠ g22 ∧ b ≠ g23) (fun j hj h => by rcases h with h | h; exact h; have := T.size; have := HPP.out; have := B22.lt; have := B23.lt; refine ⟨?_, ?_, ?_, ?_⟩ <;> omega)
              have d6 := d6.mono ChgR.lasts (S' := fun b => b ≠ pa ∧ b ≠ pb ∧ b ≠ g22 ∧ b ≠ g23) (fun j hj h => by rcases h with h | h; exact h; have := T.size; have := HPP.out; have := B22.lt; have := B23.lt; refine ⟨?_, ?_, ?_, ?_⟩ <;> omega)
              obtain ⟨A7, k7, rfl, _⟩ := l6.opn.form
              obtain ⟨A8, k8, rfl, _⟩ := l6.blks.form'
              obtain ⟨A9, k9, rfl, _⟩ := l6.txs.form
              obtain ⟨A4, k4, rfl, _⟩ := d6.form
              have T := T.trans D (by simp)
              replace B22 := B22.turns D (by simp)
              replace B23 := B23.turns D (by simp)
              refine hK _ _ (.mk' T trivial) ?_
              clear hK K
              try simp only [sI, sS, sZ]
              refine rkA 7 68 3327 (v := ?_) ?_ (.mk' T trivial) ?_
              rotate_left
              · intro W hS; go_simp; all_goals with_reducible rfl
              try simp only [sI, sS, sZ]
              refine rkA 8 76 3583 (v := ?_) ?_ (.mk' T trivial) ?_
              rotate_left
              · intro W hS; go_simp; all_goals with_reducible rfl
              try simp only [sI, sS, sZ]
              refine rkA 9 77 4095 (v := ?_) ?_ (.mk' T trivial) ?_
              rotate_left
              · intro W hS; go_simp; all_goals with_reducible rfl
              try simp only [sI, sS, sZ]
              rotate_left
              refine wp_alloc_arr 32 (by rfl) zL.toArray hzR ?_
              have BN := Blk.new Y zL 32
              have D : Turns [] Y (Y.alloc (.cells zL.toArray 32)) := (Turns.refl _ _).alloc _
              obtain ⟨g22, hg⟩ : ∃ g, g = Y.heap.size := ⟨_, rfl⟩
              have G22 := Lib.hid (show Y.heap.size ≤ g22 by rw [hg]; exact T.size)
              rw [← hg] at BN ⊢
              have T := T.trans D (by simp)
              clear hg D
              generalize Y.alloc (.cells zL.toArray 32) = X at BN T ⊢
              have B22 := BN
              clear BN
              refine hK _ _ (.mk' T trivial) ?_
              clear hK K
              try simp only [sI, sS, sZ]
              refine rk2 5 11 1087 3103 (fun K hK => ?_) (fun K hK => ?_)
              go_simp
              refine (Changes_any s HSK.out.1 HSK.out.2.1 (.slice Ar s.v.length cr) _ _ (HSK.out.2.2.keep (T.keeps0 _))).mono ?_
              rintro e X ⟨A5, c5, rfl, d5, D⟩
              have d5 := d5.mono ChgR.lasts (S' := fun b => b ≠ pa ∧ b ≠ pb ∧ b ≠ g22) (fun j hj h => by have := T.size; have := HPP.out; have := B22.lt; refine ⟨?_, ?_, ?_⟩ <;> omega)
              have T := T.trans D (by simp)
              replace B22 := B22.turns D (by simp)
              refine hK _ _ (.mk' T trivial) ?_
              clear hK K
              try simp only [sI, sS, sZ]
              refine rk2 6 11 1151 3135 (fun K hK => ?_) (fun K hK => ?_)
              go_simp
              refine (RAdd_any M HIM.out.1.ok HIM.out.2.2 (stCs s) HSC.out _ _ _ _ _ _ ((HLB.out.mono (S' := fun b => b ≠ pa ∧ b ≠ pb ∧ b ≠ g22) (fun j hj h => by have := G22.out; refine ⟨?_, ?_, ?_⟩ <;> omega)).keep (T.keeps0 _)) d5).mono ?_
              rintro e X ⟨ov6, bv6, tv6, cv6, rfl, l6, d6, D⟩
              rw [← HADD.out] at l6 ⊢
              have l6 := l6.mono (S' := fun b => b ≠ pa ∧ b ≠ pb ∧ b ≠ g22) (fun j hj h => by rcases h with h | h; exact h; have := T.size; have := HPP.out; have := B22.lt; refine ⟨?_, ?_, ?_⟩ <;> omega)
              have d6 := d6.mono ChgR.lasts (S' := fun b => b ≠ pa ∧ b ≠ pb ∧ b ≠ g22) (fun j hj h => by rcases h with h | h; exact h; have := T.size; have := HPP.out; have := B22.lt; refine ⟨?_, ?_, ?_⟩ <;> omega)
              obtain ⟨A7, k7, rfl, _⟩ := l6.opn.form
              obtain ⟨A8, k8, rfl, _⟩ := l6.blks.form'
              obtain ⟨A9, k9, rfl, _⟩ := l6.txs.form
              obtain ⟨A4, k4, rfl, _⟩ := d6.form
              have T := T.trans D (by simp)
              replace B22 := B22.turns D (by simp)
              refine hK _ _ (.mk' T trivial) ?_
              clear hK K
              try simp only [sI, sS, sZ]
              refine rkA 7 68 1279 (v := ?_) ?_ (.mk' T trivial) ?_
              rotate_left
              · intro W hS; go_simp; all_goals with_reducible rfl
              try simp only [sI, sS, sZ]
              refine rkA 8 76 1535 (v := ?_) ?_ (.mk' T trivial) ?_
              rotate_left
              · intro W hS; go_simp; all_goals with_reducible rfl
              try simp only [sI, sS, sZ]
              refine rkA 9 77 2047 (v := ?_) ?_ (.mk' T trivial) ?_
              rotate_left
              · intro W hS; go_simp; all_goals with_reducible rfl
              try simp only [sI, sS, sZ]
              refine rk1 11 4095 (fun K hK => ?_)
              refine wp_alloc_arr 45 (by rfl) zX.toArray hzX ?_
              have BN := Blk.new X zX 45
              have D : Turns [] X (X.alloc (.cells zX.toArray 45)) := (Turns.refl _ _).alloc _
              obtain ⟨g23, hg⟩ : ∃ g, g = X.heap.size := ⟨_, rfl⟩
              have G23 := Lib.hid (show Y.heap.size ≤ g23 by rw [hg]; exact T.size)
              have N := Lib.hid (show g22 ≠ g23 by have := B22.lt; omega)
              replace l6 := (l6.mono (S' := fun b => b ≠ pa ∧ b ≠ pb ∧ b ≠ g22 ∧ b ≠ g23) (fun j hj h => by refine ⟨?_, ?_, ?_, ?_⟩ <;> omega)).keep (D.keeps0 _)
              replace d6 := (d6.mono ChgR.lasts (S' := fun b => b ≠ pa ∧ b ≠ pb ∧ b ≠ g22 ∧ b ≠ g23) (fun j hj h => by refine ⟨?_, ?_, ?_, ?_⟩ <;> omega)).keep ChgR.lasts (D.keeps0 _)
              replace B22 := B22.turns D (by simp)
              rw [← hg] at BN ⊢
              have T := T.trans D (by simp)
              clear hg D
              generalize X.alloc (.cells zX.toArray 45) = X at BN T l6 d6 B22 ⊢
              have B23 := BN
              clear BN
              refine hK _ _ (.mk' T trivial) ?_
              clear hK K
              try simp only [sI, sS, sZ]
              rotate_left
              refine wp_alloc_arr 45 (by rfl) zX.toArray hzX ?_
              have BN := Blk.new X zX 45
              have D : Turns [] X (X.alloc (.cells zX.toArray 45)) := (Turns.refl _ _).alloc _
              obtain ⟨g23, hg⟩ : ∃ g, g = X.heap.size := ⟨_, rfl⟩
              have G23 := Lib.hid (show Y.heap.size ≤ g23 by rw [hg]; exact T.size)
              have N := Lib.hid (show g22 ≠ g23 by have := B22.lt; omega)
              replace d5 := (d5.mono ChgR.lasts (S' := fun b => b ≠ pa ∧ b ≠ pb ∧ b ≠ g22 ∧ b ≠ g23) (fun j hj h => by refine ⟨?_, ?_, ?_, ?_⟩ <;> omega)).keep ChgR.lasts (D.keeps0 _)
              replace B22 := B22.turns D (by simp)
              rw [← hg] at BN ⊢
              have T := T.trans D (by simp)
              clear hg D
              generalize X.alloc (.cells zX.toArray 45) = X at BN T d5 B22 ⊢
              have B23 := BN
              clear BN
              refine hK _ _ (.mk' T trivial) ?_
              clear hK K
              try simp only [sI, sS, sZ]
              refine rk1 6 3199 (fun K hK => ?_)
              go_simp
              refine (RAdd_any M HIM.out.1.ok HIM.out.2.2 (stCs s) HSC.out _ _ _ _ _ _ ((HLB.out.mono (S' := fun b => b ≠ pa ∧ b ≠ pb ∧ b ≠ g22 ∧ b ≠ g23) (fun j hj h => by have := G22.out; have := G23.out; refine ⟨?_, ?_, ?_, ?_⟩ <;> omega)).keep (T.keeps0 _)) d5).mono ?_
              rintro e X ⟨ov6, bv6, tv6, cv6, rfl, l6, d6, D⟩
              rw [← HADD.out] at l6 ⊢
              have l6 := l6.mono (S' := fun b => b ≠ pa ∧ b ≠ pb ∧ b ≠ g22 ∧ b ≠ g23) (fun j hj h => by rcases h with h | h; exact h; have := T.size; have := HPP.out; have := B22.lt; have := B23.lt; refine ⟨?_, ?_, ?_, ?_⟩ <;> omega)
              have d6 := d6.mono ChgR.lasts (S' := fun b => b ≠ pa ∧ b ≠ pb ∧ b ≠ g22 ∧ b ≠ g23) (fun j hj h => by rcases h with h | h; exact h; have := T.size; have := HPP.out; have := B22.lt; have := B23.lt; refine ⟨?_, ?_, ?_, ?_⟩ <;> omega)
              obtain ⟨A7, k7, rfl, _⟩ := l6.opn.form
              obtain ⟨A8, k8, rfl, _⟩ := l6.blks.form'
              obtain ⟨A9, k9, rfl, _⟩ := l6.txs.form
              obtain ⟨A4, k4, rfl, _⟩ := d6.form
              have T := T.trans D (by simp)
              replace B22 := B22.turns D (by simp)
              replace B23 := B23.turns D (by simp)
              refine hK _ _ (.mk' T trivial) ?_
              clear hK K
              try simp only [sI, sS, sZ]
              refine rkA 7 68 3327 (v := ?_) ?_ (.mk' T trivial) ?_
              rotate_left
              · intro W hS; go_simp; all_goals with_reducible rfl
              try simp only [sI, sS, sZ]
              refine rkA 8 76 3583 (v := ?_) ?_ (.mk' T trivial) ?_
              rotate_left
              · intro W hS; go_simp; all_goals with_reducible rfl
              try simp only [sI, sS, sZ]
              refine rkA 9 77 4095 (v := ?_) ?_ (.mk' T trivial) ?_
              rotate_left
              · intro W hS; go_simp; all_goals with_reducible rfl
              try simp only [sI, sS, sZ]
              rotate_left
              refine wp_alloc_arr 45 (by rfl) zX.toArray hzX ?_
              have BN := Blk.new X zX 45
              have D : Turns [] X (X.alloc (.cells zX.toArray 45)) := (Turns.refl _ _).alloc _
              obtain ⟨g23, hg⟩ : ∃ g, g = X.heap.size := ⟨_, rfl⟩
              have G23 := Lib.hid (show Y.heap.size ≤ g23 by rw [hg]; exact T.size)
              have N := Lib.hid (show g22 ≠ g23 by have := B22.lt; omega)
              replace B22 := B22.turns D (by simp)
              rw [← hg] at BN ⊢
              have T := T.trans D (by simp)
              clear hg D
              generalize X.alloc (.cells zX.toArray 45) = X at BN T B22 ⊢
              have B23 := BN
              clear BN
              refine hK _ _ (.mk' T trivial) ?_
              clear hK K
              try simp only [sI, sS, sZ]
              refine rk1 5 3135 (fun K hK => ?_)
              go_simp
              refine (Changes_any s HSK.out.1 HSK.out.2.1 (.slice Ar s.v.length cr) _ _ (HSK.out.2.2.keep (T.keeps0 _))).mono ?_
              rintro e X ⟨A5, c5, rfl, d5, D⟩
              have d5 := d5.mono ChgR.lasts (S' := fun b => b ≠ pa ∧ b ≠ pb ∧ b ≠ g22 ∧ b ≠ g23) (fun j hj h => by have := T.size; have := HPP.out; have := B22.lt; have := B23.lt; refine ⟨?_, ?_, ?_, ?_⟩ <;> omega)
              have T := T.trans D (by simp)
              replace B22 := B22.turns D (by simp)
              replace B23 := B23.turns D (by simp)
              refine hK _ _ (.mk' T trivial) ?_
              clear hK K
              try simp only [sI, sS, sZ]
              refine rk1 6 3199 (fun K hK => ?_)
              go_simp
              refine (RAdd_any M HIM.out.1.ok HIM.out.2.2 (stCs s) HSC.out _ _ _ _ _ _ ((HLB.out.mono (S' := fun b => b ≠ pa ∧ b ≠ pb ∧ b ≠ g22 ∧ b ≠ g23) (fun j hj h => by have := G22.out; have := G23.out; refine ⟨?_, ?_, ?_, ?_⟩ <;> omega)).keep (T.keeps0 _)) d5).mono ?_
              rintro e X ⟨ov6, bv6, tv6, cv6, rfl, l6, d6, D⟩
              rw [← HADD.out] at l6 ⊢
              have l6 := l6.mono (S' := fun b => b ≠ pa ∧ b ≠ pb ∧ b ≠ g22 ∧ b ≠ g23) (fun j hj h => by rcases h with h | h; exact h; have := T.size; have := HPP.out; have := B22.lt; have := B23.lt; refine ⟨?_, ?_, ?_, ?_⟩ <;> omega)
              have d6 := d6.mono ChgR.lasts (S' := fun b => b ≠ pa ∧ b ≠ pb ∧ b ≠ g22 ∧ b ≠ g23) (fun j hj h => by rcases h with h | h; exact h; have := T.size; have := HPP.out; have := B22.lt; have := B23.lt; refine ⟨?_, ?_, ?_, ?_⟩ <;> omega)
              obtain ⟨A7, k7, rfl, _⟩ := l6.opn.form
              obtain ⟨A8, k8, rfl, _⟩ := l6.blks.form'
              obtain ⟨A9, k9, rfl, _⟩ := l6.txs.form
              obtain ⟨A4, k4, rfl, _⟩ := d6.form
              have T := T.trans D (by simp)
              replace B22 := B22.turns D (by simp)
              replace B23 := B23.turns D (by simp)
              refine hK _ _ (.mk' T trivial) ?_
              clear hK K
              try simp only [sI, sS, sZ]
              refine rkA 7 68 3327 (v := ?_) ?_ (.mk' T trivial) ?_
              rotate_left
              · intro W hS; go_simp; all_goals with_reducible rfl
              try simp only [sI, sS, sZ]
              refine rkA 8 76 3583 (v := ?_) ?_ (.mk' T trivial) ?_
              rotate_left
              · intro W hS; go_simp; all_goals with_reducible rfl
              try simp only [sI, sS, sZ]
              refine rkA 9 77 4095 (v := ?_) ?_ (.mk' T trivial) ?_
              rotate_left
              · intro W hS; go_simp; all_goals with_reducible rfl
              try simp only [sI, sS, sZ]
              rotate_left
              refine wp_alloc_arr 45 (by rfl) zX.toArray hzX ?_
              have BN := Blk.new Y zX 45
              have D : Turns [] Y (Y.alloc (.cells zX.toArray 45)) := (Turns.refl _ _).alloc _
              obtain ⟨g23, hg⟩ : ∃ g, g = Y.heap.size := ⟨_, rfl⟩
              have G23 := Lib.hid (show Y.heap.size ≤ g23 by rw [hg]; exact T.size)
              rw [← hg] at BN ⊢
              have T := T.trans D (by simp)
              clear hg D
              generalize Y.alloc (.cells zX.toArray 45) = X at BN T ⊢
              have B23 := BN
              clear BN
              refine hK _ _ (.mk' T trivial) ?_
              clear hK K
              try simp only [sI, sS, sZ]
              refine rk2 5 10 2111 3103 (fun K hK => ?_) (fun K hK => ?_)
              go_simp
              refine (Changes_any s HSK.out.1 HSK.out.2.1 (.slice Ar s.v.length cr) _ _ (HSK.out.2.2.keep (T.keeps0 _))).mono ?_
              rintro e X ⟨A5, c5, rfl, d5, D⟩
              have d5 := d5.mono ChgR.lasts (S' := fun b => b ≠ pa ∧ b ≠ pb ∧ b ≠ g23) (fun j hj h => by have := T.size; have := HPP.out; have := B23.lt; refine ⟨?_, ?_, ?_⟩ <;> omega)
              have T := T.trans D (by simp)
              replace B23 := B23.turns D (by simp)
              refine hK _ _ (.mk' T trivial) ?_
              clear hK K
              try simp only [sI, sS, sZ]
              refine rk2 6 10 2175 3135 (fun K hK => ?_) (fun K hK => ?_)
              go_simp
              refine (RAdd_any M HIM.out.1.ok HIM.out.2.2 (stCs s) HSC.out _ _ _ _ _ _ ((HLB.out.mono (S' := fun b => b ≠ pa ∧ b ≠ pb ∧ b ≠ g23) (fun j hj h => by have := G23.out; refine ⟨?_, ?_, ?_⟩ <;> omega)).keep (T.keeps0 _)) d5).mono ?_
              rintro e X ⟨ov6, bv6, tv6, cv6, rfl, l6, d6, D⟩
              rw [← HADD.out] at l6 ⊢
              have l6 := l6.mono (S' := fun b => b ≠ pa ∧ b ≠ pb ∧ b ≠ g23) (fun j hj h => by rcases h with h | h; exact h; have := T.size; have := HPP.out; have := B23.lt; refine ⟨?_, ?_, ?_⟩ <;> omega)
              have d6 := d6.mono ChgR.lasts (S' := fun b => b ≠ pa ∧ b ≠ pb ∧ b ≠ g23) (fun j hj h => by rcases h with h | h; exact h; have := T.size; have := HPP.out; have := B23.lt; refine ⟨?_, ?_, ?_⟩ <;> omega)
              obtain ⟨A7, k7, rfl, _⟩ := l6.opn.form
              obtain ⟨A8, k8, rfl, _⟩ := l6.blks.form'
              obtain ⟨A9, k9, rfl, _⟩ := l6.txs.form
              obtain ⟨A4, k4, rfl, _⟩ := d6.form
              have T := T.trans D (by simp)
              replace B23 := B23.turns D (by simp)
              refine hK _ _ (.mk' T trivial) ?_
              clear hK K
              try simp only [sI, sS, sZ]
              refine rkA 7 68 2303 (v := ?_) ?_ (.mk' T trivial) ?_
              rotate_left
              · intro W hS; go_simp; all_goals with_reducible rfl
              try simp only [sI, sS, sZ]
              refine rkA 8 76 2559 (v := ?_) ?_ (.mk' T trivial) ?_
              rotate_left
              · intro W hS; go_simp; all_goals with_reducible rfl
              try simp only [sI, sS, sZ]
              refine rkA 9 77 3071 (v := ?_) ?_ (.mk' T trivial) ?_
              rotate_left
              · intro W hS; go_simp; all_goals with_reducible rfl
              try simp only [sI, sS, sZ]
              refine rk1 10 4095 (fun K hK => ?_)
              refine wp_alloc_arr 32 (by rfl) zL.toArray hzR ?_
              have BN := Blk.new X zL 32
              have D : Turns [] X (X.alloc (.cells zL.toArray 32)) := (Turns.refl _ _).alloc _
              obtain ⟨g22, hg⟩ : ∃ g, g = X.heap.size := ⟨_, rfl⟩
              have G22 := Lib.hid (show Y.heap.size ≤ g22 by rw [hg]; exact T.size)
              have N := Lib.hid (show g22 ≠ g23 by have := B23.lt; omega)
              replace l6 := (l6.mono (S' := fun b => b ≠ pa ∧ b ≠ pb ∧ b ≠ g22 ∧ b ≠ g23) (fun j hj h => by refine ⟨?_, ?_, ?_, ?_⟩ <;> omega)).keep (D.keeps0 _)
              replace d6 := (d6.mono ChgR.lasts (S' := fun b => b ≠ pa ∧ b ≠ pb ∧ b ≠ g22 ∧ b ≠ g23) (fun j hj h => by refine ⟨?_, ?_, ?_, ?_⟩ <;> omega)).keep ChgR.lasts (D.keeps0 _)
              replace B23 := B23.turns D (by simp)
              rw [← hg] at BN ⊢
              have T := T.trans D (by simp)
              clear hg D
              generalize X.alloc (.cells zL.toArray 32) = X at BN T l6 d6 B23 ⊢
              have B22 := BN
              clear BN
              refine hK _ _ (.mk' T trivial) ?_
              clear hK K
              try simp only [sI, sS, sZ]
              rotate_left
              refine wp_alloc_arr 32 (by rfl) zL.toArray hzR ?_
              have BN := Blk.new X zL 32
              have D : Turns [] X (X.alloc (.cells zL.toArray 32)) := (Turns.refl _ _).alloc _
              obtain ⟨g22, hg⟩ : ∃ g, g = X.heap.size := ⟨_, rfl⟩
              have G22 := Lib.hid (show Y.heap.size ≤ g22 by rw [hg]; exact T.size)
              have N := Lib.hid (show g22 ≠ g23 by have := B23.lt; omega)
              replace d5 := (d5.mono ChgR.lasts (S' := fun b => b ≠ pa ∧ b ≠ pb ∧ b ≠ g22 ∧ b ≠ g23) (fun j hj h => by refine ⟨?_, ?_, ?_, ?_⟩ <;> omega)).keep ChgR.lasts (D.keeps0 _)
              replace B23 := B23.turns D (by simp)
              rw [← hg] at BN ⊢
              have T := T.trans D (by simp)
              clear hg D
              generalize X.alloc (.cells zL.toArray 32) = X at BN T d5 B23 ⊢
              have B22 := BN
              clear BN
              refine hK _ _ (.mk' T trivial) ?_
              clear hK K
              try simp only [sI, sS, sZ]
              refine rk1 6 3199 (fun K hK => ?_)
              go_simp
              refine (RAdd_any M HIM.out.1.ok HIM.out.2.2 (stCs s) HSC.out _ _ _ _ _ _ ((HLB.out.mono (S' := fun b => b ≠ pa ∧ b ≠ pb ∧ b ≠ g22 ∧ b ≠ g23) (fun j hj h => by have := G22.out; have := G23.out; refine ⟨?_, ?_, ?_, ?_⟩ <;> omega)).keep (T.keeps0 _)) d5).mono ?_
              rintro e X ⟨ov6, bv6, tv6, cv6, rfl, l6, d6, D⟩
              rw [← HADD.out] at l6 ⊢
              have l6 := l6.mono (S' := fun b => b ≠ pa ∧ b ≠ pb ∧ b ≠ g22 ∧ b ≠ g23) (fun j hj h => by rcases h with h | h; exact h; have := T.size; have := HPP.out; have := B22.lt; have := B23.lt; refine ⟨?_, ?_, ?_, ?_⟩ <;> omega)
              have d6 := d6.mono ChgR.lasts (S' := fun b => b ≠ pa ∧ b ≠ pb ∧ b ≠ g22 ∧ b ≠ g23) (fun j hj h => by rcases h with h | h; exact h; have := T.size; have := HPP.out; have := B22.lt; have := B23.lt; refine ⟨?_, ?_, ?_, ?_⟩ <;> omega)
              obtain ⟨A7, k7, rfl, _⟩ := l6.opn.form
              obtain ⟨A8, k8, rfl, _⟩ := l6.blks.form'
              obtain ⟨A9, k9, rfl, _⟩ := l6.txs.form
              obtain ⟨A4, k4, rfl, _⟩ := d6.form
              have T := T.trans D (by simp)
              replace B22 := B22.turns D (by simp)
              replace B23 := B23.turns D (by simp)
              refine hK _ _ (.mk' T trivial) ?_
              clear hK K
              try simp only [sI, sS, sZ]
              refine rkA 7 68 3327 (v := ?_) ?_ (.mk' T trivial) ?_
              rotate_left
              · intro W hS; go_simp; all_goals with_reducible rfl
              try simp only [sI, sS, sZ]
              refine rkA 8 76 3583 (v := ?_) ?_ (.mk' T trivial) ?_
              rotate_left
              · intro W hS; go_simp; all_goals with_reducible rfl
              try simp only [sI, sS, sZ]
              refine rkA 9 77 4095 (v := ?_) ?_ (.mk' T trivial) ?_
              rotate_left
              · intro W hS; go_simp; all_goals with_reducible rfl
              try simp only [sI, sS, sZ]
              rotate_left
              refine wp_alloc_arr 32 (by rfl) zL.toArray hzR ?_
              have BN := Blk.new X zL 32
              have D : Turns [] X (X.alloc (.cells zL.toArray 32)) := (Turns.refl _ _).alloc _
              obtain ⟨g22, hg⟩ : ∃ g, g = X.heap.size := ⟨_, rfl⟩
              have G22 := Lib.hid (show Y.heap.size ≤ g22 by rw [hg]; exact T.size)
              have N := Lib.hid (show g22 ≠ g23 by have := B23.lt; omega)
              replace B23 := B23.turns D (by simp)
              rw [← hg] at BN ⊢
              have T := T.trans D (by simp)
              clear hg D
              generalize X.alloc (.cells zL.toArray 32) = X at BN T B23 ⊢
              have B22 := BN
              clear BN
              refine hK _ _ (.mk' T trivial) ?_
              clear hK K
              try simp only [sI, sS, sZ]
              refine rk1 5 3135 (fun K hK => ?_)
              go_simp
              refine (Changes_any s HSK.out.1 HSK.out.2.1 (.slice Ar s.v.length cr) _ _ (HSK.out.2.2.keep (T.keeps0 _))).mono ?_
              rintro e X ⟨A5, c5, rfl, d5, D⟩
              have d5 := d5.mono ChgR.lasts (S' := fun b => b ≠ pa ∧ b ≠ pb ∧ b ≠ g22 ∧ b ≠ g23) (fun j hj h => by have := T.size; have := HPP.out; have := B22.lt; have := B23.lt; refine ⟨?_, ?_, ?_, ?_⟩ <;> omega)
              have T := T.trans D (by simp)
              replace B22 := B22.turns D (by simp)
              replace B23 := B23.turns D (by simp)
              refine hK _ _ (.mk' T trivial) ?_
              clear hK K
              try simp only [sI, sS, sZ]
              refine rk1 6 3199 (fun K hK => ?_)
              go_simp
              refine (RAdd_any M HIM.out.1.ok HIM.out.2.2 (stCs s) HSC.out _ _ _ _ _ _ ((HLB.out.mono (S' := fun b => b ≠ pa ∧ b ≠ pb ∧ b ≠ g22 ∧ b ≠ g23) (fun j hj h => by have := G22.out; have := G23.out; refine ⟨?_, ?_, ?_, ?_⟩ <;> omega)).keep (T.keeps0 _)) d5).mono ?_
              rintro e X ⟨ov6, bv6, tv6, cv6, rfl, l6, d6, D⟩
              rw [← HADD.out] at l6 ⊢
              have l6 := l6.mono (S' := fun b => b ≠ pa ∧ b ≠ pb ∧ b ≠ g22 ∧ b ≠ g23) (fun j hj h => by rcases h with h | h; exact h; have := T.size; have := HPP.out; have := B22.lt; have := B23.lt; refine ⟨?_, ?_, ?_, ?_⟩ <;> omega)
              have d6 := d6.mono ChgR.lasts (S' := fun b => b ≠ pa ∧ b ≠ pb ∧ b ≠ g22 ∧ b ≠ g23) (fun j hj h => by rcases h with h | h; exact h; have := T.size; have := HPP.out; have := B22.lt; have := B23.lt; refine ⟨?_, ?_, ?_, ?_⟩ <;> omega)
              obtain ⟨A7, k7, rfl, _⟩ := l6.opn.form
              obtain ⟨A8, k8, rfl, _⟩ := l6.blks.form'
              obtain ⟨A9, k9, rfl, _⟩ := l6.txs.form
              obtain ⟨A4, k4, rfl, _⟩ := d6.form
              have T := T.trans D (by simp)
              replace B22 := B22.turns D (by simp)
              replace B23 := B23.turns D (by simp)
              refine hK _ _ (.mk' T trivial) ?_
              clear hK K
              try simp only [sI, sS, sZ]
              refine rkA 7 68 3327 (v := ?_) ?_ (.mk' T trivial) ?_
              rotate_left
              · intro W hS; go_simp; all_goals with_reducible rfl
              try simp only [sI, sS, sZ]
              refine rkA 8 76 3583 (v := ?_) ?_ (.mk' T trivial) ?_
              rotate_left
              · intro W hS; go_simp; all_goals with_reducible rfl
              try simp only [sI, sS, sZ]
              refine rkA 9 77 4095 (v := ?_) ?_ (.mk' T trivial) ?_
              rotate_left
              · intro W hS; go_simp; all_goals with_reducible rfl
              try simp only [sI, sS, sZ]
              all_goals
                refine rk1 12 8191 (fun K hK => ?_)
                refine wp_store_blk 32 _ _ (by rfl) g22 (by rfl) [.int .i64 M'.next, .slice A7 M'.opn.length k7, .slice A8 M'.blks.length k8, .slice A9 M'.txs.length k9] zL 32 (by rfl) B22 HZL.out.1 (size_rled _ _ _ _) (by intro u hu; simp at hu; rcases hu with rfl | rfl | rfl | rfl <;> rfl) (fun X12 hb12 ht12 => ?_)
                have D12 := T.trans ht12 (by intro x hx; simp at hx; exact .inr (by rw [hx]; exact G22.out))
                have B13 := B23.turns ht12 (by simp; exact fun e => N.out e.symm)
                refine hK _ _ (.mk' D12 trivial) ?_
                clear hK K
                try simp only [sI, sS, sZ]
                refine rk1 13 16383 (fun K hK => ?_)
                refine wp_store_blk 45 _ _ (by rfl) g23 (by rfl) [.int .i64 M.next, .slice A4 (stCs s).length k4] zX 45 (by rfl) B13 HZL.out.2 (size_tx _ _) (by intro u hu; simp at hu; rcases hu with rfl | rfl <;> rfl) (fun X13 hb13 ht13 => ?_)
                have D13 := D12.trans ht13 (by intro x hx; simp at hx; exact .inr (by rw [hx]; exact G23.out))
                have t13 := (ht12.mono (L' := [g22, g23]) (by simp)).trans (ht13.mono (L' := [g22, g23]) (by simp)) (fun x hx => .inl hx)
                have kp := t13.keepsB (fun b => b ≠ pa ∧ b ≠ pb ∧ b ≠ g22 ∧ b ≠ g23) (by intro x hx _ h; simp at hx; rcases hx with rfl | rfl; exact h.2.2.1 rfl; exact h.2.2.2 rfl)
                have HFX := Lib.hid (show AddQ Y M' M.next (stCs s) 32 pa pb _ _ X13 from ⟨g22, g23, _, _, _, _, rfl, rfl, G22.out, G23.out, hb12.turns ht13 (by simp; exact N.out), hb13, (l6.keep kp).mono (fun _ _ h => ⟨h.1, h.2.1⟩), (d6.keep ChgR.lasts kp).mono ChgR.lasts (fun _ _ _ => trivial), D13⟩)
                refine hK _ _ (.mk' D13 trivial) ?_
                clear hK K
                try simp only [sI, sS, sZ]
                refine rkZ ?_
                go_wp2_with fail
                go_meet
                exact HFX.out
            case rest =>
              generalize wc = z2 at *
              obtain ⟨g10, g15, ov9, bv9, tv9, cv9, rfl, rfl, hg10, hg15, b10, b15, lb8, d9', tz2⟩ := hcut
              obtain ⟨B8, d8, rfl, _⟩ := lb8.opn.form
              obtain ⟨B9, d9, rfl, _⟩ := lb8.blks.form'
              obtain ⟨B10, d10, rfl, _⟩ := lb8.txs.form
              obtain ⟨Ad, cc2, rfl, _⟩ := d9'.form
              have tz := HTY.out.trans tz2 (by simp)
              have R13 := rangeV tz HQ8.out.2.1.all
              have R15 := b15.all
              have hz13 := size_tx M.next (.slice Ac (stCs s).length cc1)
              have hz15 := size_tx M.next (.slice Ad (stCs s).length cc2)
              have k13 := HQ8.out.2.2.2.1.keep ChgR.lasts (tz.keeps0 _)
              obtain ⟨q1, hq1⟩ : ∃ x, x = z2.heap.size := ⟨_, rfl⟩
              obtain ⟨v1, hv1⟩ : ∃ x, x = z2.alloc (.cells #[.int .i64 M.next, .slice Ac (stCs s).length cc1] 45) := ⟨_, rfl⟩
              obtain ⟨q2, hq2⟩ : ∃ x, x = v1.heap.size := ⟨_, rfl⟩
              obtain ⟨v2, hv2⟩ : ∃ x, x = v1.alloc (.cells #[.int .i64 M.next, .slice Ad (stCs s).length cc2] 45) := ⟨_, rfl⟩
              have tv1 : Turns [] z2 v1 := by rw [hv1]; exact (Turns.refl _ _).alloc _
              have tv2 : Turns [] v1 v2 := by rw [hv2]; exact (Turns.refl _ _).alloc _
              have e1 := tx_lit (id := M.next) k13
              rw [← hv1, ← hq1] at e1
              have e2 := tx_lit (id := M.next) (d9'.keep ChgR.lasts (tv1.keeps0 _))
              rw [← hv2, ← hq2] at e2
              have hto : ∀ t ∈ [(⟨M.next, stCs s⟩ : Txn)], t.ok := by
                intro t ht
                simp at ht
                subst ht
                exact ⟨by have := HIM.out.1.ok.next; exact ⟨by show _ ≤ M.next; omega, by show M.next ≤ _; omega⟩, HSC.out.1, HSC.out.2⟩
              have SX := Lib.hid (SameTxs_same [⟨M.next, stCs s⟩] (by simp) hto _ _ _ _ v2 (e1.keep TxR.lasts (tv2.keeps0 _)) e2)
              have R15 := rangeV tv1 R15
              have HV := Lib.hid (And.intro hv1 (And.intro hv2 (And.intro hq1 hq2)))
              have HT2 := Lib.hid (And.intro tz (tv1.trans tv2 (by simp)))
              have HQ10 := Lib.hid (And.intro b10 (And.intro lb8 (show x7.heap.size ≤ g10 by have := HTY.out.size; have := HQ8.out.2.2.2.2.1.size; omega)))
              clear S0 R2 RQ HLB HSK HPP HTY hzR hzX hg10 hg15 b10 b15 lb8 d9' tz tz2 k13 hq1 hv1 hq2 hv2 tv1 tv2 e1 e2 hto
              go_wp2_with (first
                | (refine wpList_load_mid rfl 45 (.tmp 13) rfl g13 0 rfl _ _ R13 Tryz.underlying45 rfl hz13 ?_)
                | (rw [← HV.out.1, ← HV.out.2.2.1]; refine wpList_load_mid rfl 45 (.tmp 15) rfl g15 0 rfl _ _ R15 Tryz.underlying45 rfl hz15 ?_)
                | fail)
              rw [← HV.out.2.1, ← HV.out.2.2.2]
              refine SX.out.mono ?_
              rintro e v3 ⟨rfl, tv3⟩
              have tz3 := HT2.out.2.trans tv3 (by simp)
              have tz13 := HT2.out.1.trans tz3 (by simp)
              have hz8 := size_led (.int .i64 M'.next) (.slice A8 M'.opn.length c8) (.slice A9 M'.blks.length c9) (.slice A10 M'.txs.length c10)
              have hz10 := size_rled (.int .i64 M'.next) (.slice B8 M'.opn.length d8) (.slice B9 M'.blks.length d9) (.slice B10 M'.txs.length d10)
              obtain ⟨Y, hY⟩ : ∃ q, q = v3.drew := ⟨_, rfl⟩
              have tY : Turns [] v3 Y := by rw [hY]; exact (Turns.refl _ _).drew
              have HYY := Lib.hid hY
              have t8Y := tz13.trans tY (by simp)
              have t10Y := tz3.trans tY (by simp)
              have t7Y := HQ8.out.2.2.2.2.1.trans t8Y (by simp)
              have b8Y := HQ8.out.1.turns t8Y (by simp)
              have b10Y := HQ10.out.1.turns t10Y (by simp)
              have bpaY := HPA.out.1.turns t7Y (by simp)
              have bpbY := HPA.out.2.1.turns t7Y (by simp)
              have NG : g8 ∉ [pa, pb] := by have := HQ8.out.2.2.2.2.2; have := HPA.out.2.2; simp; omega
              have NH : g10 ∉ [pa, pb] := by have := HQ10.out.2.2; have := HPA.out.2.2; simp; omega
              have NPB := Lib.hid (show pb ∉ [pa] by have := HPL.out; simp; omega)
              have NPA := Lib.hid (show pa ∉ [pb] by have := HPL.out; simp; omega)
              have HL8 := Lib.hid (And.intro (HQ8.out.2.2.1.keep (t8Y.keeps0 _)) (And.intro (HQ10.out.2.1.keep (t10Y.keeps0 _)) t7Y))
              have S0 : Turns [pa, pb] Y Y := Turns.refl _ _
              clear SX R13 R15 tv3 tz3 tz13 hY tY t8Y t10Y t7Y hz13 hz15
              go_upto_region 21 with fail
              refine rk0 (fun W => Turns [pa, pb] Y W) (fun _ => True) 4 4 ?_
              rw [← HYY.out]
              refine rkY 0 84 1 rfl (yieldsIf_load_mid (by rfl) _ _ rfl g8 0 (by rfl) _ _ (fun W hS => (b8Y.turns hS NG).all) Tryz.underlying29 rfl hz8) (.mk' S0 trivial) ?_
              try simp only [sI, sS, sZ]
              refine rkY 1 85 3 rfl (yieldsIf_load_mid (by rfl) _ _ rfl g10 0 (by rfl) _ _ (fun W hS => (b10Y.turns hS NH).all) Tryz.underlying32 rfl hz10) (.mk' S0 trivial) ?_
              try simp only [sI, sS, sZ]
              refine rk1 2 7 (fun K hK => ?_)
              refine wp_store_blk 29 _ _ (by rfl) pa (by rfl) [.int .i64 M'.next, .slice A8 M'.opn.length c8, .slice A9 M'.blks.length c9, .slice A10 M'.txs.length c10] _ 29 (by rfl) bpaY rfl hz8 (by intro u hu; simp at hu; rcases hu with rfl | rfl | rfl | rfl <;> rfl) (fun X2 hb2 ht2 => ?_)
              have D2 : Turns [pa, pb] Y X2 := ht2.mono (by simp)
              refine hK _ _ (.mk' D2 trivial) ?_
              clear hK K
              try simp only [sI, sS, sZ]
              refine rk1 3 15 (fun K hK => ?_)
              refine wp_store_blk 32 _ _ (by rfl) pb (by rfl) [.int .i64 M'.next, .slice B8 M'.opn.length d8, .slice B9 M'.blks.length d9, .slice B10 M'.txs.length d10] _ 32 (by rfl) (bpbY.turns ht2 NPB.out) rfl hz10 (by intro u hu; simp at hu; rcases hu with rfl | rfl | rfl | rfl <;> rfl) (fun X3 hb3 ht3 => ?_)
              have D3 : Turns [pa, pb] Y X3 := D2.trans (ht3.mono (L' := [pa, pb]) (by simp)) (fun x hx => .inl hx)
              have b2 := hb2.turns ht3 NPA.out
              refine hK _ _ (.mk' D3 trivial) ?_
              clear hK K
              try simp only [sI, sS, sZ]
              refine rkZ ?_
              go_wp2_with fail
              go_meet
              exact ⟨_, _, _, _, _, _, b2, hb3, HL8.out.1.two D3, HL8.out.2.1.two D3, (HL8.out.2.2.mono (L' := [pa, pb]) (by simp)).trans D3 (fun x hx => .inl hx)⟩
      case rest =>
        generalize wc = wx at *
        obtain ⟨ov8, bv8, tv8, ov9, bv9, tv9, ba, bb, la, lb, tx⟩ := hcut
        obtain ⟨A8, c8, rfl, _⟩ := la.opn.form
        obtain ⟨A9, c9, rfl, _⟩ := la.blks.form'
        obtain ⟨A10, c10, rfl, _⟩ := la.txs.form
        obtain ⟨B8, d8, rfl, _⟩ := lb.opn.form
        obtain ⟨B9, d9, rfl, _⟩ := lb.blks.form'
        obtain ⟨B10, d10, rfl, _⟩ := lb.txs.form
        have hzA := size_led (.int .i64 M'.next) (.slice A8 M'.opn.length c8) (.slice A9 M'.blks.length c9) (.slice A10 M'.txs.length c10)
        have hzB := size_rled (.int .i64 M'.next) (.slice B8 M'.opn.length d8) (.slice B9 M'.blks.length d9) (.slice B10 M'.txs.length d10)
        have DI := Digest_any M' HIM2.out.ok _ _ _ _ wx la
        have RDI := fun W (t : Turns [] wx W) => RDigest_any M' HIM2.out.ok _ _ _ _ W (lb.keep (t.keeps0 _))
        obtain ⟨de, hde⟩ : ∃ x, x = digE M' := ⟨_, rfl⟩
        obtain ⟨gcs, hgcs⟩ : ∃ x, x = digCells (digN M') (lastH M'.blks) := ⟨_, rfl⟩
        rw [← hde, ← hgcs] at DI
        simp only [← hde, ← hgcs] at RDI
        have hdd : (de != de) = false := by simp
        have hzg : (Tryz.prog.info? 55).map (·.size) = some gcs.length := by rw [hgcs]; exact size_dig _ _ (lastH_len _)
        have HEG := Lib.hid (show ∀ w, (Op.equalIn 10000 55 (.agg gcs.toArray) (.agg gcs.toArray)).run Tryz.prog w = .ok true w by rw [hgcs]; exact eqlDig _ _ (lastH_len _))
        obtain ⟨zz, hzz⟩ : ∃ z, z = digCells 0 (zeros 32) := ⟨_, rfl⟩
        have hzd := zero_dig
        rw [← hzz] at hzd
        have HG := Lib.hid (show zz.length = gcs.length ∧ ∀ u ∈ gcs, u.oneCell' = true by
          rw [hzz, hgcs]
          exact ⟨by simp [digCells, bvs_length, zeros_length, lastH_len], by intro u hu; simp only [digCells, List.mem_cons] at hu; rcases hu with rfl | hu; rfl; exact bvs_one _ u hu⟩)
        have HDI := Lib.hid DI
        have HRDI := Lib.hid RDI
        have HB := Lib.hid (And.intro ba (And.intro bb (And.intro la (And.intro lb tx))))
        have rA := ba.all
        clear ba bb la lb tx DI RDI hde hgcs hzz
        go_wp2_with (first
          | (refine wpList_load_mid rfl 29 (.tmp 3) rfl pa 0 rfl _ _ rA Tryz.underlying29 rfl hzA ?_)
          | fail)
        refine HDI.out.mono ?_
        rintro e u1 ⟨rfl, tu1⟩
        have HBG := Lib.hid (And.intro (Blk.new u1 zz 55) (And.intro ((Turns.refl [] u1).alloc (.cells zz.toArray 55)) tu1))
        clear rA tu1 HDI
        go_upto_region 23 with (first
          | (refine wpList_alloc_arr (o := ⟨some 16, _, _, _, _, _⟩) rfl 55 rfl zz.toArray hzd ?_)
          | (refine wpList_store_blk rfl 55 (.tmp 16) (.tmp 89) rfl u1.heap.size (by kernel_rfl) gcs zz 55 (by kernel_rfl) HBG.out.1 HG.out.1 hzg HG.out.2 (fun w8 hb8 ht8 hs8 => ?_); have HQ8 := Lib.hid (And.intro hb8 ht8); clear hb8 ht8 hs8)
          | fail)
        try simp only [Act.put, List.setIfInBounds_toArray, List.set_cons_succ, List.set_cons_zero]
        obtain ⟨p16, hp16⟩ : ∃ q, q = u1.heap.size := ⟨_, rfl⟩
        rw [← hp16] at HQ8 ⊢
        have tr8 : Turns [] u1 w8 := HBG.out.2.1.trans HQ8.out.2 (by intro y hy; simp at hy; exact .inr (by omega))
        have tx8 := HBG.out.2.2.trans tr8 (by simp)
        have rB := rangeV tx8 HB.out.2.1.all
        have HT8 := Lib.hid tx8
        clear tr8 tx8 hp16
        go_wp2_with (first
          | (refine wpList_load_mid rfl 32 (.tmp 4) rfl pb 0 rfl _ _ rB Tryz.underlying32 rfl hzB ?_)
          | fail)
        refine (HRDI.out w8 HT8.out).mono ?_
        rintro e u2 ⟨rfl, tu2⟩
        have HBH := Lib.hid (And.intro (Blk.new u2 zz 55) (And.intro ((Turns.refl [] u2).alloc (.cells zz.toArray 55)) tu2))
        clear rB tu2 HRDI
        go_upto_region 24 with (first
          | (refine wpList_alloc_arr (o := ⟨some 18, _, _, _, _, _⟩) rfl 55 rfl zz.toArray hzd ?_)
          | (refine wpList_store_blk rfl 55 (.tmp 18) (.tmp 94) rfl u2.heap.size (by kernel_rfl) gcs zz 55 (by kernel_rfl) HBH.out.1 HG.out.1 hzg HG.out.2 (fun w9 hb9 ht9 hs9 => ?_); have HQ9 := Lib.hid (And.intro hb9 ht9); clear hb9 ht9 hs9)
          | fail)
        try simp only [Act.put, List.setIfInBounds_toArray, List.set_cons_succ, List.set_cons_zero]
        obtain ⟨p18, hp18⟩ : ∃ q, q = u2.heap.size := ⟨_, rfl⟩
        rw [← hp18] at HQ9 ⊢
        have tr9 : Turns [] w8 w9 := HBH.out.2.2.trans (HBH.out.2.1.trans HQ9.out.2 (by intro y hy; simp at hy; exact .inr (by omega))) (by simp)
        obtain ⟨Y, hY⟩ : ∃ q, q = w9.drew := ⟨_, rfl⟩
        have tY : Turns [] w9 Y := by rw [hY]; exact (Turns.refl _ _).drew
        have HYY := Lib.hid hY
        have t8Y := tr9.trans tY (by simp)
        have txY := HT8.out.trans t8Y (by simp)
        have t7Y := HB.out.2.2.2.2.trans txY (by simp)
        have RA := rangeV txY HB.out.1.all
        have RB := rangeV txY HB.out.2.1.all
        have hn6 : p6 ∉ [pa, pb] := by have := H7.out.2.2.2.2; have := HPB1.out; simp; omega
        have hn7 : p7 ∉ [pa, pb] := by have := H7.out.2.2.2.2; have := HPB1.out; simp; omega
        have R6 := (H7.out.1.turns t7Y hn6).all
        have R7 := (H7.out.2.1.turns t7Y hn7).all
        have hz7 := hz1
        have hz6 := size_rled (.int .i64 M.next) (.slice A1 M.opn.length a1) (.slice A6 M.blks.length a6) (.slice A3 M.txs.length a3)
        have R16 := (HQ8.out.1.turns t8Y (by simp)).all
        have R18 := (HQ9.out.1.turns tY (by simp)).all
        have laY := HB.out.2.2.1.keep (txY.keeps0 _)
        have lbY := HB.out.2.2.2.1.keep (txY.keeps0 _)
        have lmY := HLA.out.two t7Y
        have l6Y : LedR Y (fun b => b ≠ pa ∧ b ≠ pb) (.slice A1 M.opn.length a1) (.slice A6 M.blks.length a6) (.slice A3 M.txs.length a3) M := (H7.out.2.2.1.mono (S' := fun b => b ≠ pa ∧ b ≠ pb) (fun j hj hS => by
          rcases hS with hS | hS
          · exact hS
          · have := HPB1.out; omega)).two t7Y
        have HTO := Lib.hid (fun W (t : Turns [] Y W) => ToRef_any M' HIM2.out.ok _ _ _ _ W (laY.keep (t.keeps0 _)))
        have HTM := Lib.hid (fun W (t : Turns [] Y W) => ToRef_any M HIM.out.1.ok _ _ _ _ W (lmY.keep (t.keeps0 _)))
        have HOF := Lib.hid (fun W (t : Turns [] Y W) => Of_any M' HIM2.out.ok _ _ _ _ W (lbY.keep (t.keeps0 _)))
        have HSM := Lib.hid (fun W (t : Turns [] Y W) ov bv tv S (h : LedR W S ov bv tv M') => RSame_same M' HIM2.out.ok ov bv tv _ _ _ _ _ W h (lbY.keep (t.keeps0 _)))
        have HS6 := Lib.hid (fun W (t : Turns [] Y W) ov bv tv S (h : LedR W S ov bv tv M) => RSame_same M HIM.out.1.ok ov bv tv _ _ _ _ _ W h (l6Y.keep (t.keeps0 _)))
        have HSA := Lib.hid (fun W (t : Turns [] Y W) ov bv tv S (h : LedR W S ov bv tv M') => Same_same M' HIM2.out.ok _ _ _ ov bv tv _ _ W (laY.keep (t.keeps0 _)) h)
        have HYT := Lib.hid (And.intro txY t7Y)
        have S0 : Turns [] Y Y := Turns.refl _ _
        clear hp18 tr9 hY tY t8Y txY t7Y hn6 hn7 laY lbY lmY l6Y hz1
        refine rk0 (fun W => Turns [] Y W) (fun _ => True) 29 29 ?_
        rw [← HYY.out]
        refine rkY 0 96 1 rfl (yieldsIf_load_mid (by rfl) _ _ rfl pa 0 (by rfl) _ _ (fun W hS => rangeV hS RA) Tryz.underlying29 rfl hzA) (.mk' S0 trivial) ?_
        try simp only [sI, sS, sZ]
        refine rkY 2 98 5 rfl (yieldsIf_load_mid (by rfl) _ _ rfl pb 0 (by rfl) _ _ (fun W hS => rangeV hS RB) Tryz.underlying32 rfl hzB) (.mk' S0 trivial) ?_
        try simp only [sI, sS, sZ]
        refine rk1 1 7 (fun K hK => ?_)
        go_simp
        refine (HTO.out Y (Turns.refl [] Y)).mono ?_
        rintro e X97 ⟨v97, rfl, l97, D97⟩
        obtain ⟨A97, c97, rfl, _⟩ := l97.blks.form'
        refine hK _ _ (.mk' ((Turns.refl [] Y).trans D97 (by simp)) trivial) ?_
        clear hK K
        try simp only [sI, sS, sZ]
        refine rk1 3 15 (fun K hK => ?_)
        go_simp
        refine (HSM.out X97 ((Turns.refl [] Y).trans D97 (by simp)) _ _ _ _ (l97.keep ((Turns.refl [] X97).keeps0 _))).mono ?_
        rintro e X99 ⟨rfl, D99⟩
        refine hK _ _ (.mk' (((Turns.refl [] Y).trans D97 (by simp)).trans D99 (by simp)) trivial) ?_
        clear hK K
        try simp only [sI, sS, sZ]
        refine rkA 4 100 31 (v := ?_) ?_ (.mk' (((Turns.refl [] Y).trans D97 (by simp)).trans D99 (by simp)) trivial) ?_
        rotate_left
        · intro W hS; go_simp; all_goals with_reducible rfl
        try simp only [sI, sS, sZ]
        refine rkA 5 101 63 (v := ?_) ?_ (.mk' (((Turns.refl [] Y).trans D97 (by simp)).trans D99 (by simp)) trivial) ?_
        rotate_left
        · intro W hS; go_simp; all_goals with_reducible rfl
        try simp only [sI, sS, sZ]
        refine rkY 6 102 127 rfl (yieldsIf_load_mid (by rfl) _ _ rfl p7 0 (by rfl) _ _ (fun W hS => rangeV hS R7) Tryz.underlying29 rfl hz7) (.mk' (((Turns.refl [] Y).trans D97 (by simp)).trans D99 (by simp)) trivial) ?_
        try simp only [sI, sS, sZ]
        refine rkY 8 104 383 rfl (yieldsIf_load_mid (by rfl) _ _ rfl p6 0 (by rfl) _ _ (fun W hS => rangeV hS R6) Tryz.underlying32 rfl hz6) (.mk' (((Turns.refl [] Y).trans D97 (by simp)).trans D99 (by simp)) trivial) ?_
        try simp only [sI, sS, sZ]
        refine rk1 7 511 (fun K hK => ?_)
        go_simp
        refine (HTM.out X99 (((Turns.refl [] Y).trans D97 (by simp)).trans D99 (by simp))).mono ?_
        rintro e X103 ⟨v103, rfl, l103, D103⟩
        obtain ⟨A103, c103, rfl, _⟩ := l103.blks.form'
        refine hK _ _ (.mk' ((((Turns.refl [] Y).trans D97 (by simp)).trans D99 (by simp)).trans D103 (by simp)) trivial) ?_
        clear hK K
        try simp only [sI, sS, sZ]
        refine rk1 9 1023 (fun K hK => ?_)
        go_simp
        refine (HS6.out X103 ((((Turns.refl [] Y).trans D97 (by simp)).trans D99 (by simp)).trans D103 (by simp)) _ _ _ _ (l103.keep ((Turns.refl [] X103).keeps0 _))).mono ?_
        rintro e X105 ⟨rfl, D105⟩
        refine hK _ _ (.mk' (((((Turns.refl [] Y).trans D97 (by simp)).trans D99 (by simp)).trans D103 (by simp)).trans D105 (by simp)) trivial) ?_
        clear hK K
        try simp only [sI, sS, sZ]
        refine rkA 10 106 2047 (v := ?_) ?_ (.mk' (((((Turns.refl [] Y).trans D97 (by simp)).trans D99 (by simp)).trans D103 (by simp)).trans D105 (by simp)) trivial) ?_
        rotate_left
        · intro W hS; go_simp; all_goals with_reducible rfl
        try simp only [sI, sS, sZ]
        refine rkA 11 107 4095 (v := ?_) ?_ (.mk' (((((Turns.refl [] Y).trans D97 (by simp)).trans D99 (by simp)).trans D103 (by simp)).trans D105 (by simp)) trivial) ?_
        rotate_left
        · intro W hS; go_simp; all_goals with_reducible rfl
        try simp only [sI, sS, sZ]
        refine rkA 12 108 8191 (v := ?_) ?_ (.mk' (((((Turns.refl [] Y).trans D97 (by simp)).trans D99 (by simp)).trans D103 (by simp)).trans D105 (by simp)) trivial) ?_
        rotate_left
        · intro W hS; go_simp; all_goals with_reducible rfl
        try simp only [sI, sS, sZ]
        refine rkY 13 109 16383 rfl (yieldsIf_load_mid (by rfl) _ _ rfl p16 0 (by rfl) _ _ (fun W hS => rangeV hS R16) Tryz.underlying55 rfl hzg) (.mk' (((((Turns.refl [] Y).trans D97 (by simp)).trans D99 (by simp)).trans D103 (by simp)).trans D105 (by simp)) trivial) ?_
        try simp only [sI, sS, sZ]
        refine rkY 14 110 32767 rfl (yieldsIf_load_mid (by rfl) _ _ rfl p18 0 (by rfl) _ _ (fun W hS => rangeV hS R18) Tryz.underlying55 rfl hzg) (.mk' (((((Turns.refl [] Y).trans D97 (by simp)).trans D99 (by simp)).trans D103 (by simp)).trans D105 (by simp)) trivial) ?_
        try simp only [sI, sS, sZ]
        refine rkY 15 111 65535 rfl (yields_neqS (by rfl) _ _ _ _ rfl (by kernel_rfl) gcs.toArray HEG.out (by rfl) (by rfl)) (.mk' (((((Turns.refl [] Y).trans D97 (by simp)).trans D99 (by simp)).trans D103 (by simp)).trans D105 (by simp)) trivial) ?_
        try simp only [sI, sS, sZ]
        refine rkA 16 112 131071 (v := ?_) ?_ (.mk' (((((Turns.refl [] Y).trans D97 (by simp)).trans D99 (by simp)).trans D103 (by simp)).trans D105 (by simp)) trivial) ?_
        rotate_left
        · intro W hS; go_simp; all_goals with_reducible rfl
        try simp only [sI, sS, sZ]
        refine rkA 17 113 262143 (v := ?_) ?_ (.mk' (((((Turns.refl [] Y).trans D97 (by simp)).trans D99 (by simp)).trans D103 (by simp)).trans D105 (by simp)) trivial) ?_
        rotate_left
        · intro W hS; go_simp; all_goals with_reducible rfl
        try simp only [sI, sS, sZ]
        refine rkA 18 114 524287 (v := ?_) ?_ (.mk' (((((Turns.refl [] Y).trans D97 (by simp)).trans D99 (by simp)).trans D103 (by simp)).trans D105 (by simp)) trivial) ?_
        rotate_left
        · intro W hS; go_simp; all_goals with_reducible rfl
        try simp only [sI, sS, sZ]
        refine rkA 19 115 1048575 (v := ?_) ?_ (.mk' (((((Turns.refl [] Y).trans D97 (by simp)).trans D99 (by simp)).trans D103 (by simp)).trans D105 (by simp)) trivial) ?_
        rotate_left
        · intro W hS; go_simp; all_goals with_reducible rfl
        try simp only [sI, sS, sZ]
        refine rkA 20 116 2097151 (v := ?_) ?_ (.mk' (((((Turns.refl [] Y).trans D97 (by simp)).trans D99 (by simp)).trans D103 (by simp)).trans D105 (by simp)) trivial) ?_
        rotate_left
        · intro W hS; go_simp; all_goals with_reducible rfl
        try simp only [sI, sS, sZ]
        refine rkA 21 117 4194303 (v := ?_) ?_ (.mk' (((((Turns.refl [] Y).trans D97 (by simp)).trans D99 (by simp)).trans D103 (by simp)).trans D105 (by simp)) trivial) ?_
        rotate_left
        · intro W hS; go_simp; all_goals with_reducible rfl
        try simp only [sI, sS, sZ]
        refine rkA 22 118 8388607 (v := ?_) ?_ (.mk' (((((Turns.refl [] Y).trans D97 (by simp)).trans D99 (by simp)).trans D103 (by simp)).trans D105 (by simp)) trivial) ?_
        rotate_left
        · intro W hS; go_simp; all_goals with_reducible rfl
        try simp only [sI, sS, sZ]
        refine rkY 23 119 16777215 rfl (yieldsIf_load_mid (by rfl) _ _ rfl pa 0 (by rfl) _ _ (fun W hS => rangeV hS RA) Tryz.underlying29 rfl hzA) (.mk' (((((Turns.refl [] Y).trans D97 (by simp)).trans D99 (by simp)).trans D103 (by simp)).trans D105 (by simp)) trivial) ?_
        try simp only [sI, sS, sZ]
        refine rkY 24 120 33554431 rfl (yieldsIf_load_mid (by rfl) _ _ rfl pb 0 (by rfl) _ _ (fun W hS => rangeV hS RB) Tryz.underlying32 rfl hzB) (.mk' (((((Turns.refl [] Y).trans D97 (by simp)).trans D99 (by simp)).trans D103 (by simp)).trans D105 (by simp)) trivial) ?_
        try simp only [sI, sS, sZ]
        refine rk1 25 67108863 (fun K hK => ?_)
        go_simp
        refine (HOF.out X105 (((((Turns.refl [] Y).trans D97 (by simp)).trans D99 (by simp)).trans D103 (by simp)).trans D105 (by simp))).mono ?_
        rintro e X121 ⟨v121, rfl, l121, D121⟩
        obtain ⟨A121, c121, rfl, _⟩ := l121.blks.form'
        refine hK _ _ (.mk' ((((((Turns.refl [] Y).trans D97 (by simp)).trans D99 (by simp)).trans D103 (by simp)).trans D105 (by simp)).trans D121 (by simp)) trivial) ?_
        clear hK K
        try simp only [sI, sS, sZ]
        refine rk1 26 134217727 (fun K hK => ?_)
        go_simp
        refine (HSA.out X121 ((((((Turns.refl [] Y).trans D97 (by simp)).trans D99 (by simp)).trans D103 (by simp)).trans D105 (by simp)).trans D121 (by simp)) _ _ _ _ (l121.keep ((Turns.refl [] X121).keeps0 _))).mono ?_
        rintro e X122 ⟨rfl, D122⟩
        refine hK _ _ (.mk' (((((((Turns.refl [] Y).trans D97 (by simp)).trans D99 (by simp)).trans D103 (by simp)).trans D105 (by simp)).trans D121 (by simp)).trans D122 (by simp)) trivial) ?_
        clear hK K
        try simp only [sI, sS, sZ]
        refine rkA 27 123 268435455 (v := ?_) ?_ (.mk' (((((((Turns.refl [] Y).trans D97 (by simp)).trans D99 (by simp)).trans D103 (by simp)).trans D105 (by simp)).trans D121 (by simp)).trans D122 (by simp)) trivial) ?_
        rotate_left
        · intro W hS; go_simp; all_goals with_reducible rfl
        try simp only [sI, sS, sZ]
        refine rkA 28 124 536870911 (v := ?_) ?_ (.mk' (((((((Turns.refl [] Y).trans D97 (by simp)).trans D99 (by simp)).trans D103 (by simp)).trans D105 (by simp)).trans D121 (by simp)).trans D122 (by simp)) trivial) ?_
        rotate_left
        · intro W hS; go_simp; all_goals with_reducible rfl
        try simp only [sI, sS, sZ]
        refine rkZ ?_
        have HFF := Lib.hid (((((((Turns.refl [] Y).trans D97 (by simp)).trans D99 (by simp)).trans D103 (by simp)).trans D105 (by simp)).trans D121 (by simp)).trans D122 (by simp))
        have HEND := Lib.hid (show PlI (bldK l (k + 1)) x3 pa pb _ from by
          rw [← HMM.out]
          exact ⟨_, _, _, _, _, _, HB.out.1.turns (HYT.out.1.trans HFF.out (by simp)) (by simp), HB.out.2.1.turns (HYT.out.1.trans HFF.out (by simp)) (by simp), HB.out.2.2.1.keep ((HYT.out.1.trans HFF.out (by simp)).keeps0 _), HB.out.2.2.2.1.keep ((HYT.out.1.trans HFF.out (by simp)).keeps0 _),
            ((HK.out.2.2.2.2.1.trans H7.out.2.2.2.1 (by simp)).trans (HYT.out.2.trans HFF.out (by simp)) (fun x hx => .inl hx))⟩)
        clear RA RB R6 R7 R16 R18 S0
        have hk1 := HK1.out
        go_wp2_with fail
        go_roundw
        case rel => exact ⟨k + 1, hk1.1, by go_num, HEND.out⟩
        case measure => (simp [intOf] <;> omega)
    · obtain rfl : k = n := by omega
      have HF := Lib.hid (below_of' tw)
      clear ba bb la lb tk tw
      go_wp2_with fail
      go_ret
      exact ⟨rfl, HF.out⟩
end Go.Proofs.YtoahnhphfabajaaGreat
