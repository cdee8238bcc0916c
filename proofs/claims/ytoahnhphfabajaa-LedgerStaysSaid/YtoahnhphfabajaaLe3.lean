/- LedgerStays, walked. -/
import Derived.Test.YtoahnhphfabajaaLe2
namespace Go.Proofs.Ytoahnhphfabajaa
open Go.RowKit
set_option linter.unusedVariables false
set_option maxRecDepth 10000
set_option linter.unusedSimpArgs false
set_option linter.unnecessarySimpa false

def StyR (L : Led) (m : List Stp) (y0 wr : World) (p k : Nat) : Prop := ∃ ov bv tv, Blk wr p [.int .i64 (runL L m k).next, ov, bv, tv] 57 ∧ LedR wr (fun b => b ≠ p) ov bv tv (runL L m k) ∧ Turns [p] y0 wr
/-- The parts of a block's cells. -/
theorem blo_parts {w : World} {b o : Nat} {x : Blo} (hx : x.ok) (h : w.rangeAt b o x.cells) : w.cell? ⟨b, o, none⟩ = some (.int .i64 x.n) ∧ w.rangeAt b (o + 1) (bvs x.prev) ∧ w.rangeAt b (o + 33) (bvs x.root) ∧ w.cell? ⟨b, o + 65, none⟩ = some (.int .i64 x.cnt) := by
  have hp : (bvs x.prev).length = 32 := by rw [bvs_length, hx.prev]
  have hr : (bvs x.root).length = 32 := by rw [bvs_length, hx.root]
  refine ⟨h 0 _ rfl, fun i v hv => ?_, fun i v hv => ?_, ?_⟩
  · have hi := (List.getElem?_eq_some_iff.1 hv).1
    rw [show o + 1 + i = o + (i + 1) by omega]
    refine h (i + 1) v ?_
    rw [Blo.cells, List.getElem?_cons_succ, List.append_assoc, List.getElem?_append_left hi]; exact hv
  · have hi := (List.getElem?_eq_some_iff.1 hv).1
    rw [show o + 33 + i = o + (i + 32 + 1) by omega]
    refine h (i + 32 + 1) v ?_
    rw [Blo.cells, List.getElem?_cons_succ, List.append_assoc, List.getElem?_append_right (by omega), hp, Nat.add_sub_cancel, List.getElem?_append_left hi]; exact hv
  · refine h 65 _ ?_
    rw [Blo.cells, show (65 : Nat) = 64 + 1 from rfl, List.getElem?_cons_succ, List.getElem?_append_right (by rw [List.length_append, hp, hr]; omega), List.length_append, hp, hr]; rfl
set_option maxRecDepth 100000 in
set_option maxHeartbeats 16000000 in
theorem LedgerStays_walk (l m : List Stp) (v vm : Value) (w0 : World) (hd : Deep StpR w0 (fun _ => True) 4 v l) (hf : ∀ s ∈ l, s.fits) (hdm : Deep StpR w0 (fun _ => True) 4 vm m) (hfm : ∀ s ∈ m, s.fits) :
    Calls Try.prog 7 #[v, vm] w0 fun e w' => e = .returned (.bool true) ∧ Below w0.heap.size w0 w' := by
  obtain ⟨A, c, rfl, _⟩ := hd.form
  obtain ⟨Am, cm, rfl, _⟩ := hdm.form
  have KN := Lib.hid (known14_any w0)
  have HD := Lib.hid (And.intro hd hf)
  have HM := Lib.hid (And.intro hdm hfm)
  clear hd hf hdm hfm
  obtain ⟨n, hn⟩ : ∃ n, n = l.length := ⟨_, rfl⟩
  have HNL := Lib.hid hn
  rw [← hn]
  obtain ⟨N, hN⟩ : ∃ n, n = m.length := ⟨_, rfl⟩
  have HNM := Lib.hid hN
  rw [← hN]
  clear hn hN
  go_enter Try.func7, Try.ntmps7
  go_wp2_with fail
  refine KN.out.mono ?_
  rintro e w1 ⟨rfl, t1⟩
  have hd1 := HD.out.1.keep StpR.lasts (t1.keeps0 _)
  have FW := Lib.hid (by have h := Few14_any l (.slice A l.length c) _ w1 hd1 HD.out.2; rw [← HNL.out] at h; exact h : Calls Try.prog 26 #[.slice A n c] w1 fun e w' => e = .returned (.bool (fewSs l)) ∧ Turns [] w1 w')
  have H1 := Lib.hid (And.intro t1 hd1)
  clear t1 hd1 KN
  go_wp2_with fail
  refine FW.out.mono ?_
  rintro e w2 ⟨rfl, t2⟩
  have t02 := Lib.hid (H1.out.1.trans t2 (by simp))
  have HD2 := Lib.hid (H1.out.2.keep StpR.lasts (t2.keeps0 _))
  clear t2 FW
  cases hfew : fewSs l
  · go_wp2_with fail
    go_ret
    exact ⟨rfl, below_of' t02.out⟩
  have FM := Lib.hid (by have h := Few14_any m (.slice Am m.length cm) _ w2 (HM.out.1.keep StpR.lasts (t02.out.keeps0 _)) HM.out.2; rw [← HNM.out] at h; exact h : Calls Try.prog 26 #[.slice Am N cm] w2 fun e w' => e = .returned (.bool (fewSs m)) ∧ Turns [] w2 w')
  go_wp2_with fail
  refine FM.out.mono ?_
  rintro e wx ⟨rfl, tx⟩
  have t03 := Lib.hid (t02.out.trans tx (by simp))
  have HD3 := Lib.hid (HD2.out.keep StpR.lasts (tx.keeps0 _))
  clear tx FM
  cases hfm : fewSs m
  · go_wp2_with fail
    go_ret
    exact ⟨rfl, below_of' t03.out⟩
  have BD := Lib.hid (by have h := Build_any l (.slice A l.length c) _ wx HD3.out HD.out.2 hfew; rw [← HNL.out] at h; exact h : Calls Try.prog 27 #[.slice A n c] wx _)
  have hinv := bldL_inv HD.out.2 hfew
  obtain ⟨L, hL⟩ : ∃ L, L = bldL l := ⟨_, rfl⟩
  rw [← hL] at BD hinv
  have HI := Lib.hid hinv.1
  have HRUN := Lib.hid (And.intro (runL_inv hinv.1 hinv.2 (by omega) m HM.out.2 hfm) (And.intro (fewSs_all hfm) (fewSs_len hfm)))
  clear hL hinv
  go_wp2_with fail
  refine BD.out.mono ?_
  rintro e w3 ⟨ov, bv, tv, rfl, l3, t3⟩
  obtain ⟨A1, c1, rfl, _⟩ := l3.opn.form
  obtain ⟨A2, c2, rfl, _⟩ := l3.blks.form'
  obtain ⟨A3, c3, rfl, _⟩ := l3.txs.form
  have OF := Lib.hid (Of_any L HI.out.ok _ _ _ _ w3 l3)
  have H3 := Lib.hid (t03.out.trans t3 (by simp))
  clear l3 t3 BD
  go_wp2_with fail
  refine OF.out.mono ?_
  rintro e w4 ⟨bv4, rfl, l4, t4⟩
  obtain ⟨A4, c4, rfl, _⟩ := l4.blks.form'
  obtain ⟨p4, hp4⟩ : ∃ x, x = w4.heap.size := ⟨_, rfl⟩
  obtain ⟨wr, hx4⟩ : ∃ x, x = w4.alloc (.cells #[.int .i64 L.next, .slice A1 L.opn.length c1, .slice A4 L.blks.length c4, .slice A3 L.txs.length c3] 57) := ⟨_, rfl⟩
  have b4 := Blk.new w4 [.int .i64 L.next, .slice A1 L.opn.length c1, .slice A4 L.blks.length c4, .slice A3 L.txs.length c3] 57
  rw [show w4.alloc (.cells [.int .i64 L.next, .slice A1 L.opn.length c1, .slice A4 L.blks.length c4, .slice A3 L.txs.length c3].toArray 57) = wr from hx4.symm, ← hp4] at b4
  have tx4 : Turns [] w4 wr := by rw [hx4]; exact (Turns.refl _ _).alloc _
  obtain ⟨nb, hnb⟩ : ∃ n, n = L.blks.length := ⟨_, rfl⟩
  have hnb1 : nb ≤ 100000 := by rw [hnb]; exact HI.out.ok.blks
  have HNB := Lib.hid hnb
  have lr := l4.keep (tx4.keeps0 _)
  have r4 := b4.all
  have hz4 := size_led (.int .i64 L.next) (.slice A1 L.opn.length c1) (.slice A4 L.blks.length c4) (.slice A3 L.txs.length c3)
  rw [← HNB.out] at r4 hz4
  have hzd := zero_dig
  have HWR := Lib.hid (And.intro b4 (And.intro lr ((H3.out.trans t4 (by simp)).trans tx4 (by simp))))
  have HX4 := Lib.hid (And.intro hx4 hp4)
  clear b4 t4 tx4 l4 hx4 hp4 OF hnb lr
  go_upto_region 6 with fail
  rw [← HX4.out.1, ← HX4.out.2]
  rcases Nat.eq_zero_or_pos nb with h0 | h0
  · have hL0 : L.blks = [] := List.eq_nil_of_length_eq_zero (by have := HNB.out; omega)
    have DN := Lib.hid (Digest_none L hL0 _ _ _ _ wr HWR.out.2.1)
    have hkb : ((nb : Int) == 0) = true := beq_iff_eq.2 (by omega)
    obtain ⟨dc, hdc⟩ : ∃ x, x = digCells 0 (zeros 32) := ⟨_, rfl⟩
    have HLN := Lib.hid (And.intro (show (digCells 0 (zeros 32)).length = dc.length by rw [hdc]) (And.intro (show (Try.prog.info? 62).map (·.size) = some dc.length by rw [hdc]; exact size_dig 0 (zeros 32) (zeros_length 32)) (show ∀ u ∈ dc, u.oneCell' = true by rw [hdc]; intro u hu; simp only [digCells, List.mem_cons] at hu; rcases hu with rfl | hu; rfl; exact bvs_one _ u hu)))
    rw [← hdc] at DN
    rw [← HNB.out] at DN
    clear hL0 h0 hdc
    go_wp2_with (first
      | (refine wpList_load_mid rfl 57 (.tmp 5) rfl p4 0 rfl _ _ r4 Try.underlying57 rfl hz4 ?_)
      | fail)
    refine DN.out.mono ?_
    rintro e x5 ⟨rfl, t5⟩
    have bD := Blk.new x5 (digCells 0 (zeros 32)) 62
    have tD : Turns [] x5 (x5.alloc (.cells (digCells 0 (zeros 32)).toArray 62)) := (Turns.refl _ _).alloc _
    have HBD := Lib.hid (And.intro bD tD)
    have H5 := Lib.hid t5
    have hzD := HLN.out.2.1
    clear bD tD t5 r4
    go_upto_region 7 with (first
      | (refine wpList_alloc_arr (o := ⟨some 6, _, _, _, _, _⟩) rfl 62 rfl (digCells 0 (zeros 32)).toArray hzd ?_)
      | (refine wpList_store_blk rfl 62 (.tmp 6) (.tmp 29) rfl x5.heap.size (by kernel_rfl) (dc) (digCells 0 (zeros 32)) 62 (by kernel_rfl) HBD.out.1 HLN.out.1 hzD HLN.out.2.2 (fun w9 hb9 ht9 hs9 => ?_); have HQ9 := Lib.hid (And.intro hb9 ht9); clear hb9 ht9 hs9)
      | fail)
    try simp only [Act.put, List.setIfInBounds_toArray, List.set_cons_succ, List.set_cons_zero]
    obtain ⟨p6, hp6⟩ : ∃ x, x = x5.heap.size := ⟨_, rfl⟩
    rw [← hp6] at HQ9 ⊢
    have t9 : Turns [] wr w9 := (H5.out.trans HBD.out.2 (by simp)).trans HQ9.out.2 (by intro x hx; simp at hx; exact .inr (by have := H5.out.size; omega))
    have c49 := (HWR.out.1.turns t9 (by simp)).cell 2
    simp only [List.getElem?_cons_zero, List.getElem?_cons_succ] at c49
    rw [← HNB.out] at c49
    have HT9 := Lib.hid t9
    clear hp6 t9 hzd
    have HFF := Lib.hid (below_of' (HWR.out.2.2.trans HT9.out (by simp)))
    go_wp2_with fail
    go_ret
    exact ⟨rfl, HFF.out⟩
  · have hne : 0 < L.blks.length := by have := HNB.out; omega
    have DS := Digest_some L HI.out.ok hne _ _ _ _ wr HWR.out.2.1
    have hln := HI.out.lastN hne
    have hck := HI.out.ok.blo _ (List.getElem_mem (show L.blks.length - 1 < L.blks.length by omega))
    obtain ⟨bl, hbl⟩ : ∃ x, x = L.blks[L.blks.length - 1]'(by omega) := ⟨_, rfl⟩
    rw [← hbl] at DS hln hck
    rw [hln, ← HNB.out] at DS
    have hkb : ((nb : Int) == 0) = false := beq_eq_false_iff_ne.2 (by omega)
    have HDS := Lib.hid DS
    have HBL := Lib.hid (And.intro hbl (And.intro hck hne))
    obtain ⟨dc, hdc⟩ : ∃ x, x = digCells (nb : Int) (bloH bl) := ⟨_, rfl⟩
    have HLN := Lib.hid (And.intro (show (digCells 0 (zeros 32)).length = dc.length by rw [hdc]; simp [digCells, bvs_length, zeros_length, bloH_len]) (And.intro (show (Try.prog.info? 62).map (·.size) = some dc.length by rw [hdc]; exact size_dig (nb : Int) (bloH bl) (bloH_len bl)) (show ∀ u ∈ dc, u.oneCell' = true by rw [hdc]; intro u hu; simp only [digCells, List.mem_cons] at hu; rcases hu with rfl | hu; rfl; exact bvs_one _ u hu)))
    rw [← hdc] at HDS
    have HDC := Lib.hid hdc
    have H0 := Lib.hid h0
    clear DS hdc h0 hbl hck
    go_wp2_with (first
      | (refine wpList_load_mid rfl 57 (.tmp 5) rfl p4 0 rfl _ _ r4 Try.underlying57 rfl hz4 ?_)
      | fail)
    refine HDS.out.mono ?_
    rintro e x5 ⟨rfl, t5⟩
    have bD := Blk.new x5 (digCells 0 (zeros 32)) 62
    have tD : Turns [] x5 (x5.alloc (.cells (digCells 0 (zeros 32)).toArray 62)) := (Turns.refl _ _).alloc _
    have HBD := Lib.hid (And.intro bD tD)
    have H5 := Lib.hid t5
    have hzD := HLN.out.2.1
    clear bD tD t5 r4
    go_upto_region 7 with (first
      | (refine wpList_alloc_arr (o := ⟨some 6, _, _, _, _, _⟩) rfl 62 rfl (digCells 0 (zeros 32)).toArray hzd ?_)
      | (refine wpList_store_blk rfl 62 (.tmp 6) (.tmp 29) rfl x5.heap.size (by kernel_rfl) (dc) (digCells 0 (zeros 32)) 62 (by kernel_rfl) HBD.out.1 HLN.out.1 hzD HLN.out.2.2 (fun w9 hb9 ht9 hs9 => ?_); have HQ9 := Lib.hid (And.intro hb9 ht9); clear hb9 ht9 hs9)
      | fail)
    try simp only [Act.put, List.setIfInBounds_toArray, List.set_cons_succ, List.set_cons_zero]
    obtain ⟨p6, hp6⟩ : ∃ x, x = x5.heap.size := ⟨_, rfl⟩
    rw [← hp6] at HQ9 ⊢
    have t9 : Turns [] wr w9 := (H5.out.trans HBD.out.2 (by simp)).trans HQ9.out.2 (by intro x hx; simp at hx; exact .inr (by have := H5.out.size; omega))
    have c49 := (HWR.out.1.turns t9 (by simp)).cell 2
    simp only [List.getElem?_cons_zero, List.getElem?_cons_succ] at c49
    rw [← HNB.out] at c49
    have HT9 := Lib.hid t9
    clear hp6 t9 hzd
    have r9 := (HWR.out.1.turns HT9.out (by simp)).all
    rw [← HNB.out] at r9
    obtain ⟨p9, hp9⟩ : ∃ x, x = w9.heap.size := ⟨_, rfl⟩
    obtain ⟨y0, hy0⟩ : ∃ x, x = w9.alloc (.cells #[.int .i64 L.next, .slice A1 L.opn.length c1, .slice A4 nb c4, .slice A3 L.txs.length c3] 57) := ⟨_, rfl⟩
    have b9 := Blk.new w9 [.int .i64 L.next, .slice A1 L.opn.length c1, .slice A4 nb c4, .slice A3 L.txs.length c3] 57
    rw [show w9.alloc (.cells [.int .i64 L.next, .slice A1 L.opn.length c1, .slice A4 nb c4, .slice A3 L.txs.length c3].toArray 57) = y0 from hy0.symm, ← hp9] at b9
    have ty0 : Turns [] w9 y0 := by rw [hy0]; exact (Turns.refl _ _).alloc _
    have l9 : LedR y0 (fun b => b ≠ p9) (.slice A1 L.opn.length c1) (.slice A4 L.blks.length c4) (.slice A3 L.txs.length c3) L := ((HWR.out.2.1.keep (HT9.out.keeps0 _)).mono (fun j hj _ => by show j ≠ p9; omega)).keep (ty0.keeps0 _)
    rw [← HNB.out] at l9
    have HK0 := Lib.hid (show StyR L m y0 y0 p9 0 from ⟨_, _, _, b9, l9, Turns.refl _ _⟩)
    have hpp := HQ9.out.1.lt
    have H9 := Lib.hid (And.intro (show p6 ≠ p9 by omega) (And.intro ((HWR.out.2.2.trans HT9.out (by simp)).trans ty0 (by simp)) (And.intro (HQ9.out.1.turns ty0 (by simp)) (show w0.heap.size ≤ p9 by have := HWR.out.2.2.size; have := HT9.out.size; omega))))
    have HX9 := Lib.hid (And.intro hy0 hp9)
    clear hy0 b9 ty0 l9 hpp hp9
    go_upto_region 11 with (first
      | (refine wpList_load_mid rfl 57 (.tmp 5) rfl p4 0 rfl _ _ r9 Try.underlying57 rfl hz4 ?_)
      | fail)
    rw [← HX9.out.1, ← HX9.out.2]
    clear r9 c49 hkb hz4 hzD
    go_wp2_with fail
    go_loopw [10] (fun i ws => ∃ k : Nat, k ≤ N ∧ i = .int .i64 k ∧ StyR L m y0 ws p9 k) (fun i _ => N - (intOf i).toNat)
    case atStart => exact ⟨0, by omega, rfl, HK0.out⟩
    case round =>
      rename World => ws
      obtain ⟨k, hk, rfl, ov, bv, tv, bk, lk, tk⟩ := hrel
      obtain ⟨B1, d1, rfl, _⟩ := lk.opn.form
      obtain ⟨B2, d2, rfl, _⟩ := lk.blks.form'
      obtain ⟨B3, d3, rfl, _⟩ := lk.txs.form
      have tw : Turns [] w0 ws := H9.out.2.1.trans tk (by intro x hx; simp at hx; exact .inr (by have := H9.out.2.2.2; omega))
      have hinv := HRUN.out.1 k (by have := HNM.out; omega)
      have hN40 : N ≤ 40 := by have := HRUN.out.2.2; have := HNM.out; omega
      have r1 := bk.all
      have hz1 := size_led (.int .i64 (runL L m k).next) (.slice B1 (runL L m k).opn.length d1) (.slice B2 (runL L m k).blks.length d2) (.slice B3 (runL L m k).txs.length d3)
      by_cases hlt : k < N
      · have hki : (k : Int) < (N : Int) := by omega
        have hkl : k < m.length := by have := HNM.out; omega
        obtain ⟨b0, off, cc, cs, hv, _, hb0, hcl, rg0, hR0⟩ := HM.out.1.at_ (by omega) k hkl
        injection hv with e1 e2 e3
        subst e1 e3
        clear e2
        have rg := rangeV tw rg0
        have hR := StpR.lasts.keep hR0 (tw.keeps0 _)
        clear rg0 hR0
        have hck := HM.out.2 _ (List.getElem_mem hkl)
        have hfs := HRUN.out.2.1 _ (List.getElem_mem hkl)
        have hstep := runL_step L m k hkl
        obtain ⟨s, hs⟩ : ∃ s, s = m[k] := ⟨_, rfl⟩
        rw [← hs] at hR hck hfs hstep
        obtain ⟨rv, rfl, hsl⟩ := hR
        obtain ⟨Ar, cr, rfl, _⟩ := hsl.form'
        have q0 := rg 0 _ rfl
        rw [Nat.add_zero] at q0
        have WI := Lib.hid (fun W => within14_any s.n 4 W hck.n.1 hck.n.2 (by omega) (by omega))
        have HK := Lib.hid (And.intro bk (And.intro lk (And.intro tk (And.intro tw (And.intro (And.intro hinv.1 (show (runL L m k).next ≤ 80 by have := hinv.2; omega)) (And.intro hck (And.intro hfs hsl)))))))
        have HST := Lib.hid hstep
        have HRG := Lib.hid rg
        have hz4 := size_stp s.n s.op s.name (.slice Ar s.v.length cr)
        clear bk lk tk tw hinv hck hfs hsl hstep rg hs hcl hb0 hkl
        go_wp2_with fail
        refine (WI.out ws).mono ?_
        rintro e wr' ⟨rfl, rfl⟩
        by_cases h3 : s.n % 4 = 3
        · have h3b : (s.n % 4 == 3) = true := beq_iff_eq.2 h3
          have CL : Calls Try.prog 33 #[.agg #[.int .i64 (runL L m k).next, .slice B1 (runL L m k).opn.length d1, .slice B2 (runL L m k).blks.length d2, .slice B3 (runL L m k).txs.length d3]] ws fun e w' => ∃ (ov' bv' tv' : Value) (er : Int), e = .returned (.tuple #[.agg #[.int .i64 (runL L m (k + 1)).next, ov', bv', tv'], .int .i64 er]) ∧ LedR w' (fun b => b ≠ p9) ov' bv' tv' (runL L m (k + 1)) ∧ Turns [] ws w' := by
            have hst := HST.out
            have hp9 := HK.out.1.lt
            unfold stepL at hst
            rw [if_pos h3] at hst
            by_cases h0 : (runL L m k).opn.length = 0
            · rw [if_pos h0] at hst
              rw [hst]
              exact (Close_none (runL L m k) HK.out.2.2.2.2.1.1.ok (List.eq_nil_of_length_eq_zero h0) _ _ _ _ ws HK.out.2.1).mono fun e w' ⟨a, b, c, he, hl, ht⟩ => ⟨a, b, c, 2, he, hl.mono (fun j _ hj => by show j ≠ p9; omega), ht⟩
            · rw [if_neg h0] at hst
              rw [hst]
              exact (Close_any (runL L m k) HK.out.2.2.2.2.1.1.ok (HK.out.2.2.2.2.1.1.room (by have := HK.out.2.2.2.2.1.2; omega)).2.2 (by omega) _ _ _ _ ws HK.out.2.1).mono fun e w' ⟨a, b, c, he, hl, ht⟩ => ⟨a, b, c, 0, he, hl.mono (fun j _ hj => by show j ≠ p9; omega), ht⟩
          have HCL := Lib.hid CL
          clear CL h3 q0
          go_wp2_with (first
            | (refine wpList_load_mid rfl 57 (.tmp 9) rfl p9 0 rfl _ _ r1 Try.underlying57 rfl hz1 ?_)
            | fail)
          refine HCL.out.mono ?_
          rintro e x7 ⟨ov', bv', tv', er, rfl, l7, t7⟩
          obtain ⟨A7, c7, rfl, _⟩ := l7.opn.form
          obtain ⟨A8, c8, rfl, _⟩ := l7.blks.form'
          obtain ⟨A9, c9, rfl, _⟩ := l7.txs.form
          have hz7 := size_led (.int .i64 (runL L m (k + 1)).next) (.slice A7 (runL L m (k + 1)).opn.length c7) (.slice A8 (runL L m (k + 1)).blks.length c8) (.slice A9 (runL L m (k + 1)).txs.length c9)
          have HB7 := Lib.hid (And.intro (HK.out.1.turns t7 (by simp)) (And.intro l7 t7))
          clear l7 t7 HCL r1
          go_wp2_with (first
            | (refine wpList_store_blk rfl 57 (.tmp 9) (.tmp 57) rfl p9 (by kernel_rfl) [.int .i64 (runL L m (k + 1)).next, .slice A7 (runL L m (k + 1)).opn.length c7, .slice A8 (runL L m (k + 1)).blks.length c8, .slice A9 (runL L m (k + 1)).txs.length c9] _ 57 (by kernel_rfl) HB7.out.1 rfl hz7 (by intro u hu; simp at hu; rcases hu with rfl | rfl | rfl | rfl <;> rfl) (fun w9 hb9 ht9 hs9 => ?_); have HQ9 := Lib.hid (And.intro hb9 ht9); clear hb9 ht9 hs9)
            | fail)
          have HKN := Lib.hid (show StyR L m y0 w9 p9 (k + 1) from ⟨_, _, _, HQ9.out.1, HB7.out.2.1.keep (HQ9.out.2.keepsB _ (by intro x hx _ h; simp at hx; exact h hx)), (HK.out.2.2.1.trans HB7.out.2.2 (by simp)).trans HQ9.out.2 (fun x hx => .inl hx)⟩)
          go_roundw
          case rel => exact ⟨k + 1, by omega, by go_num, HKN.out⟩
          case measure => (simp [intOf] <;> omega)
        · have h3b : (s.n % 4 == 3) = false := beq_eq_false_iff_ne.2 h3
          have hadd : runL L m (k + 1) = addLed (runL L m k) (stCs s) := by rw [HST.out]; unfold stepL; rw [if_neg h3]
          have HADD := Lib.hid hadd
          obtain ⟨Y, hY⟩ : ∃ q, q = ws.drew := ⟨_, rfl⟩
          have tY : Turns [] ws Y := by rw [hY]; exact (Turns.refl _ _).drew
          have HYY := Lib.hid hY
          have R1 := rangeV tY r1
          have RG := rangeV tY HRG.out
          have HTY := Lib.hid tY
          have S0 : Turns [] Y Y := Turns.refl _ _
          clear h3 hadd hY tY q0 r1
          go_upto_region 16 with fail
          refine rk0 (fun _ => True) (fun W => Turns [] Y W) 10 11 ?_
          rw [← HYY.out]
          refine rkW 0 60 1 rfl (yieldsIf_load_mid (by rfl) _ _ rfl p9 0 (by rfl) _ _ (fun W hS => rangeV hS.2 R1) Try.underlying57 rfl hz1) (.mk' trivial S0) ?_
          try simp only [sI, sS, sZ]
          refine rkA 1 61 3 (v := ?_) ?_ (.mk' trivial S0) ?_
          rotate_left
          · intro W hS; go_simp; all_goals with_reducible rfl
          try simp only [sI, sS, sZ]
          refine rkA 2 62 7 (v := ?_) ?_ (.mk' trivial S0) ?_
          rotate_left
          · intro W hS; go_simp; all_goals with_reducible rfl
          try simp only [sI, sS, sZ]
          refine rkA 3 63 15 (v := ?_) ?_ (.mk' trivial S0) ?_
          rotate_left
          · intro W hS; go_simp; all_goals with_reducible rfl
          try simp only [sI, sS, sZ]
          refine rkW 4 64 31 rfl (yieldsIf_load_mid (by rfl) _ _ rfl b0 (off + k * 4) (by rfl) _ _ (fun W hS => rangeV hS.2 RG) Try.underlying70 rfl hz4) (.mk' trivial S0) ?_
          try simp only [sI, sS, sZ]
          refine rk1 5 63 (fun K hK => ?_)
          go_simp
          refine (Changes_any s HK.out.2.2.2.2.2.1 HK.out.2.2.2.2.2.2.1 (.slice Ar s.v.length cr) (fun _ => True) Y (HK.out.2.2.2.2.2.2.2.keep (HTY.out.keeps0 _))).mono ?_
          rintro e X30 ⟨A30, c30, rfl, d30, D30⟩
          refine hK _ _ (.mk' trivial D30) ?_
          clear hK K
          try simp only [sI, sS, sZ]
          refine rk1 6 127 (fun K hK => ?_)
          go_simp
          refine (Add_any (runL L m k) HK.out.2.2.2.2.1.1.ok (HK.out.2.2.2.2.1.1.room (by have := HK.out.2.2.2.2.1.2; omega)) (stCs s) (stCs_ok HK.out.2.2.2.2.2.1 HK.out.2.2.2.2.2.2.1) _ _ _ _ (fun b => b ≠ p9) _ X30 ((HK.out.2.1.keep (HTY.out.keeps0 _)).keep (D30.keeps0 _)) d30).mono ?_
          rintro e X31 ⟨ov', bv', tv', cv', rfl, l7, d7, D31⟩
          rw [← HADD.out] at l7 ⊢
          obtain ⟨A7, c7, rfl, _⟩ := l7.opn.form
          obtain ⟨A8, c8, rfl, _⟩ := l7.blks.form'
          obtain ⟨A9, c9, rfl, _⟩ := l7.txs.form
          have hz7 := size_led (.int .i64 (runL L m (k + 1)).next) (.slice A7 (runL L m (k + 1)).opn.length c7) (.slice A8 (runL L m (k + 1)).blks.length c8) (.slice A9 (runL L m (k + 1)).txs.length c9)
          have DD := D30.trans D31 (by simp)
          refine hK _ _ (.mk' trivial DD) ?_
          clear hK K
          try simp only [sI, sS, sZ]
          refine rkA 7 59 255 (v := ?_) ?_ (.mk' trivial DD) ?_
          rotate_left
          · intro W hS; go_simp; all_goals with_reducible rfl
          try simp only [sI, sS, sZ]
          refine rkA 8 67 511 (v := ?_) ?_ (.mk' trivial DD) ?_
          rotate_left
          · intro W hS; go_simp; all_goals with_reducible rfl
          try simp only [sI, sS, sZ]
          refine rkA 9 68 1023 (v := ?_) ?_ (.mk' trivial DD) ?_
          rotate_left
          · intro W hS; go_simp; all_goals with_reducible rfl
          try simp only [sI, sS, sZ]
          refine rk1 10 2047 (fun K hK => ?_)
          refine wp_store_blk 57 _ _ (by rfl) p9 (by rfl) [.int .i64 (runL L m (k + 1)).next, .slice A7 (runL L m (k + 1)).opn.length c7, .slice A8 (runL L m (k + 1)).blks.length c8, .slice A9 (runL L m (k + 1)).txs.length c9] _ 57 (by rfl) ((HK.out.1.turns HTY.out (by simp)).turns DD (by simp)) rfl hz7 (by intro u hu; simp at hu; rcases hu with rfl | rfl | rfl | rfl <;> rfl) (fun X61 hb61 ht61 => ?_)
          have HKN := Lib.hid (show StyR L m y0 X61 p9 (k + 1) from ⟨_, _, _, hb61, (l7.mono (S' := fun b => b ≠ p9) (fun j _ hj => by
            have := HK.out.1.lt; have := HTY.out.size; have := D30.size; omega)).keep (ht61.keepsB _ (by intro x hx _ h; simp at hx; exact h hx)), (HK.out.2.2.1.trans (HTY.out.trans DD (by simp)) (by simp)).trans ht61 (fun x hx => .inl hx)⟩)
          refine hK _ _ (.p trivial) ?_
          clear hK K
          try simp only [sI, sS, sZ]
          refine rkZ ?_
          go_wp2_with fail
          go_roundw
          case rel => exact ⟨k + 1, by omega, by go_num, HKN.out⟩
          case measure => (simp [intOf] <;> omega)
      · obtain rfl : k = N := by omega
        obtain ⟨M, hM⟩ : ∃ M, M = runL L m k := ⟨_, rfl⟩
        obtain ⟨tt, htt⟩ := runL_pre L m k (by have := HNM.out; omega)
        rw [← hM] at bk lk hinv htt
        obtain ⟨nM, hnM⟩ : ∃ n, n = M.blks.length := ⟨_, rfl⟩
        have HNN := Lib.hid hnM
        have hle : nb ≤ nM := by rw [hnM, htt, List.length_append]; have := HNB.out; omega
        have hnM9 : nM ≤ 100000 := by rw [hnM]; exact hinv.1.ok.blks
        have hat : M.blks[nb - 1]? = some bl := by
          rw [htt, List.getElem?_append_left (by have := HNB.out; have := H0.out; omega), HNB.out, HBL.out.1]
          exact List.getElem?_eq_getElem _
        obtain ⟨hlt1, hat1⟩ := List.getElem?_eq_some_iff.1 hat
        obtain ⟨Y, hY⟩ : ∃ q, q = ws.drew := ⟨_, rfl⟩
        have tY : Turns [] ws Y := by rw [hY]; exact (Turns.refl _ _).drew
        have HYY := Lib.hid hY
        have c2 := bk.cell 2
        simp only [List.getElem?_cons_zero, List.getElem?_cons_succ] at c2
        have C2 := cellV tY c2
        clear c2
        rw [← hnM] at C2
        have bD := (H9.out.2.2.1.turns tk (by simp; exact H9.out.1)).turns tY (by simp)
        have CD0 : Y.cell? ⟨p6, 0, none⟩ = some (.int .i64 (nb : Int)) := (bD.cell 0).trans (by rw [HDC.out]; rfl)
        have RH : Y.rangeAt p6 1 (bvs (bloH bl)) := fun j v hv => by rw [Nat.add_comm 1 j]; exact (bD.cell (j + 1)).trans (by rw [HDC.out]; simpa [digCells] using hv)
        obtain ⟨b0, off, cc, hv, _, hb0, rg⟩ := blo_at (lk.keep (tY.keeps0 _)).blks hinv.1.ok.blo (nb - 1) hlt1
        injection hv with e1 e2 e3
        subst e1 e3
        clear e2
        rw [hat1] at rg
        obtain ⟨cs, hcs⟩ : ∃ c, c = bl.cells := ⟨_, rfl⟩
        have hcl : cs.length = 66 := by rw [hcs]; exact Blo.cells_len HBL.out.2.1
        rw [← hcs] at rg
        have HCS := Lib.hid hcs
        have hzb := size_blo cs hcl
        have hzh : (Try.prog.info? 26).map (·.size) = some (bvs (bloH bl)).length := by rw [size_hash, bvs_length, bloH_len]
        have eqb := eqlS (bloH bl) (bloH_len bl)
        have hw1 : IntKind.i64.wrap ((nb : Int) - 1) = ((nb - 1 : Nat) : Int) := by rw [IntWalk.i64_in _ (by omega)]; have := H0.out; omega
        have hk1 : ((nb - 1 : Nat) : Int) < (nM : Int) := by have := H0.out; omega
        have hkk : ((nb : Int) == (nb : Int)) = true := beq_self_eq_true _
        have hll : ¬ ((nM : Int) < (nb : Int)) := by omega
        have HTY := Lib.hid tY
        have HE := Lib.hid (And.intro bk (And.intro lk (And.intro tk (And.intro tw hinv.1))))
        have S0 : Turns [] Y Y := Turns.refl _ _
        clear bk lk tk tw hinv htt hM hnM hat hat1 hlt1 hY tY bD hcs hcl hb0 r1 hz1
        go_upto_region 17 with fail
        refine rk0 (fun W => Turns [] Y W) (fun _ => True) 23 23 ?_
        rw [← HYY.out]
        refine rkA 0 69 1 (v := ?_) ?_ (.mk' S0 trivial) ?_
        rotate_left
        · intro W hS; go_simp; all_goals with_reducible rfl
        try simp only [sI, sS, sZ]
        refine rkA 1 70 3 (v := ?_) ?_ (.mk' S0 trivial) ?_
        rotate_left
        · intro W hS; have c0 := cellL hS C2 (by simp); go_simp; all_goals with_reducible rfl
        try simp only [sI, sS, sZ]
        refine rkA 2 71 7 (v := ?_) ?_ (.mk' S0 trivial) ?_
        rotate_left
        · intro W hS; go_simp; all_goals with_reducible rfl
        try simp only [sI, sS, sZ]
        refine rkA 3 72 15 (v := ?_) ?_ (.mk' S0 trivial) ?_
        rotate_left
        · intro W hS; go_simp; all_goals with_reducible rfl
        try simp only [sI, sS, sZ]
        refine rkA 4 73 31 (v := ?_) ?_ (.mk' S0 trivial) ?_
        rotate_left
        · intro W hS; go_simp; all_goals with_reducible rfl
        try simp only [sI, sS, sZ]
        refine rkA 5 74 63 (v := ?_) ?_ (.mk' S0 trivial) ?_
        rotate_left
        · intro W hS; go_simp; all_goals with_reducible rfl
        try simp only [sI, sS, sZ]
        refine rkA 6 75 127 (v := ?_) ?_ (.mk' S0 trivial) ?_
        rotate_left
        · intro W hS; go_simp; all_goals with_reducible rfl
        try simp only [sI, sS, sZ]
        refine rkA 7 76 255 (v := ?_) ?_ (.mk' S0 trivial) ?_
        rotate_left
        · intro W hS; have c0 := cellL hS C2 (by simp); go_simp; all_goals with_reducible rfl
        try simp only [sI, sS, sZ]
        refine rkA 8 77 511 (v := ?_) ?_ (.mk' S0 trivial) ?_
        rotate_left
        · intro W hS; go_simp; all_goals with_reducible rfl
        try simp only [sI, sS, sZ]
        refine rkA 9 78 1023 (v := ?_) ?_ (.mk' S0 trivial) ?_
        rotate_left
        · intro W hS; go_simp; all_goals with_reducible rfl
        try simp only [sI, sS, sZ]
        refine rkA 10 79 2047 (v := ?_) ?_ (.mk' S0 trivial) ?_
        rotate_left
        · intro W hS; go_simp; all_goals with_reducible rfl
        try simp only [sI, sS, sZ]
        refine rkY 11 80 4095 rfl (yieldsIf_load_mid (by rfl) _ _ rfl b0 (off + (nb - 1) * 66) (by rfl) cs _ (fun W hS => rangeV hS rg) Try.underlying28 rfl hzb) (.mk' S0 trivial) ?_
        try simp only [sI, sS, sZ]
        refine rkA 13 82 12287 (v := ?_) ?_ (.mk' S0 trivial) ?_
        rotate_left
        · intro W hS; go_simp; all_goals with_reducible rfl
        try simp only [sI, sS, sZ]
        refine rkY 14 83 28671 rfl (yieldsIf_load_mid (by rfl) _ _ rfl p6 1 (by rfl) (bvs (bloH bl)) _ (fun W hS => rangeV hS RH) Try.underlying26 rfl hzh) (.mk' S0 trivial) ?_
        try simp only [sI, sS, sZ]
        refine rk1 12 32767 (fun K hK => ?_)
        go_simp
        refine ((HCS.out ▸ CHash_any bl HBL.out.2.1 Y : Calls Try.prog _ #[.agg cs.toArray] Y _)).mono ?_
        rintro e X81 ⟨rfl, D81⟩
        refine hK _ _ (.mk' ((Turns.refl [] Y).trans D81 (by simp)) trivial) ?_
        clear hK K
        try simp only [sI, sS, sZ]
        refine rkA 15 84 65535 (v := ?_) ?_ (.mk' ((Turns.refl [] Y).trans D81 (by simp)) trivial) ?_
        rotate_left
        · intro W hS; go_simp; all_goals with_reducible rfl
        try simp only [sI, sS, sZ]
        refine rkA 16 85 131071 (v := ?_) ?_ (.mk' ((Turns.refl [] Y).trans D81 (by simp)) trivial) ?_
        rotate_left
        · intro W hS; go_simp; all_goals with_reducible rfl
        try simp only [sI, sS, sZ]
        refine rkA 17 86 262143 (v := ?_) ?_ (.mk' ((Turns.refl [] Y).trans D81 (by simp)) trivial) ?_
        rotate_left
        · intro W hS; go_simp; all_goals with_reducible rfl
        try simp only [sI, sS, sZ]
        refine rkA 18 87 524287 (v := ?_) ?_ (.mk' ((Turns.refl [] Y).trans D81 (by simp)) trivial) ?_
        rotate_left
        · intro W hS; go_simp; all_goals with_reducible rfl
        try simp only [sI, sS, sZ]
        refine rkA 19 88 1048575 (v := ?_) ?_ (.mk' ((Turns.refl [] Y).trans D81 (by simp)) trivial) ?_
        rotate_left
        · intro W hS; have c0 := cellL hS CD0 (by simp); go_simp; all_goals with_reducible rfl
        try simp only [sI, sS, sZ]
        refine rkA 20 89 2097151 (v := ?_) ?_ (.mk' ((Turns.refl [] Y).trans D81 (by simp)) trivial) ?_
        rotate_left
        · intro W hS; go_simp; all_goals with_reducible rfl
        try simp only [sI, sS, sZ]
        refine rkA 21 90 4194303 (v := ?_) ?_ (.mk' ((Turns.refl [] Y).trans D81 (by simp)) trivial) ?_
        rotate_left
        · intro W hS; go_simp; all_goals with_reducible rfl
        try simp only [sI, sS, sZ]
        refine rkA 22 91 8388607 (v := ?_) ?_ (.mk' ((Turns.refl [] Y).trans D81 (by simp)) trivial) ?_
        rotate_left
        · intro W hS; go_simp; all_goals with_reducible rfl
        try simp only [sI, sS, sZ]
        refine rkZ ?_
        have HEND := Lib.hid (HTY.out.trans ((Turns.refl [] Y).trans D81 (by simp)) (by simp))
        clear C2 CD0 RH rg hzb hzh eqb hw1 hk1 hkk hll S0
        go_wp2_with fail
        go_loopw [11] (fun i wt => ∃ j : Nat, j ≤ nM ∧ i = .int .i64 j ∧ Turns [] ws wt) (fun i _ => nM - (intOf i).toNat)
        case atStart => exact ⟨0, by omega, rfl, HEND.out⟩
        case round =>
          rename World => wt
          obtain ⟨j, hj, rfl, tj⟩ := hrel
          have bj9 := HE.out.1.turns tj (by simp)
          have c2 := bj9.cell 2
          simp only [List.getElem?_cons_zero, List.getElem?_cons_succ] at c2
          rw [← HNN.out] at c2
          by_cases hlt2 : j < nM
          · have hji : (j : Int) < (nM : Int) := by omega
            have hjl : j < M.blks.length := by have := HNN.out; omega
            have hjt : j < M.txs.length := by have := HE.out.2.2.2.2.bt; omega
            have hlk := HE.out.2.2.2.2.link j hjl hjt
            obtain ⟨zz, hzz⟩ : ∃ z, z = bvs (zeros 32) := ⟨_, rfl⟩
            have hzl : zz.length = 32 := by rw [hzz, bvs_length, zeros_length]
            have hz32 := zero_hash
            have b12 := Blk.new wt zz 26
            have t12 : Turns [] wt (wt.alloc (.cells zz.toArray 26)) := (Turns.refl _ _).alloc _
            rw [← hzz] at hz32
            have HZ0 := Lib.hid (And.intro (show zz.length = (bvs (zeros 32)).length by rw [hzz]) (show (Try.prog.info? 26).map (·.size) = some (bvs (zeros 32)).length by rw [size_hash, zeros32_len]))
            have HZ := Lib.hid (And.intro hzz (And.intro (show (Try.prog.info? 26).map (·.size) = some zz.length by rw [size_hash, hzl]) (And.intro (show ∀ u ∈ zz, u.oneCell' = true by rw [hzz]; exact bvs_one _) hzl)))
            have HB12 := Lib.hid (And.intro b12 t12)
            have HLK := Lib.hid hlk
            have HTJ := Lib.hid tj
            clear hzz hzl b12 t12 hlk tj bj9
            go_upto_if 101 with (first
              | (refine wpList_alloc_arr (o := ⟨some 12, _, _, _, _, _⟩) rfl 26 rfl zz.toArray hz32 ?_)
              | (refine wpList_store_blk rfl 26 (.tmp 12) (.tmp 99) rfl wt.heap.size (by kernel_rfl) (bvs (zeros 32)) zz 26 (by kernel_rfl) HB12.out.1 HZ0.out.1 HZ0.out.2 (bvs_one _) (fun w9 hb9 ht9 hs9 => ?_); have HQ12 := Lib.hid (And.intro hb9 ht9); clear hb9 ht9 hs9)
              | fail)
            try simp only [Act.put, List.setIfInBounds_toArray, List.set_cons_succ, List.set_cons_zero]
            obtain ⟨p12, hp12⟩ : ∃ x, x = wt.heap.size := ⟨_, rfl⟩
            rw [← hp12] at HQ12 ⊢
            rw [← HZ.out.1] at HQ12
            have t12 : Turns [] wt w9 := HB12.out.2.trans HQ12.out.2 (by intro x hx; simp at hx; exact .inr (by omega))
            have HT12 := Lib.hid t12
            have c2 := cellV t12 c2
            have HPV := Lib.hid hp12
            obtain ⟨bk, hbk⟩ : ∃ b, b = M.blks[j] := ⟨_, rfl⟩
            obtain ⟨xs, hxs⟩ : ∃ x, x = M.txs[j] := ⟨_, rfl⟩
            have hck := HE.out.2.2.2.2.ok.blo _ (List.getElem_mem hjl)
            have hxo := HE.out.2.2.2.2.ok.tt _ (List.getElem_mem hjt)
            have hlk := HLK.out
            rw [← hbk, ← hxs] at hlk
            rw [← hbk] at hck
            rw [← hxs] at hxo
            have HLK := Lib.hid hlk
            have HCK := Lib.hid (And.intro hck (And.intro hxo (And.intro hbk hxs)))
            clear t12 hp12 hlk hck hxo hbk hxs hz32
            go_cut [] (fun wy => Blk wy p12 (bvs bk.prev) 26 ∧ Turns [] wt wy)
            case first =>
              rcases Nat.eq_zero_or_pos j with h0 | h0
              · have hj0 : ¬ (0 : Int) < (j : Int) := by omega
                have HPZ := Lib.hid (show bvs bk.prev = zz by rw [HLK.out.2.2.2.2.1 h0, HZ.out.1])
                clear h0
                go_wp2_with fail
                go_meet
                exact ⟨by rw [HPZ.out]; exact HQ12.out.1, HT12.out⟩
              · have hj0 : (0 : Int) < (j : Int) := by omega
                have hjm : j - 1 < M.blks.length := by omega
                have hpe := HLK.out.2.2.2.2.2 h0
                obtain ⟨b0, off, cc, hv, _, hb0, rg⟩ := blo_at ((HE.out.2.1.keep (HTJ.out.keeps0 _)).keep (HT12.out.keeps0 _)).blks HE.out.2.2.2.2.ok.blo (j - 1) hjm
                injection hv with e1 e2 e3
                cases e1
                cases e3
                clear e2
                have hck := HE.out.2.2.2.2.ok.blo _ (List.getElem_mem hjm)
                obtain ⟨bp, hbp⟩ : ∃ b, b = M.blks[j - 1] := ⟨_, rfl⟩
                rw [← hbp] at rg hck hpe
                obtain ⟨cs, hcs⟩ : ∃ c, c = bp.cells := ⟨_, rfl⟩
                have hcl : cs.length = 66 := by rw [hcs]; exact Blo.cells_len hck
                rw [← hcs] at rg
                have hzq := size_blo cs hcl
                obtain ⟨pv, hpv⟩ : ∃ x, x = bvs bk.prev := ⟨_, rfl⟩
                have hpl : pv.length = 32 := by rw [hpv, bvs_length, HCK.out.1.prev]
                have CH : Calls Try.prog 22 #[.agg cs.toArray] w9 fun e w' => e = .returned (.agg pv.toArray) ∧ Turns [] w9 w' := by rw [hcs, hpv, hpe]; exact CHash_any bp hck w9
                have CH := Lib.hid CH
                have HPL := Lib.hid (And.intro (show zz.length = pv.length by rw [hpl, HZ.out.2.2.2]) (And.intro (show (Try.prog.info? 26).map (·.size) = some pv.length by rw [size_hash, hpl]) (show ∀ u ∈ pv, u.oneCell' = true by rw [hpv]; exact bvs_one _)))
                have hw2 : IntKind.i64.wrap ((j : Int) - 1) = ((j - 1 : Nat) : Int) := by rw [IntWalk.i64_in _ (by omega)]; omega
                have hk2 : ((j - 1 : Nat) : Int) < (nM : Int) := by omega
                have HPW := Lib.hid hpv
                clear h0 hjm hpe hb0 hck hbp hcs hcl hpv hpl
                go_wp2_with (first
                  | (refine wpList_load_mid rfl 28 (.tmp 106) rfl b0 (off + (j - 1) * 66) rfl _ _ rg Try.underlying28 rfl hzq ?_)
                  | fail)
                refine CH.out.mono ?_
                rintro e x8 ⟨rfl, t8⟩
                have HB8 := Lib.hid (And.intro (HQ12.out.1.turns t8 (by simp)) t8)
                clear t8 CH
                go_wp2_with (first
                  | (refine wpList_store_blk rfl 26 (.tmp 12) (.tmp 108) rfl p12 (by kernel_rfl) pv zz 26 (by kernel_rfl) HB8.out.1 HPL.out.1 HPL.out.2.1 HPL.out.2.2 (fun w10 hb10 ht10 hs10 => ?_); have HQ10 := Lib.hid (And.intro hb10 ht10); clear hb10 ht10 hs10)
                  | fail)
                go_meet
                exact ⟨by rw [← HPW.out]; exact HQ10.out.1, (HT12.out.trans HB8.out.2 (by simp)).trans HQ10.out.2 (by intro x hx; simp at hx; exact .inr (by have := HPV.out; omega))⟩
            case rest =>
              generalize wc = wy at *
              obtain ⟨b12, ty⟩ := hcut
              clear c2
              obtain ⟨V, hV⟩ : ∃ q, q = wy.drew := ⟨_, rfl⟩
              have tV : Turns [] wy V := by rw [hV]; exact (Turns.refl _ _).drew
              have HVV := Lib.hid hV
              have tsV : Turns [] ws V := (HTJ.out.trans ty (by simp)).trans tV (by simp)
              have R12 := (b12.turns tV (by simp)).all
              have b9V := HE.out.1.turns tsV (by simp)
              have C2 := b9V.cell 2
              have C3 := b9V.cell 3
              simp only [List.getElem?_cons_zero, List.getElem?_cons_succ] at C2 C3
              rw [← HNN.out] at C2
              obtain ⟨nT, hnT⟩ : ∃ n, n = M.txs.length := ⟨_, rfl⟩
              rw [← hnT] at C3
              have hjT : (j : Int) < (nT : Int) := by omega
              have lV := HE.out.2.1.keep (tsV.keeps0 _)
              obtain ⟨b0, off, cc, hv, _, hb0, rg⟩ := blo_at lV.blks HE.out.2.2.2.2.ok.blo j hjl
              injection hv with e1 e2 e3
              cases e1
              cases e3
              clear e2
              obtain ⟨b1, off1, cc1, cs1, hv1, _, hb1, hcl1, rgx, hRx⟩ := lV.txs.at_ (by omega) j hjt
              injection hv1 with f1 f2 f3
              subst f1 f3
              clear f2
              rw [← HCK.out.2.2.1] at rg
              rw [← HCK.out.2.2.2] at hRx
              obtain ⟨CN, RP, RR, CC⟩ := blo_parts HCK.out.1 rg
              obtain ⟨vx, rfl, dx⟩ := hRx
              obtain ⟨AX, cX, rfl, _⟩ := dx.form
              have CX := rgx 0 _ rfl
              rw [Nat.add_zero, Nat.mul_one] at CX
              obtain ⟨tl, htl⟩ : ∃ n, n = xs.length := ⟨_, rfl⟩
              have hl4 := HLK.out.2.2.2.1
              rw [HLK.out.1] at CN
              rw [HLK.out.2.1, ← htl] at CC
              rw [← htl] at CX hl4
              have HX := Lib.hid (And.intro htl (And.intro HCK.out.2.1 dx))
              have HRT := Lib.hid HLK.out.2.2.1
              have hkn : ((j : Int) + 1 != (j : Int) + 1) = false := by simp
              have hwj : IntKind.i64.wrap ((j : Int) + 1) = (j : Int) + 1 := IntWalk.i64_in _ (by omega)
              have hkt : ((tl : Int) != (tl : Int)) = false := by simp
              have hl1 : ¬ (tl : Int) < 1 := by omega
              have hl5 : ¬ (4 : Int) < (tl : Int) := by omega
              have eqp := eqlS bk.prev HCK.out.1.prev
              have eqr := eqlS bk.root HCK.out.1.root
              have hzp : (Try.prog.info? 26).map (·.size) = some (bvs bk.prev).length := by rw [size_hash, bvs_length, HCK.out.1.prev]
              have hzr : (Try.prog.info? 26).map (·.size) = some (bvs bk.root).length := by rw [size_hash, bvs_length, HCK.out.1.root]
              have HTV := Lib.hid tsV
              have S0 : Turns [] V V := Turns.refl _ _
              clear b12 ty hV tV tsV b9V hnT lV hb0 hb1 hcl1 rg rgx dx htl
              go_upto_region 25 with fail
              refine rk0 (fun W => Turns [] V W) (fun _ => True) 68 68 ?_
              rw [← HVV.out]
              refine rkA 0 109 1 (v := ?_) ?_ (.mk' S0 trivial) ?_
              rotate_left
              · intro W hS; go_simp; all_goals with_reducible rfl
              try simp only [sI, sS, sZ]
              refine rkA 1 110 3 (v := ?_) ?_ (.mk' S0 trivial) ?_
              rotate_left
              · intro W hS; have c0 := cellL hS C2 (by simp); go_simp; all_goals with_reducible rfl
              try simp only [sI, sS, sZ]
              refine rkA 2 111 7 (v := ?_) ?_ (.mk' S0 trivial) ?_
              rotate_left
              · intro W hS; go_simp; all_goals with_reducible rfl
              try simp only [sI, sS, sZ]
              refine rkA 3 112 15 (v := ?_) ?_ (.mk' S0 trivial) ?_
              rotate_left
              · intro W hS; go_simp; all_goals with_reducible rfl
              try simp only [sI, sS, sZ]
              refine rkA 4 113 31 (v := ?_) ?_ (.mk' S0 trivial) ?_
              rotate_left
              · intro W hS; go_simp; all_goals with_reducible rfl
              try simp only [sI, sS, sZ]
              refine rkA 5 114 63 (v := ?_) ?_ (.mk' S0 trivial) ?_
              rotate_left
              · intro W hS; have c0 := cellL hS CN (by simp); go_simp; all_goals with_reducible rfl
              try simp only [sI, sS, sZ]
              refine rkA 6 115 127 (v := ?_) ?_ (.mk' S0 trivial) ?_
              rotate_left
              · intro W hS; go_simp; all_goals with_reducible rfl
              try simp only [sI, sS, sZ]
              refine rkA 7 116 255 (v := ?_) ?_ (.mk' S0 trivial) ?_
              rotate_left
              · intro W hS; go_simp; all_goals with_reducible rfl
              try simp only [sI, sS, sZ]
              refine rkA 8 117 511 (v := ?_) ?_ (.mk' S0 trivial) ?_
              rotate_left
              · intro W hS; go_simp; all_goals with_reducible rfl
              try simp only [sI, sS, sZ]
              refine rkA 9 118 1023 (v := ?_) ?_ (.mk' S0 trivial) ?_
              rotate_left
              · intro W hS; go_simp; all_goals with_reducible rfl
              try simp only [sI, sS, sZ]
              refine rkA 10 119 2047 (v := ?_) ?_ (.mk' S0 trivial) ?_
              rotate_left
              · intro W hS; go_simp; all_goals with_reducible rfl
              try simp only [sI, sS, sZ]
              refine rkA 11 120 4095 (v := ?_) ?_ (.mk' S0 trivial) ?_
              rotate_left
              · intro W hS; have c0 := cellL hS C2 (by simp); go_simp; all_goals with_reducible rfl
              try simp only [sI, sS, sZ]
              refine rkA 12 121 8191 (v := ?_) ?_ (.mk' S0 trivial) ?_
              rotate_left
              · intro W hS; go_simp; all_goals with_reducible rfl
              try simp only [sI, sS, sZ]
              refine rkA 13 122 16383 (v := ?_) ?_ (.mk' S0 trivial) ?_
              rotate_left
              · intro W hS; go_simp; all_goals with_reducible rfl
              try simp only [sI, sS, sZ]
              refine rkA 14 123 32767 (v := ?_) ?_ (.mk' S0 trivial) ?_
              rotate_left
              · intro W hS; go_simp; all_goals with_reducible rfl
              try simp only [sI, sS, sZ]
              refine rkY 15 124 65535 rfl (yieldsIf_load_mid (by rfl) _ _ rfl b0 (off + j * 66 + 1) (by rfl) (bvs bk.prev) _ (fun W hS => rangeV hS RP) Try.underlying26 rfl hzp) (.mk' S0 trivial) ?_
              try simp only [sI, sS, sZ]
              refine rkY 16 125 131071 rfl (yieldsIf_load_mid (by rfl) _ _ rfl p12 0 (by rfl) (bvs bk.prev) _ (fun W hS => rangeV hS R12) Try.underlying26 rfl hzp) (.mk' S0 trivial) ?_
              try simp only [sI, sS, sZ]
              refine rkA 17 126 262143 (v := ?_) ?_ (.mk' S0 trivial) ?_
              rotate_left
              · intro W hS; go_simp; all_goals with_reducible rfl
              try simp only [sI, sS, sZ]
              refine rkA 18 127 524287 (v := ?_) ?_ (.mk' S0 trivial) ?_
              rotate_left
              · intro W hS; go_simp; all_goals with_reducible rfl
              try simp only [sI, sS, sZ]
              refine rkA 19 128 1048575 (v := ?_) ?_ (.mk' S0 trivial) ?_
              rotate_left
              · intro W hS; go_simp; all_goals with_reducible rfl
              try simp only [sI, sS, sZ]
              refine rkA 20 129 2097151 (v := ?_) ?_ (.mk' S0 trivial) ?_
              rotate_left
              · intro W hS; go_simp; all_goals with_reducible rfl
              try simp only [sI, sS, sZ]
              refine rkA 21 130 4194303 (v := ?_) ?_ (.mk' S0 trivial) ?_
              rotate_left
              · intro W hS; have c0 := cellL hS C2 (by simp); go_simp; all_goals with_reducible rfl
              try simp only [sI, sS, sZ]
              refine rkA 22 131 8388607 (v := ?_) ?_ (.mk' S0 trivial) ?_
              rotate_left
              · intro W hS; go_simp; all_goals with_reducible rfl
              try simp only [sI, sS, sZ]
              refine rkA 23 132 16777215 (v := ?_) ?_ (.mk' S0 trivial) ?_
              rotate_left
              · intro W hS; go_simp; all_goals with_reducible rfl
              try simp only [sI, sS, sZ]
              refine rkA 24 133 33554431 (v := ?_) ?_ (.mk' S0 trivial) ?_
              rotate_left
              · intro W hS; go_simp; all_goals with_reducible rfl
              try simp only [sI, sS, sZ]
              refine rkA 25 134 67108863 (v := ?_) ?_ (.mk' S0 trivial) ?_
              rotate_left
              · intro W hS; have c0 := cellL hS CC (by simp); go_simp; all_goals with_reducible rfl
              try simp only [sI, sS, sZ]
              refine rkA 26 135 134217727 (v := ?_) ?_ (.mk' S0 trivial) ?_
              rotate_left
              · intro W hS; go_simp; all_goals with_reducible rfl
              try simp only [sI, sS, sZ]
              refine rkA 27 136 268435455 (v := ?_) ?_ (.mk' S0 trivial) ?_
              rotate_left
              · intro W hS; have c0 := cellL hS C3 (by simp); go_simp; all_goals with_reducible rfl
              try simp only [sI, sS, sZ]
              refine rkA 28 137 536870911 (v := ?_) ?_ (.mk' S0 trivial) ?_
              rotate_left
              · intro W hS; go_simp; all_goals with_reducible rfl
              try simp only [sI, sS, sZ]
              refine rkA 29 138 1073741823 (v := ?_) ?_ (.mk' S0 trivial) ?_
              rotate_left
              · intro W hS; go_simp; all_goals with_reducible rfl
              try simp only [sI, sS, sZ]
              refine rkA 30 139 2147483647 (v := ?_) ?_ (.mk' S0 trivial) ?_
              rotate_left
              · intro W hS; have c0 := cellL hS CX (by simp); go_simp; all_goals with_reducible rfl
              try simp only [sI, sS, sZ]
              refine rkA 31 140 4294967295 (v := ?_) ?_ (.mk' S0 trivial) ?_
              rotate_left
              · intro W hS; go_simp; all_goals with_reducible rfl
              try simp only [sI, sS, sZ]
              refine rkA 32 141 8589934591 (v := ?_) ?_ (.mk' S0 trivial) ?_
              rotate_left
              · intro W hS; go_simp; all_goals with_reducible rfl
              try simp only [sI, sS, sZ]
              refine rkA 33 142 17179869183 (v := ?_) ?_ (.mk' S0 trivial) ?_
              rotate_left
              · intro W hS; go_simp; all_goals with_reducible rfl
              try simp only [sI, sS, sZ]
              refine rkA 34 143 34359738367 (v := ?_) ?_ (.mk' S0 trivial) ?_
              rotate_left
              · intro W hS; go_simp; all_goals with_reducible rfl
              try simp only [sI, sS, sZ]
              refine rkA 35 144 68719476735 (v := ?_) ?_ (.mk' S0 trivial) ?_
              rotate_left
              · intro W hS; go_simp; all_goals with_reducible rfl
              try simp only [sI, sS, sZ]
              refine rkA 36 145 137438953471 (v := ?_) ?_ (.mk' S0 trivial) ?_
              rotate_left
              · intro W hS; have c0 := cellL hS C2 (by simp); go_simp; all_goals with_reducible rfl
              try simp only [sI, sS, sZ]
              refine rkA 37 146 274877906943 (v := ?_) ?_ (.mk' S0 trivial) ?_
              rotate_left
              · intro W hS; go_simp; all_goals with_reducible rfl
              try simp only [sI, sS, sZ]
              refine rkA 38 147 549755813887 (v := ?_) ?_ (.mk' S0 trivial) ?_
              rotate_left
              · intro W hS; go_simp; all_goals with_reducible rfl
              try simp only [sI, sS, sZ]
              refine rkA 39 148 1099511627775 (v := ?_) ?_ (.mk' S0 trivial) ?_
              rotate_left
              · intro W hS; go_simp; all_goals with_reducible rfl
              try simp only [sI, sS, sZ]
              refine rkA 40 149 2199023255551 (v := ?_) ?_ (.mk' S0 trivial) ?_
              rotate_left
              · intro W hS; have c0 := cellL hS CC (by simp); go_simp; all_goals with_reducible rfl
              try simp only [sI, sS, sZ]
              refine rkA 41 150 4398046511103 (v := ?_) ?_ (.mk' S0 trivial) ?_
              rotate_left
              · intro W hS; go_simp; all_goals with_reducible rfl
              try simp only [sI, sS, sZ]
              refine rkA 42 151 8796093022207 (v := ?_) ?_ (.mk' S0 trivial) ?_
              rotate_left
              · intro W hS; go_simp; all_goals with_reducible rfl
              try simp only [sI, sS, sZ]
              refine rkA 43 152 17592186044415 (v := ?_) ?_ (.mk' S0 trivial) ?_
              rotate_left
              · intro W hS; go_simp; all_goals with_reducible rfl
              try simp only [sI, sS, sZ]
              refine rkA 44 153 35184372088831 (v := ?_) ?_ (.mk' S0 trivial) ?_
              rotate_left
              · intro W hS; go_simp; all_goals with_reducible rfl
              try simp only [sI, sS, sZ]
              refine rkA 45 154 70368744177663 (v := ?_) ?_ (.mk' S0 trivial) ?_
              rotate_left
              · intro W hS; have c0 := cellL hS C2 (by simp); go_simp; all_goals with_reducible rfl
              try simp only [sI, sS, sZ]
              refine rkA 46 155 140737488355327 (v := ?_) ?_ (.mk' S0 trivial) ?_
              rotate_left
              · intro W hS; go_simp; all_goals with_reducible rfl
              try simp only [sI, sS, sZ]
              refine rkA 47 156 281474976710655 (v := ?_) ?_ (.mk' S0 trivial) ?_
              rotate_left
              · intro W hS; go_simp; all_goals with_reducible rfl
              try simp only [sI, sS, sZ]
              refine rkA 48 157 562949953421311 (v := ?_) ?_ (.mk' S0 trivial) ?_
              rotate_left
              · intro W hS; go_simp; all_goals with_reducible rfl
              try simp only [sI, sS, sZ]
              refine rkA 49 158 1125899906842623 (v := ?_) ?_ (.mk' S0 trivial) ?_
              rotate_left
              · intro W hS; have c0 := cellL hS CC (by simp); go_simp; all_goals with_reducible rfl
              try simp only [sI, sS, sZ]
              refine rkA 50 159 2251799813685247 (v := ?_) ?_ (.mk' S0 trivial) ?_
              rotate_left
              · intro W hS; go_simp; all_goals with_reducible rfl
              try simp only [sI, sS, sZ]
              refine rkA 51 160 4503599627370495 (v := ?_) ?_ (.mk' S0 trivial) ?_
              rotate_left
              · intro W hS; go_simp; all_goals with_reducible rfl
              try simp only [sI, sS, sZ]
              refine rkA 52 161 9007199254740991 (v := ?_) ?_ (.mk' S0 trivial) ?_
              rotate_left
              · intro W hS; go_simp; all_goals with_reducible rfl
              try simp only [sI, sS, sZ]
              refine rkA 53 162 18014398509481983 (v := ?_) ?_ (.mk' S0 trivial) ?_
              rotate_left
              · intro W hS; go_simp; all_goals with_reducible rfl
              try simp only [sI, sS, sZ]
              refine rkA 54 163 36028797018963967 (v := ?_) ?_ (.mk' S0 trivial) ?_
              rotate_left
              · intro W hS; have c0 := cellL hS C2 (by simp); go_simp; all_goals with_reducible rfl
              try simp only [sI, sS, sZ]
              refine rkA 55 164 72057594037927935 (v := ?_) ?_ (.mk' S0 trivial) ?_
              rotate_left
              · intro W hS; go_simp; all_goals with_reducible rfl
              try simp only [sI, sS, sZ]
              refine rkA 56 165 144115188075855871 (v := ?_) ?_ (.mk' S0 trivial) ?_
              rotate_left
              · intro W hS; go_simp; all_goals with_reducible rfl
              try simp only [sI, sS, sZ]
              refine rkA 57 166 288230376151711743 (v := ?_) ?_ (.mk' S0 trivial) ?_
              rotate_left
              · intro W hS; go_simp; all_goals with_reducible rfl
              try simp only [sI, sS, sZ]
              refine rkY 58 167 576460752303423487 rfl (yieldsIf_load_mid (by rfl) _ _ rfl b0 (off + j * 66 + 33) (by rfl) (bvs bk.root) _ (fun W hS => rangeV hS RR) Try.underlying26 rfl hzr) (.mk' S0 trivial) ?_
              try simp only [sI, sS, sZ]
              refine rkA 59 168 1152921504606846975 (v := ?_) ?_ (.mk' S0 trivial) ?_
              rotate_left
              · intro W hS; go_simp; all_goals with_reducible rfl
              try simp only [sI, sS, sZ]
              refine rkA 60 169 2305843009213693951 (v := ?_) ?_ (.mk' S0 trivial) ?_
              rotate_left
              · intro W hS; have c0 := cellL hS C3 (by simp); go_simp; all_goals with_reducible rfl
              try simp only [sI, sS, sZ]
              refine rkA 61 170 4611686018427387903 (v := ?_) ?_ (.mk' S0 trivial) ?_
              rotate_left
              · intro W hS; go_simp; all_goals with_reducible rfl
              try simp only [sI, sS, sZ]
              refine rkA 62 171 9223372036854775807 (v := ?_) ?_ (.mk' S0 trivial) ?_
              rotate_left
              · intro W hS; go_simp; all_goals with_reducible rfl
              try simp only [sI, sS, sZ]
              refine rkA 63 172 18446744073709551615 (v := ?_) ?_ (.mk' S0 trivial) ?_
              rotate_left
              · intro W hS; have c0 := cellL hS CX (by simp); go_simp; all_goals with_reducible rfl
              try simp only [sI, sS, sZ]
              refine rk1 64 36893488147419103231 (fun K hK => ?_)
              go_simp
              refine (by have h := Entries_any xs (by have := HX.out.1; omega) HX.out.2.1 (.slice AX xs.length cX) (fun b => b ≠ p9) V (HX.out.2.2.keep TxR.lasts ((Turns.refl [] V).keeps0 _)); rw [← HX.out.1] at h; exact h : Calls Try.prog _ #[.slice AX tl cX] V fun e w' => ∃ A' c', e = .returned (.slice A' tl c') ∧ HMine V w' (.slice A' tl c') (xs.map entry)).mono ?_
              rintro e X173 ⟨A16, c16, rfl, m16⟩
              have D173 := m16.turns
              refine hK _ _ (.mk' ((Turns.refl [] V).trans D173 (by simp)) trivial) ?_
              clear hK K
              try simp only [sI, sS, sZ]
              refine rk1 65 73786976294838206463 (fun K hK => ?_)
              go_simp
              refine (refRoot_any tl (xs.map entry) tl (by rw [List.length_map]; exact HX.out.1.symm) (Nat.le_refl _) (by omega) A16 c16 _ X173 ((m16.on (Turns.refl [] X173)).hs) (Nat.le_refl _)).mono ?_
              rintro e X174 ⟨rfl, D174⟩
              rw [← HRT.out]
              refine hK _ _ (.mk' (((Turns.refl [] V).trans D173 (by simp)).trans D174 (by simp)) trivial) ?_
              clear hK K
              try simp only [sI, sS, sZ]
              refine rkA 66 175 147573952589676412927 (v := ?_) ?_ (.mk' (((Turns.refl [] V).trans D173 (by simp)).trans D174 (by simp)) trivial) ?_
              rotate_left
              · intro W hS; go_simp; all_goals with_reducible rfl
              try simp only [sI, sS, sZ]
              refine rkA 67 176 295147905179352825855 (v := ?_) ?_ (.mk' (((Turns.refl [] V).trans D173 (by simp)).trans D174 (by simp)) trivial) ?_
              rotate_left
              · intro W hS; go_simp; all_goals with_reducible rfl
              try simp only [sI, sS, sZ]
              refine rkZ ?_
              have HEND2 := Lib.hid (HTV.out.trans (((Turns.refl [] V).trans D173 (by simp)).trans D174 (by simp)) (by simp))
              clear C2 C3 CN CC CX RP RR R12 hkn hwj hkt hl1 hl5 eqp eqr hzp hzr S0
              go_wp2_with fail
              go_roundw
              case rel => exact ⟨j + 1, by omega, by go_num, HEND2.out⟩
              case measure => (simp [intOf] <;> omega)
          · obtain rfl : j = nM := by omega
            have HFF := Lib.hid (below_of' (HE.out.2.2.2.1.trans tj (by simp)))
            clear tj bj9
            go_wp2_with fail
            go_ret
            exact ⟨rfl, HFF.out⟩
end Go.Proofs.Ytoahnhphfabajaa
