/- ReceiptAll, walked. -/
import Derived.Test.YtoahnhphfabajaaRc5
namespace Go.Proofs.Ytoahnhphfabajaa
open Go.RowKit
set_option linter.unusedVariables false
set_option maxRecDepth 10000
set_option linter.unusedSimpArgs false
set_option linter.unnecessarySimpa false

/-- What Make says of a transaction that stands in a block. -/
theorem MkP.here {L : Led} (hI : Inv L) {i k s : Nat} {xs : List Txn} {t : Txn} (h1 : L.txs[i]? = some xs) (h2 : xs[k]? = some t) (hs : s < t.chs.length) {r : Rec} {er : Int} (h : MkP L t.id s r er) :
    er = 0 ∧ ∃ bl c, L.blks[i]? = some bl ∧ t.chs[s]? = some c ∧ r = mkRec t xs bl k s c := by
  rcases h with ⟨h0, a, b, sn, xs', t', bl, c, g1, g2, g3, g4, g5, g6, g7⟩ | ⟨_, _, h | h | ⟨a, b, xs', t', g1, g2, g5, g6⟩⟩
  · obtain ⟨rfl, rfl⟩ := hI.uniq h1 h2 g1 g2 g5.symm
    rw [h1] at g1; injection g1 with g1; subst g1
    rw [h2] at g2; injection g2 with g2; subst g2
    obtain rfl : s = sn := by omega
    exact ⟨h0, bl, c, g3, g4, g7⟩
  · exact absurd rfl (h i k xs t h1 h2)
  · omega
  · obtain ⟨rfl, rfl⟩ := hI.uniq h1 h2 g1 g2 g5.symm
    rw [h1] at g1; injection g1 with g1; subst g1
    rw [h2] at g2; injection g2 with g2; subst g2
    omega
theorem MkP.past {L : Led} (hI : Inv L) {i k : Nat} {xs : List Txn} {t : Txn} (h1 : L.txs[i]? = some xs) (h2 : xs[k]? = some t) {r : Rec} {er : Int} (h : MkP L t.id (t.chs.length : Nat) r er) : er = 2 := by
  rcases h with ⟨h0, a, b, sn, xs', t', bl, c, g1, g2, g3, g4, g5, g6, g7⟩ | ⟨h, _⟩
  · obtain ⟨rfl, rfl⟩ := hI.uniq h1 h2 g1 g2 g5.symm
    rw [h1] at g1; injection g1 with g1; subst g1
    rw [h2] at g2; injection g2 with g2; subst g2
    have := (List.getElem?_eq_some_iff.1 g4).1
    omega
  · exact h
theorem MkP.open_ {L : Led} (hI : Inv L) {k : Nat} {t : Txn} (h1 : L.opn[k]? = some t) {seq : Int} {r : Rec} {er : Int} (h : MkP L t.id seq r er) : er = 2 := by
  rcases h with ⟨h0, a, b, sn, xs', t', bl, c, g1, g2, g3, g4, g5, g6, g7⟩ | ⟨h, _⟩
  · have p := hI.pos g1 g2
    obtain ⟨hk, he⟩ := List.getElem?_eq_some_iff.1 h1
    have := hI.id (L.txs.flatten.length + k) (by rw [List.length_append]; omega)
    rw [List.getElem_append_right (by omega)] at this
    simp only [Nat.add_sub_cancel_left] at this
    rw [he] at this
    omega
  · exact h
set_option maxRecDepth 100000 in
set_option maxHeartbeats 16000000 in
theorem ReceiptAll_walk (l : List Stp) (v : Value) (w0 : World) (hd : Deep StpR w0 (fun _ => True) 4 v l) (hf : ∀ s ∈ l, s.fits) :
    Calls Try.prog 9 #[v] w0 fun e w' => e = .returned (.bool true) ∧ Below w0.heap.size w0 w' := by
  obtain ⟨A, c, rfl, _⟩ := hd.form
  have KN := Lib.hid (known15_any w0)
  have HD := Lib.hid (And.intro hd hf)
  clear hd hf
  obtain ⟨n, hn⟩ : ∃ n, n = l.length := ⟨_, rfl⟩
  have HNL := Lib.hid hn
  rw [← hn]
  clear hn
  obtain ⟨zz, hzz⟩ : ∃ z, z = rz := ⟨_, rfl⟩
  have hz81 := zero_rec
  rw [← hzz] at hz81
  have HZL := Lib.hid (show zz.length = 75 by rw [hzz]; exact rz_len)
  clear hzz
  go_enter Try.func9, Try.ntmps9
  go_wp2_with fail
  refine KN.out.mono ?_
  rintro e w1 ⟨rfl, t1⟩
  have hd1 := HD.out.1.keep StpR.lasts (t1.keeps0 _)
  have FW := Lib.hid (by have h := Few14_any l (.slice A l.length c) _ w1 hd1 HD.out.2; rw [← HNL.out] at h; exact h : Calls Try.prog 26 #[.slice A n c] w1 fun e w' => e = .returned (.bool (fewSs l)) ∧ Turns [] w1 w')
  have H1 := Lib.hid (And.intro t1 hd1)
  clear t1 hd1 KN
  go_wp2_with fail
  refine FW.out.mono ?_
  rintro e w2 ⟨rfl, t2⟩
  have t02 := Lib.hid (H1.out.1.trans t2 (by simp))
  have HD2 := Lib.hid (H1.out.2.keep StpR.lasts (t2.keeps0 _))
  clear t2 FW
  cases hfew : fewSs l
  · go_wp2_with fail
    go_ret
    exact ⟨rfl, below_of' t02.out⟩
  have BD := Lib.hid (by have h := Build_any l (.slice A l.length c) _ w2 HD2.out HD.out.2 hfew; rw [← HNL.out] at h; exact h : Calls Try.prog 27 #[.slice A n c] w2 _)
  have hinv := bldL_inv HD.out.2 hfew
  obtain ⟨L, hL⟩ : ∃ L, L = bldL l := ⟨_, rfl⟩
  rw [← hL] at BD hinv
  have HI := Lib.hid hinv.1
  have HLL := Lib.hid hL
  clear hL hinv
  go_wp2_with fail
  refine BD.out.mono ?_
  rintro e w3 ⟨ov, bv, tv, rfl, l3, t3⟩
  obtain ⟨A1, c1, rfl, _⟩ := l3.opn.form
  obtain ⟨A2, c2, rfl, _⟩ := l3.blks.form'
  obtain ⟨A3, c3, rfl, _⟩ := l3.txs.form
  have OF := Lib.hid (Of_any L HI.out.ok _ _ _ _ w3 l3)
  have H3 := Lib.hid (t02.out.trans t3 (by simp))
  clear l3 t3 BD
  go_wp2_with fail
  refine OF.out.mono ?_
  rintro e w4 ⟨bv4, rfl, l4, t4⟩
  obtain ⟨A4, c4, rfl, _⟩ := l4.blks.form'
  obtain ⟨p7, hp4⟩ : ∃ x, x = w4.heap.size := ⟨_, rfl⟩
  obtain ⟨x7, hx4⟩ : ∃ x, x = w4.alloc (.cells #[.int .i64 L.next, .slice A1 L.opn.length c1, .slice A4 L.blks.length c4, .slice A3 L.txs.length c3] 57) := ⟨_, rfl⟩
  have b4 := Blk.new w4 [.int .i64 L.next, .slice A1 L.opn.length c1, .slice A4 L.blks.length c4, .slice A3 L.txs.length c3] 57
  rw [show w4.alloc (.cells [.int .i64 L.next, .slice A1 L.opn.length c1, .slice A4 L.blks.length c4, .slice A3 L.txs.length c3].toArray 57) = x7 from hx4.symm, ← hp4] at b4
  have tx4 : Turns [] w4 x7 := by rw [hx4]; exact (Turns.refl _ _).alloc _
  have H7 := Lib.hid (And.intro b4 (And.intro (l4.keep (tx4.keeps0 _)) ((H3.out.trans t4 (by simp)).trans tx4 (by simp))))
  have HX4 := Lib.hid (And.intro hx4 hp4)
  clear b4 t4 tx4 l4 hx4 hp4 OF
  go_upto_region 6 with fail
  rw [← HX4.out.1, ← HX4.out.2]
  obtain ⟨nT, hnT⟩ : ∃ n, n = L.txs.length := ⟨_, rfl⟩
  obtain ⟨nB, hnB⟩ : ∃ n, n = L.blks.length := ⟨_, rfl⟩
  obtain ⟨nO, hnO⟩ : ∃ n, n = L.opn.length := ⟨_, rfl⟩
  have hz7 := size_led (.int .i64 L.next) (.slice A1 L.opn.length c1) (.slice A4 L.blks.length c4) (.slice A3 L.txs.length c3)
  have hnT9 : nT ≤ 100000 := by rw [hnT]; exact HI.out.ok.txs
  have hnO9 : nO ≤ 1000 := by rw [hnO]; exact HI.out.ok.opn
  have HN := Lib.hid (And.intro hnT (And.intro hnB hnO))
  have HMK := Lib.hid (fun (tx seq : Int) W (t : Turns [] x7 W) => Make_any L HI.out.ok HI.out.bt tx seq _ _ _ _ W (H7.out.2.1.keep (t.keeps0 _)))
  have c3' := H7.out.1.cell 3
  have c1' := H7.out.1.cell 1
  simp only [List.getElem?_cons_zero, List.getElem?_cons_succ] at c3' c1'
  rw [← hnT] at c3'
  rw [← hnO] at c1'
  have HC := Lib.hid (And.intro c3' c1')
  clear hnT hnB hnO c3' c1'
  go_wp2_with fail
  go_loopw [4] (fun u wr => ∃ i : Nat, i ≤ nT ∧ u = .int .i64 i ∧ Turns [] x7 wr) (fun u _ => nT - (intOf u).toNat)
  case atStart => exact ⟨0, by omega, rfl, Turns.refl _ _⟩
  case round =>
    rename World => wi
    obtain ⟨i, hi, rfl, ti⟩ := hrel
    have c3i := cellV ti HC.out.1
    have HTI := Lib.hid ti
    clear ti
    by_cases hlt : i < nT
    · have hii : (i : Int) < (nT : Int) := by omega
      have hil : i < L.txs.length := by have := HN.out.1; omega
      have hiB : i < L.blks.length := by rw [HI.out.bt]; exact hil
      obtain ⟨xs, hxs⟩ : ∃ x, x = L.txs[i] := ⟨_, rfl⟩
      have hxa : L.txs[i]? = some xs := by rw [hxs]; exact List.getElem?_eq_getElem hil
      have hxl := HI.out.ok.tl xs (List.mem_of_getElem? hxa)
      obtain ⟨nX, hnX⟩ : ∃ n, n = xs.length := ⟨_, rfl⟩
      rw [← hnX] at hxl
      obtain ⟨bT, offT, ccT, csT, hvT, _, _, _, rgT, hRT⟩ := H7.out.2.1.txs.at_ (by omega) i hil
      injection hvT with e1 e2 e3
      subst e1 e3
      clear e2
      rw [← hxs] at hRT
      obtain ⟨vx, rfl, dx⟩ := hRT
      obtain ⟨AX, cX, rfl, _⟩ := dx.form
      have q0 := rgT 0 _ rfl
      rw [Nat.add_zero, Nat.mul_one, ← hnX] at q0
      have HX := Lib.hid (And.intro hxa (And.intro hnX (And.intro dx (And.intro q0 hiB))))
      clear hxs hxa hnX rgT dx q0 hil hiB
      go_wp2_with fail
      go_loopw [5] (fun u wr => ∃ k : Nat, k ≤ nX ∧ u = .int .i64 k ∧ Turns [] wi wr) (fun u _ => nX - (intOf u).toNat)
      case atStart => exact ⟨0, by omega, rfl, Turns.refl _ _⟩
      case round =>
        rename World => wk
        obtain ⟨k, hk, rfl, tk⟩ := hrel
        have t7k := HTI.out.trans tk (by simp)
        have c3k := cellV t7k HC.out.1
        have q0 := cellV t7k HX.out.2.2.2.1
        have HTK := Lib.hid (And.intro tk t7k)
        clear tk t7k
        by_cases hltk : k < nX
        · have hkk : (k : Int) < (nX : Int) := by omega
          have hkl : k < xs.length := by have := HX.out.2.1; omega
          obtain ⟨t, ht⟩ : ∃ x, x = xs[k] := ⟨_, rfl⟩
          have hxt : xs[k]? = some t := by rw [ht]; exact List.getElem?_eq_getElem hkl
          have hto := HI.out.ok.tt xs (List.mem_of_getElem? HX.out.1) t (List.mem_of_getElem? hxt)
          obtain ⟨b2, off2, cc2, cs2, hv2, _, _, _, rg2, hR2⟩ := (HX.out.2.2.1.keep TxR.lasts (HTK.out.2.keeps0 _)).at_ (by omega) k hkl
          injection hv2 with e1 e2 e3
          subst e1 e3
          clear e2
          rw [← ht] at hR2
          obtain ⟨cv, rfl, dc⟩ := hR2
          obtain ⟨Ac, cc, rfl, _⟩ := dc.form
          obtain ⟨nC, hnC⟩ : ∃ n, n = t.chs.length := ⟨_, rfl⟩
          have hnC9 : nC ≤ 1000 := by rw [hnC]; exact hto.len
          rw [← hnC] at rg2
          have hz1 := size_tx t.id (.slice Ac nC cc)
          obtain ⟨p6, hp6⟩ : ∃ x, x = wk.heap.size := ⟨_, rfl⟩
          obtain ⟨wt, hwt⟩ : ∃ x, x = wk.alloc (.cells #[.int .i64 t.id, .slice Ac nC cc] 24) := ⟨_, rfl⟩
          have b6 := Blk.new wk [.int .i64 t.id, .slice Ac nC cc] 24
          rw [show wk.alloc (.cells [.int .i64 t.id, .slice Ac nC cc].toArray 24) = wt from hwt.symm, ← hp6] at b6
          have tt : Turns [] wk wt := by rw [hwt]; exact (Turns.refl _ _).alloc _
          have HWT := Lib.hid (And.intro hwt hp6)
          have HB6 := Lib.hid (And.intro b6 (HTK.out.2.trans tt (by simp)))
          have HTX := Lib.hid (And.intro hxt (And.intro hnC (HTK.out.1.trans tt (by simp))))
          clear ht hxt hto dc hnC hwt hp6 b6 tt hkl
          go_upto_region 13 with (first
            | (refine wpList_load_mid rfl 24 (.tmp 46) rfl b2 (off2 + k * 2) rfl _ _ rg2 Try.underlying24 rfl hz1 ?_)
            | fail)
          rw [← HWT.out.1, ← HWT.out.2]
          clear c3k q0 rg2 hz1
          go_wp2_with fail
          go_loopw [7] (fun u wr => ∃ s : Nat, s ≤ nC ∧ u = .int .i64 s ∧ Turns [] wt wr) (fun u _ => nC - (intOf u).toNat)
          case atStart => exact ⟨0, by omega, rfl, Turns.refl _ _⟩
          case round =>
            rename World => ws
            obtain ⟨s, hs, rfl, ts⟩ := hrel
            have t7s := HB6.out.2.trans ts (by simp)
            have T0 := (HB6.out.1.turns ts (by simp)).cell 0
            have T1 := (HB6.out.1.turns ts (by simp)).cell 1
            simp only [List.getElem?_cons_zero, List.getElem?_cons_succ] at T0 T1
            have R7 := (H7.out.1.turns t7s (by simp)).all
            have HTS := Lib.hid (And.intro ts t7s)
            clear ts t7s
            by_cases hlts : s < nC
            · have hss : (s : Int) < (nC : Int) := by omega
              have MK := Lib.hid (HMK.out t.id s ws HTS.out.2)
              have HZB := Lib.hid hs
              clear hs
              go_wp2_with (first
                | (refine wpList_load_mid rfl 57 (.tmp 3) rfl p7 0 rfl _ _ R7 Try.underlying57 rfl hz7 ?_)
                | fail)
              refine MK.out.mono ?_
              rintro e y1 ⟨r, rv, hv, ev, er, rfl, hR, hP, t1⟩
              have hc := hP.cells HI.out.ok hR.rd
              obtain ⟨rfl, bl, c, hbl, hcc, hre⟩ := hP.here HI.out HX.out.1 HTX.out.1 (by have := HTX.out.2.1; omega)
              obtain ⟨hok, htrue, -⟩ := hP.good HI.out
              obtain ⟨rcs, hrcs⟩ : ∃ x, x = recCells r rv hv ev := ⟨_, rfl⟩
              rw [← hrcs] at hc ⊢
              have HBZ := Lib.hid (And.intro (Blk.new y1 zz 81) ((Turns.refl [] y1).alloc (.cells zz.toArray 81)))
              have HC1 := Lib.hid (And.intro (show zz.length = rcs.length by rw [HZL.out, hc.1]) (And.intro (size_rec rcs hc.1) hc.2))
              have HR := Lib.hid (And.intro hR.rd (And.intro hok (And.intro htrue (And.intro hre (And.intro hbl hrcs)))))
              have HT1 := Lib.hid t1
              clear hc hR hP t1 hok htrue hrcs hre hbl hcc MK R7 T0
              go_upto_region 17 with (first
                | (refine wpList_alloc_arr (o := ⟨some 8, _, _, _, _, _⟩) rfl 81 rfl zz.toArray hz81 ?_)
                | (refine wpList_store_blk rfl 81 (.tmp 8) (.tmp 61) rfl y1.heap.size (by kernel_rfl) rcs zz 81 (by kernel_rfl) HBZ.out.1 HC1.out.1 HC1.out.2.1 HC1.out.2.2 (fun w9 hb9 ht9 hs9 => ?_); have HQ9 := Lib.hid (And.intro hb9 ht9); clear hb9 ht9 hs9)
                | fail)
              try simp only [Act.put, List.setIfInBounds_toArray, List.set_cons_succ, List.set_cons_zero]
              obtain ⟨g8, hg8⟩ : ∃ x, x = y1.heap.size := ⟨_, rfl⟩
              rw [← hg8] at HQ9 ⊢
              have t19 : Turns [] y1 w9 := HBZ.out.2.trans HQ9.out.2 (by intro x hx; simp at hx; exact .inr (by omega))
              obtain ⟨V, hV⟩ : ∃ q, q = w9.drew := ⟨_, rfl⟩
              have tV : Turns [] w9 V := by rw [hV]; exact (Turns.refl _ _).drew
              have HVV := Lib.hid hV
              have tyV := t19.trans tV (by simp)
              have tsV := HT1.out.trans tyV (by simp)
              have t7V := HTS.out.2.trans tsV (by simp)
              have b8 := HQ9.out.1.turns tV (by simp)
              have RR := b8.all
              have hzr := HC1.out.2.1
              rw [HR.out.2.2.2.2.2] at b8
              have B2 : V.cell? ⟨g8, 2, none⟩ = some (.int .i64 nC) := by rw [b8.cell 2, HR.out.2.2.2.1]; unfold mkRec; rw [← HTX.out.2.1]; rfl
              have B7 : V.cell? ⟨g8, 7, none⟩ = some (.int .i64 k) := by rw [b8.cell 7, HR.out.2.2.2.1]; rfl
              have hrb : r.blk = bl := by rw [HR.out.2.2.2.1]; rfl
              have hlk := HI.out.link i HX.out.2.2.2.2 (by rw [← HI.out.bt]; exact HX.out.2.2.2.2)
              have hble : L.blks[i]'HX.out.2.2.2.2 = bl := (List.getElem?_eq_some_iff.1 HR.out.2.2.2.2.1).2
              have hbn := hlk.1
              rw [hble] at hbn
              obtain ⟨u, hu⟩ : ∃ x, x = (i : Int) + 1 := ⟨_, rfl⟩
              obtain ⟨u2, hu2⟩ : ∃ x, x = (i : Int) + 2 := ⟨_, rfl⟩
              have B9 : V.cell? ⟨g8, 9, none⟩ = some (.int .i64 u) := by rw [(rec_blk b8) 0 _ rfl, hrb, hbn, hu]
              have hw1 : IntKind.i64.wrap ((i : Int) + 1) = u := by rw [IntWalk.i64_in _ (by omega), hu]
              have hw2 : IntKind.i64.wrap ((i : Int) + 2) = u2 := by rw [IntWalk.i64_in _ (by omega), hu2]
              have T1 := cellV tsV T1
              have C2 := (H7.out.1.turns t7V (by simp)).cell 2
              simp only [List.getElem?_cons_zero, List.getElem?_cons_succ] at C2
              obtain ⟨bB, offB, cB, hvB, _, _, rgB⟩ := blo_at (H7.out.2.1.keep (t7V.keeps0 _)).blks HI.out.ok.blo i HX.out.2.2.2.2
              injection hvB with e1 e2 e3
              subst e1 e3
              clear e2
              rw [hble] at rgB
              have hbk := HI.out.ok.blo bl (List.mem_of_getElem? HR.out.2.2.2.2.1)
              obtain ⟨cs, hcs⟩ : ∃ x, x = bl.cells := ⟨_, rfl⟩
              have hcl : cs.length = 66 := by rw [hcs]; exact Blo.cells_len hbk
              rw [← hcs] at rgB
              have RB := rgB
              have hzb := size_blo cs hcl
              obtain ⟨hh, hhh⟩ : ∃ x, x = bloH bl := ⟨_, rfl⟩
              have hhl : hh.length = 32 := by rw [hhh]; exact bloH_len _
              have FH := Lib.hid (show ∀ W, Calls Try.prog 22 #[.agg cs.toArray] W fun e w' => e = .returned (.agg (bvs hh).toArray) ∧ Turns [] W w' by rw [hcs, hhh]; exact fun W => CHash_any bl hbk W)
              have HBD := Lib.hid (fun n : Int => built_dig n hh hhl)
              have HYV := Lib.hid tyV
              have CK1 := Lib.hid (show ∀ W, Turns [] V W → Calls Try.prog 39 #[.agg rcs.toArray, .agg (digCells u hh).toArray] W fun e w' => e = .returned (.bool true) ∧ Turns [] W w' from fun W tW => by
                have h := Check_yes r HR.out.2.1 rv hv ev W (HR.out.1.on (HYV.out.trans tW (by simp)))
                rw [HR.out.2.2.1, ← HR.out.2.2.2.2.2, hrb, hbn, ← hu, ← hhh] at h
                exact h)
              have CK2 := Lib.hid (show ∀ W, Turns [] V W → Calls Try.prog 39 #[.agg rcs.toArray, .agg (digCells u2 hh).toArray] W fun e w' => e = .returned (.bool false) ∧ Turns [] W w' from fun W tW => by
                have h := Check_no r HR.out.2.1 rv hv ev u2 hh hhl (by rw [hrb, hbn]; omega) W (HR.out.1.on (HYV.out.trans tW (by simp)))
                rw [← HR.out.2.2.2.2.2] at h
                exact h)
              have hiB2 : (i : Int) < ((L.blks.length : Nat) : Int) := by have := HX.out.2.2.2.2; omega
              have HTV := Lib.hid (HTS.out.1.trans tsV (by simp))
              have S0 : Turns [] V V := Turns.refl _ _
              clear hg8 t19 hV tV tyV tsV t7V b8 hrb hlk hble hbn hu hu2 rgB hbk hcs hcl hhh
              go_upto_region 17 with fail
              refine rk0 (fun W => Turns [] V W) (fun _ => True) 51 51 ?_
              rw [← HVV.out]
              refine rkA 0 63 1 (v := ?_) ?_ (.mk' S0 trivial) ?_
              rotate_left
              · intro W hS; go_simp; all_goals with_reducible rfl
              try simp only [sI, sS, sZ]
              refine rkA 1 64 3 (v := ?_) ?_ (.mk' S0 trivial) ?_
              rotate_left
              · intro W hS; go_simp; all_goals with_reducible rfl
              try simp only [sI, sS, sZ]
              refine rkA 2 65 7 (v := ?_) ?_ (.mk' S0 trivial) ?_
              rotate_left
              · intro W hS; go_simp; all_goals with_reducible rfl
              try simp only [sI, sS, sZ]
              refine rkA 3 66 15 (v := ?_) ?_ (.mk' S0 trivial) ?_
              rotate_left
              · intro W hS; go_simp; all_goals with_reducible rfl
              try simp only [sI, sS, sZ]
              refine rkA 4 67 31 (v := ?_) ?_ (.mk' S0 trivial) ?_
              rotate_left
              · intro W hS; go_simp; all_goals with_reducible rfl
              try simp only [sI, sS, sZ]
              refine rkA 5 68 63 (v := ?_) ?_ (.mk' S0 trivial) ?_
              rotate_left
              · intro W hS; have c0 := cellL hS B9 (by simp); go_simp; all_goals with_reducible rfl
              try simp only [sI, sS, sZ]
              refine rkA 6 69 127 (v := ?_) ?_ (.mk' S0 trivial) ?_
              rotate_left
              · intro W hS; go_simp; all_goals with_reducible rfl
              try simp only [sI, sS, sZ]
              refine rkA 7 70 255 (v := ?_) ?_ (.mk' S0 trivial) ?_
              rotate_left
              · intro W hS; go_simp; all_goals with_reducible rfl
              try simp only [sI, sS, sZ]
              refine rkA 8 71 511 (v := ?_) ?_ (.mk' S0 trivial) ?_
              rotate_left
              · intro W hS; go_simp; all_goals with_reducible rfl
              try simp only [sI, sS, sZ]
              refine rkA 9 72 1023 (v := ?_) ?_ (.mk' S0 trivial) ?_
              rotate_left
              · intro W hS; go_simp; all_goals with_reducible rfl
              try simp only [sI, sS, sZ]
              refine rkA 10 73 2047 (v := ?_) ?_ (.mk' S0 trivial) ?_
              rotate_left
              · intro W hS; go_simp; all_goals with_reducible rfl
              try simp only [sI, sS, sZ]
              refine rkA 11 74 4095 (v := ?_) ?_ (.mk' S0 trivial) ?_
              rotate_left
              · intro W hS; go_simp; all_goals with_reducible rfl
              try simp only [sI, sS, sZ]
              refine rkA 12 75 8191 (v := ?_) ?_ (.mk' S0 trivial) ?_
              rotate_left
              · intro W hS; have c0 := cellL hS B7 (by simp); go_simp; all_goals with_reducible rfl
              try simp only [sI, sS, sZ]
              refine rkA 13 76 16383 (v := ?_) ?_ (.mk' S0 trivial) ?_
              rotate_left
              · intro W hS; go_simp; all_goals with_reducible rfl
              try simp only [sI, sS, sZ]
              refine rkA 14 77 32767 (v := ?_) ?_ (.mk' S0 trivial) ?_
              rotate_left
              · intro W hS; go_simp; all_goals with_reducible rfl
              try simp only [sI, sS, sZ]
              refine rkA 15 78 65535 (v := ?_) ?_ (.mk' S0 trivial) ?_
              rotate_left
              · intro W hS; go_simp; all_goals with_reducible rfl
              try simp only [sI, sS, sZ]
              refine rkA 16 79 131071 (v := ?_) ?_ (.mk' S0 trivial) ?_
              rotate_left
              · intro W hS; go_simp; all_goals with_reducible rfl
              try simp only [sI, sS, sZ]
              refine rkA 17 80 262143 (v := ?_) ?_ (.mk' S0 trivial) ?_
              rotate_left
              · intro W hS; go_simp; all_goals with_reducible rfl
              try simp only [sI, sS, sZ]
              refine rkA 18 81 524287 (v := ?_) ?_ (.mk' S0 trivial) ?_
              rotate_left
              · intro W hS; have c0 := cellL hS B2 (by simp); go_simp; all_goals with_reducible rfl
              try simp only [sI, sS, sZ]
              refine rkA 19 82 1048575 (v := ?_) ?_ (.mk' S0 trivial) ?_
              rotate_left
              · intro W hS; go_simp; all_goals with_reducible rfl
              try simp only [sI, sS, sZ]
              refine rkA 20 83 2097151 (v := ?_) ?_ (.mk' S0 trivial) ?_
              rotate_left
              · intro W hS; have c0 := cellL hS T1 (by simp); go_simp; all_goals with_reducible rfl
              try simp only [sI, sS, sZ]
              refine rkA 21 84 4194303 (v := ?_) ?_ (.mk' S0 trivial) ?_
              rotate_left
              · intro W hS; go_simp; all_goals with_reducible rfl
              try simp only [sI, sS, sZ]
              refine rkA 22 85 8388607 (v := ?_) ?_ (.mk' S0 trivial) ?_
              rotate_left
              · intro W hS; go_simp; all_goals with_reducible rfl
              try simp only [sI, sS, sZ]
              refine rkA 23 86 16777215 (v := ?_) ?_ (.mk' S0 trivial) ?_
              rotate_left
              · intro W hS; go_simp; all_goals with_reducible rfl
              try simp only [sI, sS, sZ]
              refine rkA 24 87 33554431 (v := ?_) ?_ (.mk' S0 trivial) ?_
              rotate_left
              · intro W hS; go_simp; all_goals with_reducible rfl
              try simp only [sI, sS, sZ]
              refine rkY 25 88 67108863 rfl (yieldsIf_load_mid (by rfl) _ _ rfl g8 0 (by rfl) rcs _ (fun W hS => rangeV hS RR) Try.underlying81 rfl hzr) (.mk' S0 trivial) ?_
              try simp only [sI, sS, sZ]
              refine rkA 26 89 134217727 (v := ?_) ?_ (.mk' S0 trivial) ?_
              rotate_left
              · intro W hS; go_simp; all_goals with_reducible rfl
              try simp only [sI, sS, sZ]
              refine rkA 27 90 268435455 (v := ?_) ?_ (.mk' S0 trivial) ?_
              rotate_left
              · intro W hS; go_simp; all_goals with_reducible rfl
              try simp only [sI, sS, sZ]
              refine rkA 28 91 536870911 (v := ?_) ?_ (.mk' S0 trivial) ?_
              rotate_left
              · intro W hS; go_simp; all_goals with_reducible rfl
              try simp only [sI, sS, sZ]
              refine rkA 29 92 1073741823 (v := ?_) ?_ (.mk' S0 trivial) ?_
              rotate_left
              · intro W hS; have c0 := cellL hS C2 (by simp); go_simp; all_goals with_reducible rfl
              try simp only [sI, sS, sZ]
              refine rkA 30 93 2147483647 (v := ?_) ?_ (.mk' S0 trivial) ?_
              rotate_left
              · intro W hS; go_simp; all_goals with_reducible rfl
              try simp only [sI, sS, sZ]
              refine rkA 31 94 4294967295 (v := ?_) ?_ (.mk' S0 trivial) ?_
              rotate_left
              · intro W hS; go_simp; all_goals with_reducible rfl
              try simp only [sI, sS, sZ]
              refine rkY 32 95 8589934591 rfl (yieldsIf_load_mid (by rfl) _ _ rfl bB (offB + i * 66) (by rfl) cs _ (fun W hS => rangeV hS RB) Try.underlying28 rfl hzb) (.mk' S0 trivial) ?_
              try simp only [sI, sS, sZ]
              refine rk1 33 17179869183 (fun K hK => ?_)
              go_simp
              refine (FH.out V).mono ?_
              rintro e X96 ⟨rfl, D96⟩
              refine hK _ _ (.mk' ((Turns.refl [] V).trans D96 (by simp)) trivial) ?_
              clear hK K
              try simp only [sI, sS, sZ]
              refine rkY 34 97 34359738367 rfl (yieldsIf_build (by rfl) 62 _ (by rfl) (digCells u hh).toArray (by have h := HBD.out u; simpa [Act.eval] using h)) (.mk' ((Turns.refl [] V).trans D96 (by simp)) trivial) ?_
              try simp only [sI, sS, sZ]
              refine rk1 35 68719476735 (fun K hK => ?_)
              go_simp
              refine (CK1.out X96 ((Turns.refl [] V).trans D96 (by simp))).mono ?_
              rintro e X98 ⟨rfl, D98⟩
              refine hK _ _ (.mk' (((Turns.refl [] V).trans D96 (by simp)).trans D98 (by simp)) trivial) ?_
              clear hK K
              try simp only [sI, sS, sZ]
              refine rkA 36 99 137438953471 (v := ?_) ?_ (.mk' (((Turns.refl [] V).trans D96 (by simp)).trans D98 (by simp)) trivial) ?_
              rotate_left
              · intro W hS; go_simp; all_goals with_reducible rfl
              try simp only [sI, sS, sZ]
              refine rkA 37 100 274877906943 (v := ?_) ?_ (.mk' (((Turns.refl [] V).trans D96 (by simp)).trans D98 (by simp)) trivial) ?_
              rotate_left
              · intro W hS; go_simp; all_goals with_reducible rfl
              try simp only [sI, sS, sZ]
              refine rkA 38 101 549755813887 (v := ?_) ?_ (.mk' (((Turns.refl [] V).trans D96 (by simp)).trans D98 (by simp)) trivial) ?_
              rotate_left
              · intro W hS; go_simp; all_goals with_reducible rfl
              try simp only [sI, sS, sZ]
              refine rkY 39 102 1099511627775 rfl (yieldsIf_load_mid (by rfl) _ _ rfl g8 0 (by rfl) rcs _ (fun W hS => rangeV hS RR) Try.underlying81 rfl hzr) (.mk' (((Turns.refl [] V).trans D96 (by simp)).trans D98 (by simp)) trivial) ?_
              try simp only [sI, sS, sZ]
              refine rkA 40 103 2199023255551 (v := ?_) ?_ (.mk' (((Turns.refl [] V).trans D96 (by simp)).trans D98 (by simp)) trivial) ?_
              rotate_left
              · intro W hS; go_simp; all_goals with_reducible rfl
              try simp only [sI, sS, sZ]
              refine rkA 41 104 4398046511103 (v := ?_) ?_ (.mk' (((Turns.refl [] V).trans D96 (by simp)).trans D98 (by simp)) trivial) ?_
              rotate_left
              · intro W hS; go_simp; all_goals with_reducible rfl
              try simp only [sI, sS, sZ]
              refine rkA 42 105 8796093022207 (v := ?_) ?_ (.mk' (((Turns.refl [] V).trans D96 (by simp)).trans D98 (by simp)) trivial) ?_
              rotate_left
              · intro W hS; go_simp; all_goals with_reducible rfl
              try simp only [sI, sS, sZ]
              refine rkA 43 106 17592186044415 (v := ?_) ?_ (.mk' (((Turns.refl [] V).trans D96 (by simp)).trans D98 (by simp)) trivial) ?_
              rotate_left
              · intro W hS; have c0 := cellL hS C2 (by simp); go_simp; all_goals with_reducible rfl
              try simp only [sI, sS, sZ]
              refine rkA 44 107 35184372088831 (v := ?_) ?_ (.mk' (((Turns.refl [] V).trans D96 (by simp)).trans D98 (by simp)) trivial) ?_
              rotate_left
              · intro W hS; go_simp; all_goals with_reducible rfl
              try simp only [sI, sS, sZ]
              refine rkA 45 108 70368744177663 (v := ?_) ?_ (.mk' (((Turns.refl [] V).trans D96 (by simp)).trans D98 (by simp)) trivial) ?_
              rotate_left
              · intro W hS; go_simp; all_goals with_reducible rfl
              try simp only [sI, sS, sZ]
              refine rkY 46 109 140737488355327 rfl (yieldsIf_load_mid (by rfl) _ _ rfl bB (offB + i * 66) (by rfl) cs _ (fun W hS => rangeV hS RB) Try.underlying28 rfl hzb) (.mk' (((Turns.refl [] V).trans D96 (by simp)).trans D98 (by simp)) trivial) ?_
              try simp only [sI, sS, sZ]
              refine rk1 47 281474976710655 (fun K hK => ?_)
              go_simp
              refine (FH.out X98).mono ?_
              rintro e X110 ⟨rfl, D110⟩
              refine hK _ _ (.mk' ((((Turns.refl [] V).trans D96 (by simp)).trans D98 (by simp)).trans D110 (by simp)) trivial) ?_
              clear hK K
              try simp only [sI, sS, sZ]
              refine rkY 48 111 562949953421311 rfl (yieldsIf_build (by rfl) 62 _ (by rfl) (digCells u2 hh).toArray (by have h := HBD.out u2; simpa [Act.eval] using h)) (.mk' ((((Turns.refl [] V).trans D96 (by simp)).trans D98 (by simp)).trans D110 (by simp)) trivial) ?_
              try simp only [sI, sS, sZ]
              refine rk1 49 1125899906842623 (fun K hK => ?_)
              go_simp
              refine (CK2.out X110 ((((Turns.refl [] V).trans D96 (by simp)).trans D98 (by simp)).trans D110 (by simp))).mono ?_
              rintro e X112 ⟨rfl, D112⟩
              refine hK _ _ (.mk' (((((Turns.refl [] V).trans D96 (by simp)).trans D98 (by simp)).trans D110 (by simp)).trans D112 (by simp)) trivial) ?_
              clear hK K
              try simp only [sI, sS, sZ]
              refine rkA 50 113 2251799813685247 (v := ?_) ?_ (.mk' (((((Turns.refl [] V).trans D96 (by simp)).trans D98 (by simp)).trans D110 (by simp)).trans D112 (by simp)) trivial) ?_
              rotate_left
              · intro W hS; go_simp; all_goals with_reducible rfl
              try simp only [sI, sS, sZ]
              refine rkZ ?_
              have HE17 := Lib.hid (HTV.out.trans (((((Turns.refl [] V).trans D96 (by simp)).trans D98 (by simp)).trans D110 (by simp)).trans D112 (by simp)) (by simp))
              clear RR B2 B7 B9 T1 C2 RB hzb hzr hw1 hw2 hiB2 S0
              go_wp2_with fail
              go_roundw
              case rel => exact ⟨s + 1, by omega, by go_num, HE17.out⟩
              case measure => (simp [intOf] <;> omega)
            · obtain rfl : nC = s := by omega
              have MK := Lib.hid (HMK.out t.id nC ws HTS.out.2)
              clear hs hlts
              go_wp2_with (first
                | (refine wpList_load_mid rfl 57 (.tmp 3) rfl p7 0 rfl _ _ R7 Try.underlying57 rfl hz7 ?_)
                | fail)
              refine MK.out.mono ?_
              rintro e y1 ⟨r, rv, hv, ev, er, rfl, hR, hP, t1⟩
              have hc := hP.cells HI.out.ok hR.rd
              obtain rfl : er = 2 := MkP.past HI.out HX.out.1 HTX.out.1 (by rw [← HTX.out.2.1]; exact hP)
              obtain ⟨rcs, hrcs⟩ : ∃ x, x = recCells r rv hv ev := ⟨_, rfl⟩
              rw [← hrcs] at hc ⊢
              have HBZ := Lib.hid (And.intro (Blk.new y1 zz 81) ((Turns.refl [] y1).alloc (.cells zz.toArray 81)))
              have HC1 := Lib.hid (And.intro (show zz.length = rcs.length by rw [HZL.out, hc.1]) (And.intro (size_rec rcs hc.1) hc.2))
              have HT1 := Lib.hid ((HTX.out.2.2.trans HTS.out.1 (by simp)).trans t1 (by simp))
              clear hc hR hP t1 hrcs MK R7 T0 T1
              go_upto_region 20 with (first
                | (refine wpList_alloc_arr (o := ⟨some 10, _, _, _, _, _⟩) rfl 81 rfl zz.toArray hz81 ?_)
                | (refine wpList_store_blk rfl 81 (.tmp 10) (.tmp 122) rfl y1.heap.size (by kernel_rfl) rcs zz 81 (by kernel_rfl) HBZ.out.1 HC1.out.1 HC1.out.2.1 HC1.out.2.2 (fun w9 hb9 ht9 hs9 => ?_); have HQ9 := Lib.hid ht9; clear hb9 ht9 hs9)
                | fail)
              try simp only [Act.put, List.setIfInBounds_toArray, List.set_cons_succ, List.set_cons_zero]
              have HW9 := Lib.hid ((HT1.out.trans HBZ.out.2 (by simp)).trans HQ9.out (by intro x hx; simp at hx; exact .inr (by have := HT1.out.size; omega)))
              go_wp2_with fail
              go_roundw
              case rel => exact ⟨k + 1, by omega, by go_num, HW9.out⟩
              case measure => (simp [intOf] <;> omega)
        · obtain rfl : nX = k := by omega
          clear hk hltk
          go_wp2_with fail
          go_roundw
          case rel => exact ⟨i + 1, by omega, by go_num, HTK.out.2⟩
          case measure => (simp [intOf] <;> omega)
    · obtain rfl : nT = i := by omega
      clear hi hlt
      go_wp2_with fail
      go_loopw [12] (fun u wr => ∃ k : Nat, k ≤ nO ∧ u = .int .i64 k ∧ Turns [] x7 wr) (fun u _ => nO - (intOf u).toNat)
      case atStart => exact ⟨0, by omega, rfl, HTI.out⟩
      case round =>
        rename World => wk
        obtain ⟨k, hk, rfl, tk⟩ := hrel
        have c1k := cellV tk HC.out.2
        have HTK := Lib.hid tk
        clear tk
        by_cases hltk : k < nO
        · have hkk : (k : Int) < (nO : Int) := by omega
          have hkl : k < L.opn.length := by have := HN.out.2.2; omega
          obtain ⟨V, hV⟩ : ∃ q, q = wk.drew := ⟨_, rfl⟩
          have tV : Turns [] wk V := by rw [hV]; exact (Turns.refl _ _).drew
          have HVV := Lib.hid hV
          have t7V := HTK.out.trans tV (by simp)
          have C1 := cellV tV c1k
          have R7 := (H7.out.1.turns t7V (by simp)).all
          obtain ⟨t, ht⟩ : ∃ x, x = L.opn[k] := ⟨_, rfl⟩
          have hot : L.opn[k]? = some t := by rw [ht]; exact List.getElem?_eq_getElem hkl
          obtain ⟨b2, off2, cc2, cs2, hv2, _, _, _, rg2, hR2⟩ := (H7.out.2.1.opn.keep TxR.lasts (t7V.keeps0 _)).at_ (by omega) k hkl
          injection hv2 with e1 e2 e3
          subst e1 e3
          clear e2
          rw [← ht] at hR2
          obtain ⟨cv, rfl, _⟩ := hR2
          have CI := rg2 0 _ rfl
          rw [Nat.add_zero] at CI
          have MK := Lib.hid (fun W (tW : Turns [] V W) => HMK.out t.id 0 W (t7V.trans tW (by simp)))
          have HO := Lib.hid (fun (r : Rec) (er : Int) (hP : MkP L t.id 0 r er) => hP.open_ HI.out hot)
          have HTV := Lib.hid t7V
          have S0 : Turns [] V V := Turns.refl _ _
          clear hV tV t7V ht hot rg2 hkl
          go_upto_region 25 with fail
          clear c1k
          go_cut [13, 14] (fun u13 u14 wy => ∃ g, u13 = .pointer (some ⟨g, 0, none⟩) ∧ u14 = .int .i64 2 ∧ Turns [] V wy)
          case first =>
            refine rk0 (fun W => Turns [] V W) (fun _ => True) 14 14 ?_
            rw [← HVV.out]
            refine rkY 0 134 1 rfl (yieldsIf_load_mid (by rfl) _ _ rfl p7 0 (by rfl) _ _ (fun W hS => rangeV hS R7) Try.underlying57 rfl hz7) (.mk' S0 trivial) ?_
            try simp only [sI, sS, sZ]
            refine rkA 1 135 3 (v := ?_) ?_ (.mk' S0 trivial) ?_
            rotate_left
            · intro W hS; go_simp; all_goals with_reducible rfl
            try simp only [sI, sS, sZ]
            refine rkA 2 136 7 (v := ?_) ?_ (.mk' S0 trivial) ?_
            rotate_left
            · intro W hS; have c0 := cellL hS C1 (by simp); go_simp; all_goals with_reducible rfl
            try simp only [sI, sS, sZ]
            refine rkA 3 137 15 (v := ?_) ?_ (.mk' S0 trivial) ?_
            rotate_left
            · intro W hS; go_simp; all_goals with_reducible rfl
            try simp only [sI, sS, sZ]
            refine rkA 4 138 31 (v := ?_) ?_ (.mk' S0 trivial) ?_
            rotate_left
            · intro W hS; go_simp; all_goals with_reducible rfl
            try simp only [sI, sS, sZ]
            refine rkA 5 139 63 (v := ?_) ?_ (.mk' S0 trivial) ?_
            rotate_left
            · intro W hS; go_simp; all_goals with_reducible rfl
            try simp only [sI, sS, sZ]
            refine rkA 6 140 127 (v := ?_) ?_ (.mk' S0 trivial) ?_
            rotate_left
            · intro W hS; have c0 := cellL hS CI (by simp); go_simp; all_goals with_reducible rfl
            try simp only [sI, sS, sZ]
            refine rk2 7 11 255 2175 (fun K hK => ?_) (fun K hK => ?_)
            · go_simp
              refine (MK.out V (Turns.refl [] V)).mono ?_
              rintro e X141 ⟨r, rv, hv, ev, er, rfl, hR, hP, D141⟩
              have HC := Lib.hid (hP.cells HI.out.ok hR.rd)
              refine hK _ _ (.mk' ((Turns.refl [] V).trans D141 (by simp)) trivial) ?_
              clear hK K
              try simp only [sI, sS, sZ]
              refine rkA 8 133 511 (v := ?_) ?_ (.mk' ((Turns.refl [] V).trans D141 (by simp)) trivial) ?_
              rotate_left
              · intro W hS; go_simp; all_goals with_reducible rfl
              try simp only [sI, sS, sZ]
              refine rkA 9 142 1023 (v := ?_) ?_ (.mk' ((Turns.refl [] V).trans D141 (by simp)) trivial) ?_
              rotate_left
              · intro W hS; go_simp; all_goals with_reducible rfl
              try simp only [sI, sS, sZ]
              refine rkA 10 143 2047 (v := ?_) ?_ (.mk' ((Turns.refl [] V).trans D141 (by simp)) trivial) ?_
              rotate_left
              · intro W hS; go_simp; all_goals with_reducible rfl
              try simp only [sI, sS, sZ]
              refine rk1 11 4095 (fun K hK => ?_)
              refine wp_alloc_arr 81 (by rfl) zz.toArray hz81 ?_
              have B13 := Blk.new X141 zz 81
              have D13 : Turns [] X141 (X141.alloc (.cells zz.toArray 81)) := (Turns.refl _ _).alloc _
              obtain ⟨g13, hg13⟩ : ∃ g, g = X141.heap.size := ⟨_, rfl⟩
              have G13 := Lib.hid (show V.heap.size ≤ g13 by rw [hg13]; exact ((Turns.refl [] V).trans D141 (by simp)).size)
              have GL13 := Lib.hid (show X141.heap.size ≤ g13 ∧ g13 < (X141.alloc (.cells zz.toArray 81)).heap.size by rw [hg13]; simp)
              rw [← hg13] at B13 ⊢
              clear hg13
              generalize X141.alloc (.cells zz.toArray 81) = X13 at B13 D13 GL13 ⊢
              refine hK _ _ (.mk' (((Turns.refl [] V).trans D141 (by simp)).trans D13 (by simp)) trivial) ?_
              clear hK K
              try simp only [sI, sS, sZ]
              refine rk1 12 8191 (fun K hK => ?_)
              refine wp_store_blk 81 _ _ (by rfl) g13 (by rfl) (recCells r rv hv ev) zz 81 (by rfl) (B13.turns (Turns.refl [] X13) (by simp)) (by rw [HZL.out, HC.out.1]) (size_rec _ HC.out.1) HC.out.2 (fun X99 hb99 ht99 => ?_)
              have D99 : Turns [] V X99 := (((Turns.refl [] V).trans D141 (by simp)).trans D13 (by simp)).trans ht99 (by intro x hx; simp at hx; exact .inr (by rw [hx]; exact G13.out))
              have hRF := hR.store (((((Turns.refl [] X141).trans D13 (by simp))).mono (L' := [g13]) (by simp)).trans ht99 (fun x hx => .inl hx)) (.inr (by have := GL13.out.1; have := (Turns.refl [] X141).size; omega))
              refine hK _ _ (.mk' D99 trivial) ?_
              clear hK K
              try simp only [sI, sS, sZ]
              refine rkA 13 14 16383 (v := ?_) ?_ (.mk' D99 trivial) ?_
              rotate_left
              · intro W hS; go_simp; all_goals with_reducible rfl
              try simp only [sI, sS, sZ]
              refine rkZ ?_
              have he2 := HO.out r er hP
              subst he2
              go_wp2_with fail
              go_meet
              exact ⟨g13, rfl, rfl, D99⟩
            · refine wp_alloc_arr 81 (by rfl) zz.toArray hz81 ?_
              have B13 := Blk.new V zz 81
              have D13 : Turns [] V (V.alloc (.cells zz.toArray 81)) := (Turns.refl _ _).alloc _
              obtain ⟨g13, hg13⟩ : ∃ g, g = V.heap.size := ⟨_, rfl⟩
              have G13 := Lib.hid (show V.heap.size ≤ g13 by rw [hg13]; exact (Turns.refl [] V).size)
              have GL13 := Lib.hid (show V.heap.size ≤ g13 ∧ g13 < (V.alloc (.cells zz.toArray 81)).heap.size by rw [hg13]; simp)
              rw [← hg13] at B13 ⊢
              clear hg13
              generalize V.alloc (.cells zz.toArray 81) = X13 at B13 D13 GL13 ⊢
              refine hK _ _ (.mk' ((Turns.refl [] V).trans D13 (by simp)) trivial) ?_
              clear hK K
              try simp only [sI, sS, sZ]
              refine rk1 7 2303 (fun K hK => ?_)
              go_simp
              refine (MK.out X13 ((Turns.refl [] V).trans D13 (by simp))).mono ?_
              rintro e X141 ⟨r, rv, hv, ev, er, rfl, hR, hP, D141⟩
              have HC := Lib.hid (hP.cells HI.out.ok hR.rd)
              refine hK _ _ (.mk' (((Turns.refl [] V).trans D13 (by simp)).trans D141 (by simp)) trivial) ?_
              clear hK K
              try simp only [sI, sS, sZ]
              refine rkA 8 133 2559 (v := ?_) ?_ (.mk' (((Turns.refl [] V).trans D13 (by simp)).trans D141 (by simp)) trivial) ?_
              rotate_left
              · intro W hS; go_simp; all_goals with_reducible rfl
              try simp only [sI, sS, sZ]
              refine rkA 9 142 3071 (v := ?_) ?_ (.mk' (((Turns.refl [] V).trans D13 (by simp)).trans D141 (by simp)) trivial) ?_
              rotate_left
              · intro W hS; go_simp; all_goals with_reducible rfl
              try simp only [sI, sS, sZ]
              refine rkA 10 143 4095 (v := ?_) ?_ (.mk' (((Turns.refl [] V).trans D13 (by simp)).trans D141 (by simp)) trivial) ?_
              rotate_left
              · intro W hS; go_simp; all_goals with_reducible rfl
              try simp only [sI, sS, sZ]
              refine rk1 12 8191 (fun K hK => ?_)
              refine wp_store_blk 81 _ _ (by rfl) g13 (by rfl) (recCells r rv hv ev) zz 81 (by rfl) (B13.turns ((Turns.refl [] X13).trans D141 (by simp)) (by simp)) (by rw [HZL.out, HC.out.1]) (size_rec _ HC.out.1) HC.out.2 (fun X99 hb99 ht99 => ?_)
              have D99 : Turns [] V X99 := (((Turns.refl [] V).trans D13 (by simp)).trans D141 (by simp)).trans ht99 (by intro x hx; simp at hx; exact .inr (by rw [hx]; exact G13.out))
              have hRF := hR.store ((((Turns.refl [] X141)).mono (L' := [g13]) (by simp)).trans ht99 (fun x hx => .inl hx)) (.inl (by have := GL13.out.2; have := (Turns.refl [] X13).size; omega))
              refine hK _ _ (.mk' D99 trivial) ?_
              clear hK K
              try simp only [sI, sS, sZ]
              refine rkA 13 14 16383 (v := ?_) ?_ (.mk' D99 trivial) ?_
              rotate_left
              · intro W hS; go_simp; all_goals with_reducible rfl
              try simp only [sI, sS, sZ]
              refine rkZ ?_
              have he2 := HO.out r er hP
              subst he2
              go_wp2_with fail
              go_meet
              exact ⟨g13, rfl, rfl, D99⟩
          case rest =>
            generalize wc = wy at *
            obtain ⟨g13, rfl, rfl, ty⟩ := hcut
            have HTY := Lib.hid (HTV.out.trans ty (by simp))
            clear C1 R7 CI S0 ty MK
            go_wp2_with fail
            go_roundw
            case rel => exact ⟨k + 1, by omega, by go_num, HTY.out⟩
            case measure => (simp [intOf] <;> omega)
        · obtain rfl : nO = k := by omega
          have HFF := Lib.hid (below_of' (H7.out.2.2.trans HTK.out (by simp)))
          clear hk hltk
          go_wp2_with fail
          go_ret
          exact ⟨rfl, HFF.out⟩
end Go.Proofs.Ytoahnhphfabajaa
