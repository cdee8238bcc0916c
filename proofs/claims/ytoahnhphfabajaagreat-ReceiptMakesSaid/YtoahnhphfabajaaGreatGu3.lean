/- ReceiptMakes, walked. -/
import Derived.Test.YtoahnhphfabajaaGreatGu2
import Derived.Test.YtoahnhphfabajaaGreatLe2
namespace Go.Proofs.YtoahnhphfabajaaGreat
open Go.RowKit
set_option linter.unusedVariables false
set_option maxRecDepth 10000
set_option linter.unusedSimpArgs false
set_option linter.unnecessarySimpa false

/-- What Make says is one thing. -/
theorem MkP.one {L : Led} (hI : Inv L) {tx seq : Int} {r r' : Rec} {er er' : Int} (h : MkP L tx seq r er) (h' : MkP L tx seq r' er') : er' = er ∧ r' = r := by
  rcases h with ⟨h0, a, b, sn, xs, t, bl, c, g1, g2, g3, g4, g5, g6, g7⟩ | ⟨h0, g7, hn⟩
  · rcases h' with ⟨h0', a', b', sn', xs', t', bl', c', k1, k2, k3, k4, k5, k6, k7⟩ | ⟨h0', k7, hn'⟩
    · obtain ⟨rfl, rfl⟩ := hI.uniq g1 g2 k1 k2 (g5.trans k5.symm)
      rw [g1] at k1; injection k1 with k1; subst k1
      rw [g2] at k2; injection k2 with k2; subst k2
      rw [g3] at k3; injection k3 with k3; subst k3
      obtain rfl : sn = sn' := by omega
      rw [g4] at k4; injection k4 with k4; subst k4
      exact ⟨by rw [h0, h0'], by rw [g7, k7]⟩
    · exfalso
      rcases hn' with h | h | ⟨a', b', xs', t', k1, k2, k5, k6⟩
      · exact h a b xs t g1 g2 g5
      · omega
      · obtain ⟨rfl, rfl⟩ := hI.uniq g1 g2 k1 k2 (g5.trans k5.symm)
        rw [g1] at k1; injection k1 with k1; subst k1
        rw [g2] at k2; injection k2 with k2; subst k2
        have := (List.getElem?_eq_some_iff.1 g4).1
        omega
  · rcases h' with ⟨h0', a, b, sn, xs, t, bl, c, g1, g2, g3, g4, g5, g6, _⟩ | ⟨h0', k7, hn'⟩
    · exfalso
      rcases hn with h | h | ⟨a', b', xs', t', k1, k2, k5, k6⟩
      · exact h a b xs t g1 g2 g5
      · omega
      · obtain ⟨rfl, rfl⟩ := hI.uniq g1 g2 k1 k2 (g5.trans k5.symm)
        rw [g1] at k1; injection k1 with k1; subst k1
        rw [g2] at k2; injection k2 with k2; subst k2
        have := (List.getElem?_eq_some_iff.1 g4).1
        omega
    · exact ⟨by rw [h0, h0'], by rw [g7, k7]⟩
theorem mproof_small (hs : List (List UInt8)) (k : Nat) (h : hs.length ≤ 1000) (hk : k < hs.length) : (mproof hs k).length ≤ 100000 := by
  have h1 := mproof_len hs.length hs k (Nat.le_refl _) hk
  have h2 := mway_le 10 hs.length k (by omega)
  omega
theorem MkP.few {L : Led} (hI : Inv L) {tx seq : Int} {r : Rec} {er : Int} (h : MkP L tx seq r er) : r.blk.ok ∧ r.c.ok ∧ r.rows.length ≤ 100000 ∧ r.ents.length ≤ 100000 := by
  refine ⟨h.blk_ok hI.ok, ?_⟩
  rcases h with ⟨h0, a, b, sn, xs, t, bl, c, g1, g2, g3, g4, g5, g6, rfl⟩ | ⟨h0, rfl, _⟩
  · obtain ⟨k1, e1⟩ := List.getElem?_eq_some_iff.1 g1
    obtain ⟨k2, e2⟩ := List.getElem?_eq_some_iff.1 g2
    obtain ⟨k4, e4⟩ := List.getElem?_eq_some_iff.1 g4
    have hxs : xs ∈ L.txs := by rw [← e1]; exact List.getElem_mem k1
    have hto := hI.ok.tt xs hxs t (by rw [← e2]; exact List.getElem_mem k2)
    refine ⟨hto.chs c (by rw [← e4]; exact List.getElem_mem k4), ?_, ?_⟩
    · exact mproof_small _ _ (by rw [txRows_len]; exact hto.len) (by rw [txRows_len]; exact k4)
    · exact mproof_small _ _ (by rw [List.length_map]; exact hI.ok.tl xs hxs) (by rw [List.length_map]; exact k2)
  · exact ⟨⟨by show (0 : Nat) ≤ 1000; omega, ⟨by show (-9223372036854775808 : Int) ≤ 0; omega, by show (0 : Int) ≤ _; omega⟩, by show (0 : Nat) ≤ 100; omega, by intro v hv; cases hv⟩, by show (0 : Nat) ≤ _; omega, by show (0 : Nat) ≤ _; omega⟩
set_option maxRecDepth 100000 in
set_option maxHeartbeats 16000000 in
theorem ReceiptMakes_walk (l : List Stp) (v : Value) (tx seq : Int) (w0 : World) (hd : Deep StpR w0 (fun _ => True) 4 v l) (hf : ∀ s ∈ l, s.fits) (htx : i64ok tx) (hsq : i64ok seq) :
    Calls Tryz.prog 5 #[v, .int .i64 tx, .int .i64 seq] w0 fun e w' => e = .returned (.bool true) ∧ Below w0.heap.size w0 w' := by
  obtain ⟨ta, hta⟩ : ∃ x, x = tx % 30 := ⟨_, rfl⟩
  obtain ⟨tb, htb⟩ : ∃ x, x = seq % 5 := ⟨_, rfl⟩
  obtain ⟨tc, htc⟩ : ∃ x, x = tx % 8 := ⟨_, rfl⟩
  have WA := Lib.hid (fun W => by have h := within15_any tx 30 W htx.1 htx.2 (by omega) (by omega); rw [← hta] at h; exact h : ∀ W, Calls Tryz.prog 23 #[.int .i64 tx, .int .i64 30] W fun e w' => e = .returned (.int .i64 ta) ∧ W = w')
  have WB := Lib.hid (fun W => by have h := within15_any seq 5 W hsq.1 hsq.2 (by omega) (by omega); rw [← htb] at h; exact h : ∀ W, Calls Tryz.prog 23 #[.int .i64 seq, .int .i64 5] W fun e w' => e = .returned (.int .i64 tb) ∧ W = w')
  have WC := Lib.hid (fun W => by have h := within15_any tx 8 W htx.1 htx.2 (by omega) (by omega); rw [← htc] at h; exact h : ∀ W, Calls Tryz.prog 23 #[.int .i64 tx, .int .i64 8] W fun e w' => e = .returned (.int .i64 tc) ∧ W = w')
  clear htx hsq hta htb htc
  obtain ⟨A, c, rfl, _⟩ := hd.form
  have KN := Lib.hid (known15_any w0)
  have HD := Lib.hid (And.intro hd hf)
  clear hd hf
  obtain ⟨n, hn⟩ : ∃ n, n = l.length := ⟨_, rfl⟩
  have HNL := Lib.hid hn
  rw [← hn]
  clear hn
  obtain ⟨zz, hzz⟩ : ∃ z, z = rz := ⟨_, rfl⟩
  have hz81 := zero_rec
  have hz82 := zero_rrec
  rw [← hzz] at hz81 hz82
  have HZL := Lib.hid (show zz.length = 75 by rw [hzz]; exact rz_len)
  clear hzz
  go_enter Tryz.func5, Tryz.ntmps5
  go_wp2_with fail
  refine KN.out.mono ?_
  rintro e w1 ⟨rfl, t1⟩
  have hd1 := HD.out.1.keep StpR.lasts (t1.keeps0 _)
  have FW := Lib.hid (by have h := Few14_any l (.slice A l.length c) _ w1 hd1 HD.out.2; rw [← HNL.out] at h; exact h : Calls Tryz.prog 7 #[.slice A n c] w1 fun e w' => e = .returned (.bool (fewSs l)) ∧ Turns [] w1 w')
  have H1 := Lib.hid (And.intro t1 hd1)
  clear t1 hd1 KN
  go_wp2_with fail
  refine FW.out.mono ?_
  rintro e w2 ⟨rfl, t2⟩
  have t02 := Lib.hid (H1.out.1.trans t2 (by simp))
  have HD2 := Lib.hid (H1.out.2.keep StpR.lasts (t2.keeps0 _))
  clear t2 FW
  cases hfew : fewSs l
  · go_wp2_with fail
    go_ret
    exact ⟨rfl, below_of' t02.out⟩
  have BD := Lib.hid (by have h := Build_any l (.slice A l.length c) _ w2 HD2.out HD.out.2 hfew; rw [← HNL.out] at h; exact h : Calls Tryz.prog 21 #[.slice A n c] w2 _)
  have hinv := bldL_inv HD.out.2 hfew
  obtain ⟨L, hL⟩ : ∃ L, L = bldL l := ⟨_, rfl⟩
  rw [← hL] at BD hinv
  have HI := Lib.hid hinv.1
  clear hL hinv
  go_wp2_with fail
  refine BD.out.mono ?_
  rintro e w3 ⟨ov, bv, tv, rfl, l3, t3⟩
  obtain ⟨A1, c1, rfl, _⟩ := l3.opn.form
  obtain ⟨A2, c2, rfl, _⟩ := l3.blks.form'
  obtain ⟨A3, c3, rfl, _⟩ := l3.txs.form
  obtain ⟨pR, hpR⟩ : ∃ x, x = w3.heap.size := ⟨_, rfl⟩
  obtain ⟨x4, hx4⟩ : ∃ x, x = w3.alloc (.cells #[.int .i64 L.next, .slice A1 L.opn.length c1, .slice A2 L.blks.length c2, .slice A3 L.txs.length c3] 32) := ⟨_, rfl⟩
  have bR := Blk.new w3 [.int .i64 L.next, .slice A1 L.opn.length c1, .slice A2 L.blks.length c2, .slice A3 L.txs.length c3] 32
  rw [show w3.alloc (.cells [.int .i64 L.next, .slice A1 L.opn.length c1, .slice A2 L.blks.length c2, .slice A3 L.txs.length c3].toArray 32) = x4 from hx4.symm, ← hpR] at bR
  have tx4 : Turns [] w3 x4 := by rw [hx4]; exact (Turns.refl _ _).alloc _
  have l4 := l3.keep (tx4.keeps0 _)
  have OF := Lib.hid (Of_any L HI.out.ok _ _ _ _ x4 l4)
  have HX4 := Lib.hid (And.intro hx4 hpR)
  have H4 := Lib.hid (And.intro bR (And.intro l4 ((t02.out.trans t3 (by simp)).trans tx4 (by simp))))
  have rR := bR.all
  have hzR := size_rled (.int .i64 L.next) (.slice A1 L.opn.length c1) (.slice A2 L.blks.length c2) (.slice A3 L.txs.length c3)
  clear bR l3 l4 t3 tx4 hx4 hpR BD
  go_upto_region 6 with fail
  rw [← HX4.out.1, ← HX4.out.2]
  go_wp2_with (first
    | (refine wpList_load_mid rfl 32 (.tmp 7) rfl pR 0 rfl _ _ rR Tryz.underlying32 rfl hzR ?_)
    | fail)
  refine OF.out.mono ?_
  rintro e w5 ⟨bv4, rfl, l5, t5⟩
  obtain ⟨A4, c4, rfl, _⟩ := l5.blks.form'
  obtain ⟨pC, hpC⟩ : ∃ x, x = w5.heap.size := ⟨_, rfl⟩
  obtain ⟨x6, hx6⟩ : ∃ x, x = w5.alloc (.cells #[.int .i64 L.next, .slice A1 L.opn.length c1, .slice A4 L.blks.length c4, .slice A3 L.txs.length c3] 29) := ⟨_, rfl⟩
  have bC := Blk.new w5 [.int .i64 L.next, .slice A1 L.opn.length c1, .slice A4 L.blks.length c4, .slice A3 L.txs.length c3] 29
  rw [show w5.alloc (.cells [.int .i64 L.next, .slice A1 L.opn.length c1, .slice A4 L.blks.length c4, .slice A3 L.txs.length c3].toArray 29) = x6 from hx6.symm, ← hpC] at bC
  have tx6 : Turns [] w5 x6 := by rw [hx6]; exact (Turns.refl _ _).alloc _
  have HX6 := Lib.hid (And.intro hx6 hpC)
  obtain ⟨p9, hp9⟩ : ∃ x, x = x6.heap.size := ⟨_, rfl⟩
  obtain ⟨x7, hx7⟩ : ∃ x, x = x6.alloc (.cells #[.int .i64 tx, .int .i64 seq, .int .i64 ta, .int .i64 tb, .int .i64 tc, .int .i64 0] 64) := ⟨_, rfl⟩
  have b9 := Blk.new x6 [.int .i64 tx, .int .i64 seq, .int .i64 ta, .int .i64 tb, .int .i64 tc, .int .i64 0] 64
  rw [show x6.alloc (.cells [.int .i64 tx, .int .i64 seq, .int .i64 ta, .int .i64 tb, .int .i64 tc, .int .i64 0].toArray 64) = x7 from hx7.symm, ← hp9] at b9
  have t67 : Turns [] x6 x7 := by rw [hx7]; exact (Turns.refl _ _).alloc _
  have HX7 := Lib.hid (And.intro hx7 hp9)
  have t47 := (t5.trans tx6 (by simp)).trans t67 (by simp)
  have H7 := Lib.hid (And.intro (bC.turns t67 (by simp)) (And.intro (l5.keep ((tx6.trans t67 (by simp)).keeps0 _)) (And.intro (H4.out.1.turns t47 (by simp)) (And.intro (H4.out.2.1.keep (t47.keeps0 _)) (And.intro b9 (H4.out.2.2.trans t47 (by simp)))))))
  clear bC t5 tx6 l5 hx6 hpC hp9 hx7 b9 t67 t47 OF rR
  go_upto_region 7 with fail
  rw [← HX6.out.1, ← HX6.out.2]
  go_wp2_with fail
  refine (WA.out x6).mono ?_
  rintro e xw ⟨rfl, rfl⟩
  go_wp2_with fail
  refine (WB.out x6).mono ?_
  rintro e xw ⟨rfl, rfl⟩
  go_wp2_with fail
  refine (WC.out x6).mono ?_
  rintro e xw ⟨rfl, rfl⟩
  clear WA WB WC
  go_upto_region 8 with fail
  rw [← HX7.out.1, ← HX7.out.2]
  go_wp2_with fail
  go_loopw [10] (fun u wr => ∃ i : Nat, i ≤ 3 ∧ u = .int .i64 i ∧ Turns [] x7 wr) (fun u _ => 3 - (intOf u).toNat)
  case atStart => exact ⟨0, by omega, rfl, Turns.refl _ _⟩
  case round =>
    rename World => wr
    obtain ⟨i, hi, rfl, tr⟩ := hrel
    by_cases hlt : i < 3
    · have hii : (i : Int) < 3 := by omega
      obtain ⟨ti, si, h0, h1⟩ : ∃ ti si : Int, ([.int .i64 tx, .int .i64 seq, .int .i64 ta, .int .i64 tb, .int .i64 tc, .int .i64 0] : List Value)[i * 2]? = some (.int .i64 ti) ∧ ([.int .i64 tx, .int .i64 seq, .int .i64 ta, .int .i64 tb, .int .i64 tc, .int .i64 0] : List Value)[i * 2 + 1]? = some (.int .i64 si) := by
        match i, hlt with
        | 0, _ => exact ⟨_, _, rfl, rfl⟩
        | 1, _ => exact ⟨_, _, rfl, rfl⟩
        | 2, _ => exact ⟨_, _, rfl, rfl⟩
      obtain ⟨Y, hY⟩ : ∃ q, q = wr.drew := ⟨_, rfl⟩
      have tY : Turns [] wr Y := by rw [hY]; exact (Turns.refl _ _).drew
      have HYY := Lib.hid hY
      have t7Y := tr.trans tY (by simp)
      have R8 := (H7.out.1.turns t7Y (by simp)).all
      have hz8 := size_led (.int .i64 L.next) (.slice A1 L.opn.length c1) (.slice A4 L.blks.length c4) (.slice A3 L.txs.length c3)
      have b9Y := H7.out.2.2.2.2.1.turns t7Y (by simp)
      have Q0 := (b9Y.cell (i * 2)).trans h0
      have Q1 := (b9Y.cell (i * 2 + 1)).trans h1
      have MK := Lib.hid (fun W (t : Turns [] Y W) => Make_any L HI.out.ok HI.out.bt ti si _ _ _ _ W (H7.out.2.1.keep ((t7Y.trans t (by simp)).keeps0 _)))
      have HTY := Lib.hid (And.intro tY (And.intro t7Y b9Y))
      have HCC := Lib.hid (And.intro h0 h1)
      have S0 : Turns [] Y Y := Turns.refl _ _
      clear hY tY t7Y b9Y tr h0 h1
      go_upto_region 11 with fail
      go_cut [11, 12] (fun u8 u9 wy => ∃ g r rv hv ev er, u8 = .pointer (some ⟨g, 0, none⟩) ∧ u9 = .int .i64 er ∧ Blk wy g (recCells r rv hv ev) 72 ∧ RecR wy r rv hv ev ∧ MkP L ti si r er ∧ Turns [] Y wy)
      case first =>
        refine rk0 (fun W => Turns [] Y W) (fun _ => True) 18 18 ?_
        rw [← HYY.out]
        refine rkY 0 41 1 rfl (yieldsIf_load_mid (by rfl) _ _ rfl pC 0 (by rfl) _ _ (fun W hS => rangeV hS R8) Tryz.underlying29 rfl hz8) (.mk' S0 trivial) ?_
        try simp only [sI, sS, sZ]
        refine rkA 1 42 3 (v := ?_) ?_ (.mk' S0 trivial) ?_
        rotate_left
        · intro W hS; go_simp; all_goals with_reducible rfl
        try simp only [sI, sS, sZ]
        refine rkA 2 43 7 (v := ?_) ?_ (.mk' S0 trivial) ?_
        rotate_left
        · intro W hS; go_simp; all_goals with_reducible rfl
        try simp only [sI, sS, sZ]
        refine rkA 3 44 15 (v := ?_) ?_ (.mk' S0 trivial) ?_
        rotate_left
        · intro W hS; go_simp; all_goals with_reducible rfl
        try simp only [sI, sS, sZ]
        refine rkA 4 45 31 (v := ?_) ?_ (.mk' S0 trivial) ?_
        rotate_left
        · intro W hS; go_simp; all_goals with_reducible rfl
        try simp only [sI, sS, sZ]
        refine rkA 5 46 63 (v := ?_) ?_ (.mk' S0 trivial) ?_
        rotate_left
        · intro W hS; have c0 := cellL hS Q0 (by simp); go_simp; all_goals with_reducible rfl
        try simp only [sI, sS, sZ]
        refine rkA 6 47 127 (v := ?_) ?_ (.mk' S0 trivial) ?_
        rotate_left
        · intro W hS; go_simp; all_goals with_reducible rfl
        try simp only [sI, sS, sZ]
        refine rkA 7 48 255 (v := ?_) ?_ (.mk' S0 trivial) ?_
        rotate_left
        · intro W hS; go_simp; all_goals with_reducible rfl
        try simp only [sI, sS, sZ]
        refine rkA 8 49 511 (v := ?_) ?_ (.mk' S0 trivial) ?_
        rotate_left
        · intro W hS; go_simp; all_goals with_reducible rfl
        try simp only [sI, sS, sZ]
        refine rkA 9 50 1023 (v := ?_) ?_ (.mk' S0 trivial) ?_
        rotate_left
        · intro W hS; go_simp; all_goals with_reducible rfl
        try simp only [sI, sS, sZ]
        refine rkA 10 51 2047 (v := ?_) ?_ (.mk' S0 trivial) ?_
        rotate_left
        · intro W hS; have c0 := cellL hS Q1 (by simp); go_simp; all_goals with_reducible rfl
        try simp only [sI, sS, sZ]
        refine rk2 11 15 4095 34815 (fun K hK => ?_) (fun K hK => ?_)
        · go_simp
          refine (MK.out Y (Turns.refl [] Y)).mono ?_
          rintro e X52 ⟨r, rv, hv, ev, er, rfl, hR, hP, D52⟩
          have HC := Lib.hid (hP.cells HI.out.ok hR.rd)
          refine hK _ _ (.mk' ((Turns.refl [] Y).trans D52 (by simp)) trivial) ?_
          clear hK K
          try simp only [sI, sS, sZ]
          refine rkA 12 40 8191 (v := ?_) ?_ (.mk' ((Turns.refl [] Y).trans D52 (by simp)) trivial) ?_
          rotate_left
          · intro W hS; go_simp; all_goals with_reducible rfl
          try simp only [sI, sS, sZ]
          refine rkA 13 53 16383 (v := ?_) ?_ (.mk' ((Turns.refl [] Y).trans D52 (by simp)) trivial) ?_
          rotate_left
          · intro W hS; go_simp; all_goals with_reducible rfl
          try simp only [sI, sS, sZ]
          refine rkA 14 54 32767 (v := ?_) ?_ (.mk' ((Turns.refl [] Y).trans D52 (by simp)) trivial) ?_
          rotate_left
          · intro W hS; go_simp; all_goals with_reducible rfl
          try simp only [sI, sS, sZ]
          refine rk1 15 65535 (fun K hK => ?_)
          refine wp_alloc_arr 72 (by rfl) zz.toArray hz81 ?_
          have B11 := Blk.new X52 zz 72
          have D11 : Turns [] X52 (X52.alloc (.cells zz.toArray 72)) := (Turns.refl _ _).alloc _
          obtain ⟨g11, hg11⟩ : ∃ g, g = X52.heap.size := ⟨_, rfl⟩
          have G11 := Lib.hid (show Y.heap.size ≤ g11 by rw [hg11]; exact ((Turns.refl [] Y).trans D52 (by simp)).size)
          have GL11 := Lib.hid (show X52.heap.size ≤ g11 ∧ g11 < (X52.alloc (.cells zz.toArray 72)).heap.size by rw [hg11]; simp)
          rw [← hg11] at B11 ⊢
          clear hg11
          generalize X52.alloc (.cells zz.toArray 72) = X11 at B11 D11 GL11 ⊢
          refine hK _ _ (.mk' (((Turns.refl [] Y).trans D52 (by simp)).trans D11 (by simp)) trivial) ?_
          clear hK K
          try simp only [sI, sS, sZ]
          refine rk1 16 131071 (fun K hK => ?_)
          refine wp_store_blk 72 _ _ (by rfl) g11 (by rfl) (recCells r rv hv ev) zz 72 (by rfl) (B11.turns (Turns.refl [] X11) (by simp)) (by rw [HZL.out, HC.out.1]) (size_rec _ HC.out.1) HC.out.2 (fun X99 hb99 ht99 => ?_)
          have D99 : Turns [] Y X99 := (((Turns.refl [] Y).trans D52 (by simp)).trans D11 (by simp)).trans ht99 (by intro x hx; simp at hx; exact .inr (by rw [hx]; exact G11.out))
          have hRF := hR.store (((((Turns.refl [] X52).trans D11 (by simp))).mono (L' := [g11]) (by simp)).trans ht99 (fun x hx => .inl hx)) (.inr (by have := GL11.out.1; have := (Turns.refl [] X52).size; omega))
          refine hK _ _ (.mk' D99 trivial) ?_
          clear hK K
          try simp only [sI, sS, sZ]
          refine rkA 17 12 262143 (v := ?_) ?_ (.mk' D99 trivial) ?_
          rotate_left
          · intro W hS; go_simp; all_goals with_reducible rfl
          try simp only [sI, sS, sZ]
          refine rkZ ?_
          go_wp2_with fail
          go_meet
          exact ⟨g11, r, rv, hv, ev, er, rfl, rfl, hb99, hRF.rd, hP, D99⟩
        · refine wp_alloc_arr 72 (by rfl) zz.toArray hz81 ?_
          have B11 := Blk.new Y zz 72
          have D11 : Turns [] Y (Y.alloc (.cells zz.toArray 72)) := (Turns.refl _ _).alloc _
          obtain ⟨g11, hg11⟩ : ∃ g, g = Y.heap.size := ⟨_, rfl⟩
          have G11 := Lib.hid (show Y.heap.size ≤ g11 by rw [hg11]; exact (Turns.refl [] Y).size)
          have GL11 := Lib.hid (show Y.heap.size ≤ g11 ∧ g11 < (Y.alloc (.cells zz.toArray 72)).heap.size by rw [hg11]; simp)
          rw [← hg11] at B11 ⊢
          clear hg11
          generalize Y.alloc (.cells zz.toArray 72) = X11 at B11 D11 GL11 ⊢
          refine hK _ _ (.mk' ((Turns.refl [] Y).trans D11 (by simp)) trivial) ?_
          clear hK K
          try simp only [sI, sS, sZ]
          refine rk1 11 36863 (fun K hK => ?_)
          go_simp
          refine (MK.out X11 ((Turns.refl [] Y).trans D11 (by simp))).mono ?_
          rintro e X52 ⟨r, rv, hv, ev, er, rfl, hR, hP, D52⟩
          have HC := Lib.hid (hP.cells HI.out.ok hR.rd)
          refine hK _ _ (.mk' (((Turns.refl [] Y).trans D11 (by simp)).trans D52 (by simp)) trivial) ?_
          clear hK K
          try simp only [sI, sS, sZ]
          refine rkA 12 40 40959 (v := ?_) ?_ (.mk' (((Turns.refl [] Y).trans D11 (by simp)).trans D52 (by simp)) trivial) ?_
          rotate_left
          · intro W hS; go_simp; all_goals with_reducible rfl
          try simp only [sI, sS, sZ]
          refine rkA 13 53 49151 (v := ?_) ?_ (.mk' (((Turns.refl [] Y).trans D11 (by simp)).trans D52 (by simp)) trivial) ?_
          rotate_left
          · intro W hS; go_simp; all_goals with_reducible rfl
          try simp only [sI, sS, sZ]
          refine rkA 14 54 65535 (v := ?_) ?_ (.mk' (((Turns.refl [] Y).trans D11 (by simp)).trans D52 (by simp)) trivial) ?_
          rotate_left
          · intro W hS; go_simp; all_goals with_reducible rfl
          try simp only [sI, sS, sZ]
          refine rk1 16 131071 (fun K hK => ?_)
          refine wp_store_blk 72 _ _ (by rfl) g11 (by rfl) (recCells r rv hv ev) zz 72 (by rfl) (B11.turns ((Turns.refl [] X11).trans D52 (by simp)) (by simp)) (by rw [HZL.out, HC.out.1]) (size_rec _ HC.out.1) HC.out.2 (fun X99 hb99 ht99 => ?_)
          have D99 : Turns [] Y X99 := (((Turns.refl [] Y).trans D11 (by simp)).trans D52 (by simp)).trans ht99 (by intro x hx; simp at hx; exact .inr (by rw [hx]; exact G11.out))
          have hRF := hR.store ((((Turns.refl [] X52)).mono (L' := [g11]) (by simp)).trans ht99 (fun x hx => .inl hx)) (.inl (by have := GL11.out.2; have := (Turns.refl [] X11).size; omega))
          refine hK _ _ (.mk' D99 trivial) ?_
          clear hK K
          try simp only [sI, sS, sZ]
          refine rkA 17 12 262143 (v := ?_) ?_ (.mk' D99 trivial) ?_
          rotate_left
          · intro W hS; go_simp; all_goals with_reducible rfl
          try simp only [sI, sS, sZ]
          refine rkZ ?_
          go_wp2_with fail
          go_meet
          exact ⟨g11, r, rv, hv, ev, er, rfl, rfl, hb99, hRF.rd, hP, D99⟩
      case rest =>
        generalize wc = wy at *
        obtain ⟨g1, r1, rv1, hv1, ev1, er1, rfl, rfl, b1, hR1, hP1, ty⟩ := hcut
        clear R8 hz8 MK S0 Q0 Q1
        obtain ⟨Z, hZ⟩ : ∃ q, q = wy.drew := ⟨_, rfl⟩
        have tZ : Turns [] wy Z := by rw [hZ]; exact (Turns.refl _ _).drew
        have HZZ := Lib.hid hZ
        have tYZ := ty.trans tZ (by simp)
        have t7Z := HTY.out.2.1.trans tYZ (by simp)
        have R7 := (H7.out.2.2.1.turns t7Z (by simp)).all
        have b9Z := HTY.out.2.2.turns tYZ (by simp)
        have Q0 := (b9Z.cell (i * 2)).trans HCC.out.1
        have Q1 := (b9Z.cell (i * 2 + 1)).trans HCC.out.2
        have MK := Lib.hid (fun W (t : Turns [] Z W) => RMake_any L HI.out.ok HI.out.bt ti si _ _ _ (fun b => b < Z.heap.size) W ((((H7.out.2.2.2.1.keep (t7Z.keeps0 _))).mono (S' := fun b => b < Z.heap.size) (fun j hj _ => hj)).keep (t.keeps0 _)))
        have HR1 := Lib.hid (And.intro b1 (And.intro hR1 (And.intro hP1 (And.intro tZ t7Z))))
        have S0 : Turns [] Z Z := Turns.refl _ _
        clear hZ tZ tYZ t7Z b9Z b1 hR1 hP1 ty
        go_upto_region 12 with fail
        go_cut [13, 14] (fun u8 u9 wz => ∃ g r rv hv ev er, u8 = .pointer (some ⟨g, 0, none⟩) ∧ u9 = .int .i64 er ∧ Blk wz g (recCells r rv hv ev) 77 ∧ RecR wz r rv hv ev ∧ MkP L ti si r er ∧ Turns [] Z wz)
        case first =>
          refine rk0 (fun W => Turns [] Z W) (fun _ => True) 18 18 ?_
          rw [← HZZ.out]
          refine rkY 0 56 1 rfl (yieldsIf_load_mid (by rfl) _ _ rfl pR 0 (by rfl) _ _ (fun W hS => rangeV hS R7) Tryz.underlying32 rfl hzR) (.mk' S0 trivial) ?_
          try simp only [sI, sS, sZ]
          refine rkA 1 57 3 (v := ?_) ?_ (.mk' S0 trivial) ?_
          rotate_left
          · intro W hS; go_simp; all_goals with_reducible rfl
          try simp only [sI, sS, sZ]
          refine rkA 2 58 7 (v := ?_) ?_ (.mk' S0 trivial) ?_
          rotate_left
          · intro W hS; go_simp; all_goals with_reducible rfl
          try simp only [sI, sS, sZ]
          refine rkA 3 59 15 (v := ?_) ?_ (.mk' S0 trivial) ?_
          rotate_left
          · intro W hS; go_simp; all_goals with_reducible rfl
          try simp only [sI, sS, sZ]
          refine rkA 4 60 31 (v := ?_) ?_ (.mk' S0 trivial) ?_
          rotate_left
          · intro W hS; go_simp; all_goals with_reducible rfl
          try simp only [sI, sS, sZ]
          refine rkA 5 61 63 (v := ?_) ?_ (.mk' S0 trivial) ?_
          rotate_left
          · intro W hS; have c0 := cellL hS Q0 (by simp); go_simp; all_goals with_reducible rfl
          try simp only [sI, sS, sZ]
          refine rkA 6 62 127 (v := ?_) ?_ (.mk' S0 trivial) ?_
          rotate_left
          · intro W hS; go_simp; all_goals with_reducible rfl
          try simp only [sI, sS, sZ]
          refine rkA 7 63 255 (v := ?_) ?_ (.mk' S0 trivial) ?_
          rotate_left
          · intro W hS; go_simp; all_goals with_reducible rfl
          try simp only [sI, sS, sZ]
          refine rkA 8 64 511 (v := ?_) ?_ (.mk' S0 trivial) ?_
          rotate_left
          · intro W hS; go_simp; all_goals with_reducible rfl
          try simp only [sI, sS, sZ]
          refine rkA 9 65 1023 (v := ?_) ?_ (.mk' S0 trivial) ?_
          rotate_left
          · intro W hS; go_simp; all_goals with_reducible rfl
          try simp only [sI, sS, sZ]
          refine rkA 10 66 2047 (v := ?_) ?_ (.mk' S0 trivial) ?_
          rotate_left
          · intro W hS; have c0 := cellL hS Q1 (by simp); go_simp; all_goals with_reducible rfl
          try simp only [sI, sS, sZ]
          refine rk2 11 15 4095 34815 (fun K hK => ?_) (fun K hK => ?_)
          · go_simp
            refine (MK.out Z (Turns.refl [] Z)).mono ?_
            rintro e X67 ⟨r, rv, hv, ev, er, rfl, hR, hP, D67⟩
            have HC := Lib.hid (hP.cells HI.out.ok hR.rd)
            refine hK _ _ (.mk' ((Turns.refl [] Z).trans D67 (by simp)) trivial) ?_
            clear hK K
            try simp only [sI, sS, sZ]
            refine rkA 12 55 8191 (v := ?_) ?_ (.mk' ((Turns.refl [] Z).trans D67 (by simp)) trivial) ?_
            rotate_left
            · intro W hS; go_simp; all_goals with_reducible rfl
            try simp only [sI, sS, sZ]
            refine rkA 13 68 16383 (v := ?_) ?_ (.mk' ((Turns.refl [] Z).trans D67 (by simp)) trivial) ?_
            rotate_left
            · intro W hS; go_simp; all_goals with_reducible rfl
            try simp only [sI, sS, sZ]
            refine rkA 14 69 32767 (v := ?_) ?_ (.mk' ((Turns.refl [] Z).trans D67 (by simp)) trivial) ?_
            rotate_left
            · intro W hS; go_simp; all_goals with_reducible rfl
            try simp only [sI, sS, sZ]
            refine rk1 15 65535 (fun K hK => ?_)
            refine wp_alloc_arr 77 (by rfl) zz.toArray hz82 ?_
            have B13 := Blk.new X67 zz 77
            have D13 : Turns [] X67 (X67.alloc (.cells zz.toArray 77)) := (Turns.refl _ _).alloc _
            obtain ⟨g13, hg13⟩ : ∃ g, g = X67.heap.size := ⟨_, rfl⟩
            have G13 := Lib.hid (show Z.heap.size ≤ g13 by rw [hg13]; exact ((Turns.refl [] Z).trans D67 (by simp)).size)
            have GL13 := Lib.hid (show X67.heap.size ≤ g13 ∧ g13 < (X67.alloc (.cells zz.toArray 77)).heap.size by rw [hg13]; simp)
            rw [← hg13] at B13 ⊢
            clear hg13
            generalize X67.alloc (.cells zz.toArray 77) = X13 at B13 D13 GL13 ⊢
            refine hK _ _ (.mk' (((Turns.refl [] Z).trans D67 (by simp)).trans D13 (by simp)) trivial) ?_
            clear hK K
            try simp only [sI, sS, sZ]
            refine rk1 16 131071 (fun K hK => ?_)
            refine wp_store_blk 77 _ _ (by rfl) g13 (by rfl) (recCells r rv hv ev) zz 77 (by rfl) (B13.turns (Turns.refl [] X13) (by simp)) (by rw [HZL.out, HC.out.1]) (size_rrec _ HC.out.1) HC.out.2 (fun X99 hb99 ht99 => ?_)
            have D99 : Turns [] Z X99 := (((Turns.refl [] Z).trans D67 (by simp)).trans D13 (by simp)).trans ht99 (by intro x hx; simp at hx; exact .inr (by rw [hx]; exact G13.out))
            have hRF := hR.store (((((Turns.refl [] X67).trans D13 (by simp))).mono (L' := [g13]) (by simp)).trans ht99 (fun x hx => .inl hx)) (by show ¬ g13 < Z.heap.size; have := G13.out; omega) (.inr (by have := GL13.out.1; have := (Turns.refl [] X67).size; omega))
            refine hK _ _ (.mk' D99 trivial) ?_
            clear hK K
            try simp only [sI, sS, sZ]
            refine rkA 17 14 262143 (v := ?_) ?_ (.mk' D99 trivial) ?_
            rotate_left
            · intro W hS; go_simp; all_goals with_reducible rfl
            try simp only [sI, sS, sZ]
            refine rkZ ?_
            go_wp2_with fail
            go_meet
            exact ⟨g13, r, rv, hv, ev, er, rfl, rfl, hb99, hRF, hP, D99⟩
          · refine wp_alloc_arr 77 (by rfl) zz.toArray hz82 ?_
            have B13 := Blk.new Z zz 77
            have D13 : Turns [] Z (Z.alloc (.cells zz.toArray 77)) := (Turns.refl _ _).alloc _
            obtain ⟨g13, hg13⟩ : ∃ g, g = Z.heap.size := ⟨_, rfl⟩
            have G13 := Lib.hid (show Z.heap.size ≤ g13 by rw [hg13]; exact (Turns.refl [] Z).size)
            have GL13 := Lib.hid (show Z.heap.size ≤ g13 ∧ g13 < (Z.alloc (.cells zz.toArray 77)).heap.size by rw [hg13]; simp)
            rw [← hg13] at B13 ⊢
            clear hg13
            generalize Z.alloc (.cells zz.toArray 77) = X13 at B13 D13 GL13 ⊢
            refine hK _ _ (.mk' ((Turns.refl [] Z).trans D13 (by simp)) trivial) ?_
            clear hK K
            try simp only [sI, sS, sZ]
            refine rk1 11 36863 (fun K hK => ?_)
            go_simp
            refine (MK.out X13 ((Turns.refl [] Z).trans D13 (by simp))).mono ?_
            rintro e X67 ⟨r, rv, hv, ev, er, rfl, hR, hP, D67⟩
            have HC := Lib.hid (hP.cells HI.out.ok hR.rd)
            refine hK _ _ (.mk' (((Turns.refl [] Z).trans D13 (by simp)).trans D67 (by simp)) trivial) ?_
            clear hK K
            try simp only [sI, sS, sZ]
            refine rkA 12 55 40959 (v := ?_) ?_ (.mk' (((Turns.refl [] Z).trans D13 (by simp)).trans D67 (by simp)) trivial) ?_
            rotate_left
            · intro W hS; go_simp; all_goals with_reducible rfl
            try simp only [sI, sS, sZ]
            refine rkA 13 68 49151 (v := ?_) ?_ (.mk' (((Turns.refl [] Z).trans D13 (by simp)).trans D67 (by simp)) trivial) ?_
            rotate_left
            · intro W hS; go_simp; all_goals with_reducible rfl
            try simp only [sI, sS, sZ]
            refine rkA 14 69 65535 (v := ?_) ?_ (.mk' (((Turns.refl [] Z).trans D13 (by simp)).trans D67 (by simp)) trivial) ?_
            rotate_left
            · intro W hS; go_simp; all_goals with_reducible rfl
            try simp only [sI, sS, sZ]
            refine rk1 16 131071 (fun K hK => ?_)
            refine wp_store_blk 77 _ _ (by rfl) g13 (by rfl) (recCells r rv hv ev) zz 77 (by rfl) (B13.turns ((Turns.refl [] X13).trans D67 (by simp)) (by simp)) (by rw [HZL.out, HC.out.1]) (size_rrec _ HC.out.1) HC.out.2 (fun X99 hb99 ht99 => ?_)
            have D99 : Turns [] Z X99 := (((Turns.refl [] Z).trans D13 (by simp)).trans D67 (by simp)).trans ht99 (by intro x hx; simp at hx; exact .inr (by rw [hx]; exact G13.out))
            have hRF := hR.store ((((Turns.refl [] X67)).mono (L' := [g13]) (by simp)).trans ht99 (fun x hx => .inl hx)) (by show ¬ g13 < Z.heap.size; have := G13.out; omega) (.inl (by have := GL13.out.2; have := (Turns.refl [] X13).size; omega))
            refine hK _ _ (.mk' D99 trivial) ?_
            clear hK K
            try simp only [sI, sS, sZ]
            refine rkA 17 14 262143 (v := ?_) ?_ (.mk' D99 trivial) ?_
            rotate_left
            · intro W hS; go_simp; all_goals with_reducible rfl
            try simp only [sI, sS, sZ]
            refine rkZ ?_
            go_wp2_with fail
            go_meet
            exact ⟨g13, r, rv, hv, ev, er, rfl, rfl, hb99, hRF, hP, D99⟩
        case rest =>
          generalize wc = wz at *
          obtain ⟨g2, r, rv, hv, ev, er, rfl, rfl, b2, hR, hP, tz⟩ := hcut
          clear R7 MK S0 Q0 Q1
          obtain ⟨rfl, rfl⟩ := HR1.out.2.2.1.one HI.out hP
          obtain ⟨hbo, hco, hrl, hel⟩ := hP.few HI.out
          obtain ⟨U, hU⟩ : ∃ q, q = wz.drew := ⟨_, rfl⟩
          have tU : Turns [] wz U := by rw [hU]; exact (Turns.refl _ _).drew
          have HUU := Lib.hid hU
          have tyU := (HR1.out.2.2.2.1.trans tz (by simp)).trans tU (by simp)
          have hc1 := HR1.out.2.2.1.cells HI.out.ok HR1.out.2.1
          have hc2 := hP.cells HI.out.ok hR
          have TRf := fun W (t : Turns [] U W) => RecToRef_any r hbo rv1 hv1 ev1 W (HR1.out.2.1.on (tyU.trans t (by simp)))
          have SAf := fun W (t : Turns [] U W) => RecSame_same r hbo hco hrl hel rv1 hv1 ev1 rv hv ev W (HR1.out.2.1.on (tyU.trans t (by simp))) (hR.on (tU.trans t (by simp)))
          have b1U := HR1.out.1.turns tyU (by simp)
          have b2U := b2.turns tU (by simp)
          have R1 := b1U.all
          have R2 := b2U.all
          have hz1 := size_rec _ hc1.1
          have hz2 := size_rrec _ hc2.1
          obtain ⟨rcs, hrcs⟩ : ∃ x, x = recCells r rv1 hv1 ev1 := ⟨_, rfl⟩
          obtain ⟨rds, hrds⟩ : ∃ x, x = recCells r rv hv ev := ⟨_, rfl⟩
          rw [← hrcs] at R1 hz1
          rw [← hrds] at R2 hz2
          simp only [← hrcs] at TRf
          simp only [← hrcs, ← hrds] at SAf
          have HTR := Lib.hid TRf
          have HSA := Lib.hid SAf
          have HRR := Lib.hid (And.intro hrcs (And.intro hbo hP))
          have t7U := HR1.out.2.2.2.2.trans (tz.trans tU (by simp)) (by simp)
          have HTU := Lib.hid (And.intro t7U tyU)
          have hee : (er != er) = false := by simp
          have S0 : Turns [] U U := Turns.refl _ _
          have hec := hP
          clear hU tU tyU hc1 hc2 TRf SAf b1U b2U b2 hR hP tz hbo hco hrl hel hrcs hrds t7U
          have HEC := Lib.hid (show er = 0 ∨ er = 2 by rcases hec with ⟨h, _⟩ | ⟨h, _⟩; exact .inl h; exact .inr h)
          clear hec
          go_upto_region 13 with fail
          refine rk0 (fun W => Turns [] U W) (fun _ => True) 10 10 ?_
          rw [← HUU.out]
          refine rkA 0 70 1 (v := ?_) ?_ (.mk' S0 trivial) ?_
          rotate_left
          · intro W hS; go_simp; all_goals with_reducible rfl
          try simp only [sI, sS, sZ]
          refine rkA 1 71 3 (v := ?_) ?_ (.mk' S0 trivial) ?_
          rotate_left
          · intro W hS; go_simp; all_goals with_reducible rfl
          try simp only [sI, sS, sZ]
          refine rkA 2 72 7 (v := ?_) ?_ (.mk' S0 trivial) ?_
          rotate_left
          · intro W hS; go_simp; all_goals with_reducible rfl
          try simp only [sI, sS, sZ]
          refine rkA 3 73 15 (v := ?_) ?_ (.mk' S0 trivial) ?_
          rotate_left
          · intro W hS; go_simp; all_goals with_reducible rfl
          try simp only [sI, sS, sZ]
          refine rkY 4 74 31 rfl (yieldsIf_load_mid (by rfl) _ _ rfl g1 0 (by rfl) rcs _ (fun W hS => rangeV hS R1) Tryz.underlying72 rfl hz1) (.mk' S0 trivial) ?_
          try simp only [sI, sS, sZ]
          refine rkY 6 76 95 rfl (yieldsIf_load_mid (by rfl) _ _ rfl g2 0 (by rfl) rds _ (fun W hS => rangeV hS R2) Tryz.underlying77 rfl hz2) (.mk' S0 trivial) ?_
          try simp only [sI, sS, sZ]
          refine rk1 5 127 (fun K hK => ?_)
          go_simp
          refine (HTR.out U (Turns.refl [] U)).mono ?_
          rintro e X75 ⟨rfl, D75⟩
          refine hK _ _ (.mk' ((Turns.refl [] U).trans D75 (by simp)) trivial) ?_
          clear hK K
          try simp only [sI, sS, sZ]
          refine rk1 7 255 (fun K hK => ?_)
          go_simp
          refine (HSA.out X75 ((Turns.refl [] U).trans D75 (by simp))).mono ?_
          rintro e X77 ⟨rfl, D77⟩
          refine hK _ _ (.mk' (((Turns.refl [] U).trans D75 (by simp)).trans D77 (by simp)) trivial) ?_
          clear hK K
          try simp only [sI, sS, sZ]
          refine rkA 8 78 511 (v := ?_) ?_ (.mk' (((Turns.refl [] U).trans D75 (by simp)).trans D77 (by simp)) trivial) ?_
          rotate_left
          · intro W hS; go_simp; all_goals with_reducible rfl
          try simp only [sI, sS, sZ]
          refine rkA 9 79 1023 (v := ?_) ?_ (.mk' (((Turns.refl [] U).trans D75 (by simp)).trans D77 (by simp)) trivial) ?_
          rotate_left
          · intro W hS; go_simp; all_goals with_reducible rfl
          try simp only [sI, sS, sZ]
          refine rkZ ?_
          have HF13 := Lib.hid (((Turns.refl [] U).trans D75 (by simp)).trans D77 (by simp))
          have HT13 := Lib.hid (And.intro (HTU.out.1.trans HF13.out (by simp)) (HTU.out.2.trans HF13.out (by simp)))
          clear R1 R2 S0 hz2
          rcases HEC.out with rfl | rfl
          · obtain ⟨hok, htrue, -⟩ := HRR.out.2.2.good HI.out
            obtain ⟨V, hV⟩ : ∃ q, q = X77.drew := ⟨_, rfl⟩
            have tV : Turns [] X77 V := by rw [hV]; exact (Turns.refl _ _).drew
            have HVV := Lib.hid hV
            have tyV := HT13.out.2.trans tV (by simp)
            have b1V := HR1.out.1.turns tyV (by simp)
            have RB := rec_blk b1V
            obtain ⟨nn, hnn⟩ : ∃ x, x = r.blk.n := ⟨_, rfl⟩
            have E9 : V.cell? ⟨g1, 9, none⟩ = some (.int .i64 nn) := by rw [hnn]; exact RB 0 _ rfl
            have RR := b1V.all
            rw [← HRR.out.1] at RR
            obtain ⟨bcs, hbcs⟩ : ∃ x, x = r.blk.cells := ⟨_, rfl⟩
            have hbl : bcs.length = 66 := by rw [hbcs]; exact Blo.cells_len hok.blk
            rw [← hbcs] at RB
            have hzb := size_blo bcs hbl
            obtain ⟨hh, hhh⟩ : ∃ x, x = bloH r.blk := ⟨_, rfl⟩
            have hhl : hh.length = 32 := by rw [hhh]; exact bloH_len _
            have FH := Lib.hid (show ∀ W, Calls Tryz.prog 29 #[.agg bcs.toArray] W fun e w' => e = .returned (.agg (bvs hh).toArray) ∧ Turns [] W w' by rw [hbcs, hhh]; exact fun W => CHash_any r.blk hok.blk W)
            have HBD := Lib.hid (built_dig nn hh hhl)
            have CK := Lib.hid (show ∀ W, Turns [] V W → Calls Tryz.prog 28 #[.agg rcs.toArray, .agg (digCells nn hh).toArray] W fun e w' => e = .returned (.bool true) ∧ Turns [] W w' from fun W tW => by
              have h := Check_yes r hok rv1 hv1 ev1 W (HR1.out.2.1.on (tyV.trans tW (by simp)))
              rw [htrue, ← HRR.out.1, ← hnn, ← hhh] at h
              exact h)
            have HTV := Lib.hid (HT13.out.1.trans tV (by simp))
            have S0 : Turns [] V V := Turns.refl _ _
            clear hV tV tyV b1V hok htrue hbcs hbl hhh hhl hnn
            go_upto_region 16 with fail
            refine rk0 (fun W => Turns [] V W) (fun _ => True) 10 10 ?_
            rw [← HVV.out]
            refine rkY 0 82 1 rfl (yieldsIf_load_mid (by rfl) _ _ rfl g1 0 (by rfl) rcs _ (fun W hS => rangeV hS RR) Tryz.underlying72 rfl hz1) (.mk' S0 trivial) ?_
            try simp only [sI, sS, sZ]
            refine rkA 1 83 3 (v := ?_) ?_ (.mk' S0 trivial) ?_
            rotate_left
            · intro W hS; go_simp; all_goals with_reducible rfl
            try simp only [sI, sS, sZ]
            refine rkA 2 84 7 (v := ?_) ?_ (.mk' S0 trivial) ?_
            rotate_left
            · intro W hS; go_simp; all_goals with_reducible rfl
            try simp only [sI, sS, sZ]
            refine rkA 3 85 15 (v := ?_) ?_ (.mk' S0 trivial) ?_
            rotate_left
            · intro W hS; have c0 := cellL hS E9 (by simp); go_simp; all_goals with_reducible rfl
            try simp only [sI, sS, sZ]
            refine rkA 4 86 31 (v := ?_) ?_ (.mk' S0 trivial) ?_
            rotate_left
            · intro W hS; go_simp; all_goals with_reducible rfl
            try simp only [sI, sS, sZ]
            refine rkY 5 87 63 rfl (yieldsIf_load_mid (by rfl) _ _ rfl g1 9 (by rfl) bcs _ (fun W hS => rangeV hS RB) Tryz.underlying70 rfl hzb) (.mk' S0 trivial) ?_
            try simp only [sI, sS, sZ]
            refine rk1 6 127 (fun K hK => ?_)
            go_simp
            refine (FH.out V).mono ?_
            rintro e X88 ⟨rfl, D88⟩
            refine hK _ _ (.mk' ((Turns.refl [] V).trans D88 (by simp)) trivial) ?_
            clear hK K
            try simp only [sI, sS, sZ]
            refine rkY 7 89 255 rfl (yieldsIf_build (by rfl) 55 _ (by rfl) (digCells nn hh).toArray (by have h := HBD.out; simpa [Act.eval] using h)) (.mk' ((Turns.refl [] V).trans D88 (by simp)) trivial) ?_
            try simp only [sI, sS, sZ]
            refine rk1 8 511 (fun K hK => ?_)
            go_simp
            refine (CK.out X88 ((Turns.refl [] V).trans D88 (by simp))).mono ?_
            rintro e X90 ⟨rfl, D90⟩
            refine hK _ _ (.mk' (((Turns.refl [] V).trans D88 (by simp)).trans D90 (by simp)) trivial) ?_
            clear hK K
            try simp only [sI, sS, sZ]
            refine rkA 9 91 1023 (v := ?_) ?_ (.mk' (((Turns.refl [] V).trans D88 (by simp)).trans D90 (by simp)) trivial) ?_
            rotate_left
            · intro W hS; go_simp; all_goals with_reducible rfl
            try simp only [sI, sS, sZ]
            refine rkZ ?_
            have HFF := Lib.hid (((Turns.refl [] V).trans D88 (by simp)).trans D90 (by simp))
            have HEND := Lib.hid (HTV.out.trans HFF.out (by simp))
            clear RB RR E9 S0
            go_wp2_with fail
            go_roundw
            case rel => exact ⟨i + 1, by omega, by go_num, HEND.out⟩
            case measure => (simp [intOf] <;> omega)
          · have HEND := Lib.hid HT13.out.1
            go_wp2_with fail
            go_roundw
            case rel => exact ⟨i + 1, by omega, by go_num, HEND.out⟩
            case measure => (simp [intOf] <;> omega)
    · obtain rfl : i = 3 := by omega
      have HE := Lib.hid (below_of' (H7.out.2.2.2.2.2.trans tr (by simp)))
      clear tr hi hlt
      go_wp2_with fail
      go_ret
      exact ⟨rfl, HE.out⟩
end Go.Proofs.YtoahnhphfabajaaGreat
