/- ReceiptOther, walked. -/
import Derived.Test.YtoahnhphfabajaaRc5
namespace Go.Proofs.Ytoahnhphfabajaa
open Go.RowKit
set_option linter.unusedVariables false
set_option maxRecDepth 10000
set_option linter.unusedSimpArgs false
set_option linter.unnecessarySimpa false

/-- A receipt that was made, against the digest of block k. -/
theorem Check_blk {L : Led} (hI : Inv L) {tx seq : Int} {r : Rec} (hP : MkP L tx seq r 0) {a : Nat} (hb : L.blks[a]? = some r.blk) (hn : r.blk.n = (a : Int) + 1) {rv hv ev : Value} {w : World} (hR : RecR w r rv hv ev) (k : Nat) (bk : Blo) (hk : L.blks[k]? = some bk) :
    Calls Try.prog 39 #[.agg (recCells r rv hv ev).toArray, .agg (digCells bk.n (bloH bk)).toArray] w fun e w' => e = .returned (.bool (bk.n == r.blk.n)) ∧ Turns [] w w' := by
  obtain ⟨hok, htrue, _⟩ := hP.good hI
  obtain ⟨hkl, hke⟩ := List.getElem?_eq_some_iff.1 hk
  have hkn := (hI.link k hkl (by rw [← hI.bt]; exact hkl)).1
  rw [hke] at hkn
  by_cases e : k = a
  · subst e
    rw [hb] at hk
    injection hk with hk
    subst hk
    have h := Check_yes r hok rv hv ev w hR
    rw [htrue] at h
    rw [beq_self_eq_true]
    exact h
  · rw [show (bk.n == r.blk.n) = false from beq_eq_false_iff_ne.2 (by omega)]
    exact Check_no r hok rv hv ev _ _ (bloH_len bk) (by omega) w hR
set_option maxRecDepth 100000 in
set_option maxHeartbeats 16000000 in
theorem ReceiptOther_walk (l : List Stp) (v : Value) (tx by_ : Int) (w0 : World) (hd : Deep StpR w0 (fun _ => True) 4 v l) (hf : ∀ s ∈ l, s.fits) (htx : i64ok tx) (hby : i64ok by_) :
    Calls Try.prog 10 #[v, .int .i64 tx, .int .i64 by_] w0 fun e w' => e = .returned (.bool true) ∧ Below w0.heap.size w0 w' := by
  have WI := Lib.hid (fun W => within15_any tx 20 W htx.1 htx.2 (by omega) (by omega))
  have WB := Lib.hid (fun W => within15_any by_ 9 W hby.1 hby.2 (by omega) (by omega))
  clear htx hby
  obtain ⟨A, c, rfl, _⟩ := hd.form
  have KN := Lib.hid (known15_any w0)
  have HD := Lib.hid (And.intro hd hf)
  clear hd hf
  obtain ⟨n, hn⟩ : ∃ n, n = l.length := ⟨_, rfl⟩
  have HNL := Lib.hid hn
  rw [← hn]
  clear hn
  obtain ⟨zz, hzz⟩ : ∃ z, z = rz := ⟨_, rfl⟩
  have hz81 := zero_rec
  rw [← hzz] at hz81
  have HZL := Lib.hid (show zz.length = 75 by rw [hzz]; exact rz_len)
  clear hzz
  go_enter Try.func10, Try.ntmps10
  go_wp2_with fail
  refine KN.out.mono ?_
  rintro e w1 ⟨rfl, t1⟩
  have hd1 := HD.out.1.keep StpR.lasts (t1.keeps0 _)
  have FW := Lib.hid (by have h := Few14_any l (.slice A l.length c) _ w1 hd1 HD.out.2; rw [← HNL.out] at h; exact h : Calls Try.prog 26 #[.slice A n c] w1 fun e w' => e = .returned (.bool (fewSs l)) ∧ Turns [] w1 w')
  have H1 := Lib.hid (And.intro t1 hd1)
  clear t1 hd1 KN
  go_wp2_with fail
  refine FW.out.mono ?_
  rintro e w2 ⟨rfl, t2⟩
  have t02 := Lib.hid (H1.out.1.trans t2 (by simp))
  have HD2 := Lib.hid (H1.out.2.keep StpR.lasts (t2.keeps0 _))
  clear t2 FW
  cases hfew : fewSs l
  · go_wp2_with fail
    go_ret
    exact ⟨rfl, below_of' t02.out⟩
  have BD := Lib.hid (by have h := Build_any l (.slice A l.length c) _ w2 HD2.out HD.out.2 hfew; rw [← HNL.out] at h; exact h : Calls Try.prog 27 #[.slice A n c] w2 _)
  have hinv := bldL_inv HD.out.2 hfew
  obtain ⟨L, hL⟩ : ∃ L, L = bldL l := ⟨_, rfl⟩
  rw [← hL] at BD hinv
  have HI := Lib.hid hinv.1
  have HLL := Lib.hid hL
  clear hL hinv
  go_wp2_with fail
  refine BD.out.mono ?_
  rintro e w3 ⟨ov, bv, tv, rfl, l3, t3⟩
  obtain ⟨A1, c1, rfl, _⟩ := l3.opn.form
  obtain ⟨A2, c2, rfl, _⟩ := l3.blks.form'
  obtain ⟨A3, c3, rfl, _⟩ := l3.txs.form
  have OF := Lib.hid (Of_any L HI.out.ok _ _ _ _ w3 l3)
  have H3 := Lib.hid (t02.out.trans t3 (by simp))
  clear l3 t3 BD
  go_wp2_with fail
  refine OF.out.mono ?_
  rintro e w4 ⟨bv4, rfl, l4, t4⟩
  obtain ⟨A4, c4, rfl, _⟩ := l4.blks.form'
  obtain ⟨p7, hp4⟩ : ∃ x, x = w4.heap.size := ⟨_, rfl⟩
  obtain ⟨x7, hx4⟩ : ∃ x, x = w4.alloc (.cells #[.int .i64 L.next, .slice A1 L.opn.length c1, .slice A4 L.blks.length c4, .slice A3 L.txs.length c3] 57) := ⟨_, rfl⟩
  have b4 := Blk.new w4 [.int .i64 L.next, .slice A1 L.opn.length c1, .slice A4 L.blks.length c4, .slice A3 L.txs.length c3] 57
  rw [show w4.alloc (.cells [.int .i64 L.next, .slice A1 L.opn.length c1, .slice A4 L.blks.length c4, .slice A3 L.txs.length c3].toArray 57) = x7 from hx4.symm, ← hp4] at b4
  have tx4 : Turns [] w4 x7 := by rw [hx4]; exact (Turns.refl _ _).alloc _
  have H7 := Lib.hid (And.intro b4 (And.intro (l4.keep (tx4.keeps0 _)) ((H3.out.trans t4 (by simp)).trans tx4 (by simp))))
  have HX4 := Lib.hid (And.intro hx4 hp4)
  clear b4 t4 tx4 l4 hx4 hp4 OF
  go_upto_region 6 with fail
  rw [← HX4.out.1, ← HX4.out.2]
  obtain ⟨Y, hY⟩ : ∃ q, q = x7.drew := ⟨_, rfl⟩
  have tY : Turns [] x7 Y := by rw [hY]; exact (Turns.refl _ _).drew
  have HYY := Lib.hid hY
  have R7 := (H7.out.1.turns tY (by simp)).all
  have hz7 := size_led (.int .i64 L.next) (.slice A1 L.opn.length c1) (.slice A4 L.blks.length c4) (.slice A3 L.txs.length c3)
  have MK := Lib.hid (fun W (t : Turns [] Y W) => Make_any L HI.out.ok HI.out.bt (tx % 20) 0 _ _ _ _ W (H7.out.2.1.keep ((tY.trans t (by simp)).keeps0 _)))
  have HTY := Lib.hid tY
  have S0 : Turns [] Y Y := Turns.refl _ _
  clear hY tY
  go_cut [8, 9] (fun u8 u9 wy => ∃ g r rv hv ev er, u8 = .pointer (some ⟨g, 0, none⟩) ∧ u9 = .int .i64 er ∧ Blk wy g (recCells r rv hv ev) 81 ∧ RecR wy r rv hv ev ∧ MkP L (tx % 20) 0 r er ∧ Turns [] Y wy)
  case first =>
    refine rk0 (fun W => Turns [] Y W) (fun _ => True) 10 10 ?_
    rw [← HYY.out]
    refine rkY 0 22 1 rfl (yieldsIf_load_mid (by rfl) _ _ rfl p7 0 (by rfl) _ _ (fun W hS => rangeV hS R7) Try.underlying57 rfl hz7) (.mk' S0 trivial) ?_
    try simp only [sI, sS, sZ]
    refine rkA 1 23 3 (v := ?_) ?_ (.mk' S0 trivial) ?_
    rotate_left
    · intro W hS; go_simp; all_goals with_reducible rfl
    try simp only [sI, sS, sZ]
    refine rk2 2 7 7 131 (fun K hK => ?_) (fun K hK => ?_)
    · go_simp
      refine (WI.out Y).mono ?_
      rintro e X90 ⟨rfl, rfl⟩
      refine hK _ _ (.mk' (Turns.refl [] Y) trivial) ?_
      clear hK K
      try simp only [sI, sS, sZ]
      refine rk2 3 7 15 135 (fun K hK => ?_) (fun K hK => ?_)
      · go_simp
        refine (MK.out Y (Turns.refl [] Y)).mono ?_
        rintro e X25 ⟨r, rv, hv, ev, er, rfl, hR, hP, D25⟩
        have HC := Lib.hid (hP.cells HI.out.ok hR.rd)
        refine hK _ _ (.mk' ((Turns.refl [] Y).trans D25 (by simp)) trivial) ?_
        clear hK K
        try simp only [sI, sS, sZ]
        refine rkA 4 21 31 (v := ?_) ?_ (.mk' ((Turns.refl [] Y).trans D25 (by simp)) trivial) ?_
        rotate_left
        · intro W hS; go_simp; all_goals with_reducible rfl
        try simp only [sI, sS, sZ]
        refine rkA 5 26 63 (v := ?_) ?_ (.mk' ((Turns.refl [] Y).trans D25 (by simp)) trivial) ?_
        rotate_left
        · intro W hS; go_simp; all_goals with_reducible rfl
        try simp only [sI, sS, sZ]
        refine rkA 6 27 127 (v := ?_) ?_ (.mk' ((Turns.refl [] Y).trans D25 (by simp)) trivial) ?_
        rotate_left
        · intro W hS; go_simp; all_goals with_reducible rfl
        try simp only [sI, sS, sZ]
        refine rk1 7 255 (fun K hK => ?_)
        refine wp_alloc_arr 81 (by rfl) zz.toArray hz81 ?_
        have B8 := Blk.new X25 zz 81
        have D8 : Turns [] X25 (X25.alloc (.cells zz.toArray 81)) := (Turns.refl _ _).alloc _
        obtain ⟨g8, hg8⟩ : ∃ g, g = X25.heap.size := ⟨_, rfl⟩
        have G8 := Lib.hid (show Y.heap.size ≤ g8 by rw [hg8]; exact ((Turns.refl [] Y).trans D25 (by simp)).size)
        have GL8 := Lib.hid (show X25.heap.size ≤ g8 ∧ g8 < (X25.alloc (.cells zz.toArray 81)).heap.size by rw [hg8]; simp)
        rw [← hg8] at B8 ⊢
        clear hg8
        generalize X25.alloc (.cells zz.toArray 81) = X8 at B8 D8 GL8 ⊢
        refine hK _ _ (.mk' (((Turns.refl [] Y).trans D25 (by simp)).trans D8 (by simp)) trivial) ?_
        clear hK K
        try simp only [sI, sS, sZ]
        refine rk1 8 511 (fun K hK => ?_)
        refine wp_store_blk 81 _ _ (by rfl) g8 (by rfl) (recCells r rv hv ev) zz 81 (by rfl) (B8.turns (Turns.refl [] X8) (by simp)) (by rw [HZL.out, HC.out.1]) (size_rec _ HC.out.1) HC.out.2 (fun X99 hb99 ht99 => ?_)
        have D99 : Turns [] Y X99 := (((Turns.refl [] Y).trans D25 (by simp)).trans D8 (by simp)).trans ht99 (by intro x hx; simp at hx; exact .inr (by rw [hx]; exact G8.out))
        have hRF := hR.store (((((Turns.refl [] X25).trans D8 (by simp))).mono (L' := [g8]) (by simp)).trans ht99 (fun x hx => .inl hx)) (.inr (by have := GL8.out.1; have := (Turns.refl [] X25).size; omega))
        refine hK _ _ (.mk' D99 trivial) ?_
        clear hK K
        try simp only [sI, sS, sZ]
        refine rkA 9 9 1023 (v := ?_) ?_ (.mk' D99 trivial) ?_
        rotate_left
        · intro W hS; go_simp; all_goals with_reducible rfl
        try simp only [sI, sS, sZ]
        refine rkZ ?_
        go_wp2_with fail
        go_meet
        exact ⟨g8, r, rv, hv, ev, er, rfl, rfl, hb99, hRF.rd, hP, D99⟩
      · refine wp_alloc_arr 81 (by rfl) zz.toArray hz81 ?_
        have B8 := Blk.new Y zz 81
        have D8 : Turns [] Y (Y.alloc (.cells zz.toArray 81)) := (Turns.refl _ _).alloc _
        obtain ⟨g8, hg8⟩ : ∃ g, g = Y.heap.size := ⟨_, rfl⟩
        have G8 := Lib.hid (show Y.heap.size ≤ g8 by rw [hg8]; exact (Turns.refl [] Y).size)
        have GL8 := Lib.hid (show Y.heap.size ≤ g8 ∧ g8 < (Y.alloc (.cells zz.toArray 81)).heap.size by rw [hg8]; simp)
        rw [← hg8] at B8 ⊢
        clear hg8
        generalize Y.alloc (.cells zz.toArray 81) = X8 at B8 D8 GL8 ⊢
        refine hK _ _ (.mk' ((Turns.refl [] Y).trans D8 (by simp)) trivial) ?_
        clear hK K
        try simp only [sI, sS, sZ]
        refine rk1 3 143 (fun K hK => ?_)
        go_simp
        refine (MK.out X8 ((Turns.refl [] Y).trans D8 (by simp))).mono ?_
        rintro e X25 ⟨r, rv, hv, ev, er, rfl, hR, hP, D25⟩
        have HC := Lib.hid (hP.cells HI.out.ok hR.rd)
        refine hK _ _ (.mk' (((Turns.refl [] Y).trans D8 (by simp)).trans D25 (by simp)) trivial) ?_
        clear hK K
        try simp only [sI, sS, sZ]
        refine rkA 4 21 159 (v := ?_) ?_ (.mk' (((Turns.refl [] Y).trans D8 (by simp)).trans D25 (by simp)) trivial) ?_
        rotate_left
        · intro W hS; go_simp; all_goals with_reducible rfl
        try simp only [sI, sS, sZ]
        refine rkA 5 26 191 (v := ?_) ?_ (.mk' (((Turns.refl [] Y).trans D8 (by simp)).trans D25 (by simp)) trivial) ?_
        rotate_left
        · intro W hS; go_simp; all_goals with_reducible rfl
        try simp only [sI, sS, sZ]
        refine rkA 6 27 255 (v := ?_) ?_ (.mk' (((Turns.refl [] Y).trans D8 (by simp)).trans D25 (by simp)) trivial) ?_
        rotate_left
        · intro W hS; go_simp; all_goals with_reducible rfl
        try simp only [sI, sS, sZ]
        refine rk1 8 511 (fun K hK => ?_)
        refine wp_store_blk 81 _ _ (by rfl) g8 (by rfl) (recCells r rv hv ev) zz 81 (by rfl) (B8.turns ((Turns.refl [] X8).trans D25 (by simp)) (by simp)) (by rw [HZL.out, HC.out.1]) (size_rec _ HC.out.1) HC.out.2 (fun X99 hb99 ht99 => ?_)
        have D99 : Turns [] Y X99 := (((Turns.refl [] Y).trans D8 (by simp)).trans D25 (by simp)).trans ht99 (by intro x hx; simp at hx; exact .inr (by rw [hx]; exact G8.out))
        have hRF := hR.store ((((Turns.refl [] X25)).mono (L' := [g8]) (by simp)).trans ht99 (fun x hx => .inl hx)) (.inl (by have := GL8.out.2; have := (Turns.refl [] X8).size; omega))
        refine hK _ _ (.mk' D99 trivial) ?_
        clear hK K
        try simp only [sI, sS, sZ]
        refine rkA 9 9 1023 (v := ?_) ?_ (.mk' D99 trivial) ?_
        rotate_left
        · intro W hS; go_simp; all_goals with_reducible rfl
        try simp only [sI, sS, sZ]
        refine rkZ ?_
        go_wp2_with fail
        go_meet
        exact ⟨g8, r, rv, hv, ev, er, rfl, rfl, hb99, hRF.rd, hP, D99⟩
    · refine wp_alloc_arr 81 (by rfl) zz.toArray hz81 ?_
      have B8 := Blk.new Y zz 81
      have D8 : Turns [] Y (Y.alloc (.cells zz.toArray 81)) := (Turns.refl _ _).alloc _
      obtain ⟨g8, hg8⟩ : ∃ g, g = Y.heap.size := ⟨_, rfl⟩
      have G8 := Lib.hid (show Y.heap.size ≤ g8 by rw [hg8]; exact (Turns.refl [] Y).size)
      have GL8 := Lib.hid (show Y.heap.size ≤ g8 ∧ g8 < (Y.alloc (.cells zz.toArray 81)).heap.size by rw [hg8]; simp)
      rw [← hg8] at B8 ⊢
      clear hg8
      generalize Y.alloc (.cells zz.toArray 81) = X8 at B8 D8 GL8 ⊢
      refine hK _ _ (.mk' ((Turns.refl [] Y).trans D8 (by simp)) trivial) ?_
      clear hK K
      try simp only [sI, sS, sZ]
      refine rk1 2 135 (fun K hK => ?_)
      go_simp
      refine (WI.out X8).mono ?_
      rintro e X90 ⟨rfl, rfl⟩
      refine hK _ _ (.mk' ((Turns.refl [] Y).trans D8 (by simp)) trivial) ?_
      clear hK K
      try simp only [sI, sS, sZ]
      refine rk1 3 143 (fun K hK => ?_)
      go_simp
      refine (MK.out X8 ((Turns.refl [] Y).trans D8 (by simp))).mono ?_
      rintro e X25 ⟨r, rv, hv, ev, er, rfl, hR, hP, D25⟩
      have HC := Lib.hid (hP.cells HI.out.ok hR.rd)
      refine hK _ _ (.mk' (((Turns.refl [] Y).trans D8 (by simp)).trans D25 (by simp)) trivial) ?_
      clear hK K
      try simp only [sI, sS, sZ]
      refine rkA 4 21 159 (v := ?_) ?_ (.mk' (((Turns.refl [] Y).trans D8 (by simp)).trans D25 (by simp)) trivial) ?_
      rotate_left
      · intro W hS; go_simp; all_goals with_reducible rfl
      try simp only [sI, sS, sZ]
      refine rkA 5 26 191 (v := ?_) ?_ (.mk' (((Turns.refl [] Y).trans D8 (by simp)).trans D25 (by simp)) trivial) ?_
      rotate_left
      · intro W hS; go_simp; all_goals with_reducible rfl
      try simp only [sI, sS, sZ]
      refine rkA 6 27 255 (v := ?_) ?_ (.mk' (((Turns.refl [] Y).trans D8 (by simp)).trans D25 (by simp)) trivial) ?_
      rotate_left
      · intro W hS; go_simp; all_goals with_reducible rfl
      try simp only [sI, sS, sZ]
      refine rk1 8 511 (fun K hK => ?_)
      refine wp_store_blk 81 _ _ (by rfl) g8 (by rfl) (recCells r rv hv ev) zz 81 (by rfl) (B8.turns ((Turns.refl [] X8).trans D25 (by simp)) (by simp)) (by rw [HZL.out, HC.out.1]) (size_rec _ HC.out.1) HC.out.2 (fun X99 hb99 ht99 => ?_)
      have D99 : Turns [] Y X99 := (((Turns.refl [] Y).trans D8 (by simp)).trans D25 (by simp)).trans ht99 (by intro x hx; simp at hx; exact .inr (by rw [hx]; exact G8.out))
      have hRF := hR.store ((((Turns.refl [] X25)).mono (L' := [g8]) (by simp)).trans ht99 (fun x hx => .inl hx)) (.inl (by have := GL8.out.2; have := (Turns.refl [] X8).size; omega))
      refine hK _ _ (.mk' D99 trivial) ?_
      clear hK K
      try simp only [sI, sS, sZ]
      refine rkA 9 9 1023 (v := ?_) ?_ (.mk' D99 trivial) ?_
      rotate_left
      · intro W hS; go_simp; all_goals with_reducible rfl
      try simp only [sI, sS, sZ]
      refine rkZ ?_
      go_wp2_with fail
      go_meet
      exact ⟨g8, r, rv, hv, ev, er, rfl, rfl, hb99, hRF.rd, hP, D99⟩
  case rest =>
    generalize wc = wy at *
    obtain ⟨g8, r, rv, hv, ev, er, rfl, rfl, b8, hR, hP, ty⟩ := hcut
    clear R7 hz7 MK S0 WI
    have HTW := Lib.hid (HTY.out.trans ty (by simp))
    clear ty
    have h02 : er = 0 ∨ er = 2 := by
      rcases hP with ⟨h, _⟩ | ⟨h, _⟩
      · exact .inl h
      · exact .inr h
    rcases h02 with rfl | rfl
    · obtain ⟨hok, -, a, b, sn, xs, t, cc, -, -, hba, -, -, -, -, hbn⟩ := hP.good HI.out
      have HG := Lib.hid (And.intro hok (And.intro hba (And.intro hbn hP)))
      have hc := hP.cells HI.out.ok hR
      obtain ⟨rcs, hrcs⟩ : ∃ x, x = recCells r rv hv ev := ⟨_, rfl⟩
      have hzr := size_rec rcs (by rw [hrcs]; exact hc.1)
      have CR0 := (rec_blk b8) 0 _ rfl
      rw [Nat.add_zero] at CR0
      rw [← hrcs] at b8
      have HRC := Lib.hid hrcs
      have HB8 := Lib.hid (And.intro b8 hR)
      have ha9 : a < L.blks.length := (List.getElem?_eq_some_iff.1 hba).1
      obtain ⟨nb, hnb⟩ : ∃ n, n = L.blks.length := ⟨_, rfl⟩
      have hnb1 : nb ≤ 100000 := by rw [hnb]; exact HI.out.ok.blks
      have HNB := Lib.hid hnb
      have ha10 : a ≤ 100000 := by omega
      have HCR := Lib.hid CR0
      clear hok hba hbn hP hc hrcs b8 hR CR0 hnb ha9
      go_wp2_with fail
      go_loopw [10] (fun i wr => ∃ k : Nat, k ≤ nb ∧ i = .int .i64 k ∧ Turns [] wy wr) (fun i _ => nb - (intOf i).toNat)
      case atStart => exact ⟨0, by omega, rfl, Turns.refl _ _⟩
      case round =>
        rename World => wr
        obtain ⟨k, hk, rfl, tr⟩ := hrel
        have c2 := (H7.out.1.turns (HTW.out.trans tr (by simp)) (by simp)).cell 2
        simp only [List.getElem?_cons_zero, List.getElem?_cons_succ] at c2
        rw [← HNB.out] at c2
        by_cases hlt : k < nb
        · have hki : (k : Int) < (nb : Int) := by omega
          have hkl : k < L.blks.length := by have := HNB.out; omega
          obtain ⟨V, hV⟩ : ∃ q, q = wr.drew := ⟨_, rfl⟩
          have tV : Turns [] wr V := by rw [hV]; exact (Turns.refl _ _).drew
          have HVV := Lib.hid hV
          have C2 := cellV tV c2
          have twV := tr.trans tV (by simp)
          obtain ⟨b0, off, cB, hv2, _, hb0, rg⟩ := blo_at (H7.out.2.1.keep ((HTW.out.trans twV (by simp)).keeps0 _)).blks HI.out.ok.blo k hkl
          injection hv2 with e1 e2 e3
          subst e1 e3
          clear e2
          obtain ⟨bk, hbk⟩ : ∃ b, b = L.blks[k] := ⟨_, rfl⟩
          have hkb : L.blks[k]? = some bk := by rw [hbk]; exact List.getElem?_eq_getElem hkl
          have hck := HI.out.ok.blo _ (List.getElem_mem hkl)
          have hkn := (HI.out.link k hkl (by rw [← HI.out.bt]; exact hkl)).1
          rw [← hbk] at rg hck hkn
          have CN := (blo_part hck rg).1
          obtain ⟨cs, hcs⟩ : ∃ c, c = bk.cells := ⟨_, rfl⟩
          have hcl : cs.length = 66 := by rw [hcs]; exact Blo.cells_len hck
          rw [← hcs] at rg
          have hzb := size_blo cs hcl
          have FH := Lib.hid (show ∀ W, Calls Try.prog 22 #[.agg cs.toArray] W fun e w' => e = .returned (.agg (bvs (bloH bk)).toArray) ∧ Turns [] W w' by rw [hcs]; exact fun W => CHash_any bk hck W)
          have HBD := Lib.hid (built_dig bk.n (bloH bk) (bloH_len bk))
          have HDL := Lib.hid (And.intro (show (digCells 0 (zeros 32)).length = (digCells bk.n (bloH bk)).length by simp [digCells, bvs_length, zeros_length, bloH_len]) (And.intro (size_dig bk.n (bloH bk) (bloH_len _)) (show ∀ u ∈ digCells bk.n (bloH bk), u.oneCell' = true by intro u hu; simp only [digCells, List.mem_cons] at hu; rcases hu with rfl | hu; rfl; exact bvs_one _ u hu)))
          have hzd := zero_dig
          have HKB := Lib.hid hkb
          have HTV := Lib.hid twV
          have S0 : Turns [] V V := Turns.refl _ _
          clear hV tV twV hb0 hbk hkb hck hkn hcs hcl tr hkl
          go_upto_region 12 with fail
          clear c2
          go_cut [11] (fun u11 wz => ∃ g, u11 = .pointer (some ⟨g, 0, none⟩) ∧ Blk wz g (digCells bk.n (bloH bk)) 62 ∧ Turns [] V wz)
          case first =>
            refine rk0 (fun W => Turns [] V W) (fun _ => True) 15 15 ?_
            rw [← HVV.out]
            refine rkA 0 37 1 (v := ?_) ?_ (.mk' S0 trivial) ?_
            rotate_left
            · intro W hS; go_simp; all_goals with_reducible rfl
            try simp only [sI, sS, sZ]
            refine rkA 1 38 3 (v := ?_) ?_ (.mk' S0 trivial) ?_
            rotate_left
            · intro W hS; have c0 := cellL hS C2 (by simp); go_simp; all_goals with_reducible rfl
            try simp only [sI, sS, sZ]
            refine rkA 2 39 7 (v := ?_) ?_ (.mk' S0 trivial) ?_
            rotate_left
            · intro W hS; go_simp; all_goals with_reducible rfl
            try simp only [sI, sS, sZ]
            refine rkA 3 40 15 (v := ?_) ?_ (.mk' S0 trivial) ?_
            rotate_left
            · intro W hS; go_simp; all_goals with_reducible rfl
            try simp only [sI, sS, sZ]
            refine rkA 4 41 31 (v := ?_) ?_ (.mk' S0 trivial) ?_
            rotate_left
            · intro W hS; go_simp; all_goals with_reducible rfl
            try simp only [sI, sS, sZ]
            refine rkA 5 42 63 (v := ?_) ?_ (.mk' S0 trivial) ?_
            rotate_left
            · intro W hS; have c0 := cellL hS CN (by simp); go_simp; all_goals with_reducible rfl
            try simp only [sI, sS, sZ]
            refine rkA 6 43 127 (v := ?_) ?_ (.mk' S0 trivial) ?_
            rotate_left
            · intro W hS; go_simp; all_goals with_reducible rfl
            try simp only [sI, sS, sZ]
            refine rkA 7 44 255 (v := ?_) ?_ (.mk' S0 trivial) ?_
            rotate_left
            · intro W hS; have c0 := cellL hS C2 (by simp); go_simp; all_goals with_reducible rfl
            try simp only [sI, sS, sZ]
            refine rkA 8 45 511 (v := ?_) ?_ (.mk' S0 trivial) ?_
            rotate_left
            · intro W hS; go_simp; all_goals with_reducible rfl
            try simp only [sI, sS, sZ]
            refine rkA 9 46 1023 (v := ?_) ?_ (.mk' S0 trivial) ?_
            rotate_left
            · intro W hS; go_simp; all_goals with_reducible rfl
            try simp only [sI, sS, sZ]
            refine rkY 10 47 2047 rfl (yieldsIf_load_mid (by rfl) _ _ rfl b0 (off + k * 66) (by rfl) cs _ (fun W hS => rangeV hS rg) Try.underlying28 rfl hzb) (.mk' S0 trivial) ?_
            try simp only [sI, sS, sZ]
            refine rk2 11 13 4095 10239 (fun K hK => ?_) (fun K hK => ?_)
            · go_simp
              refine (FH.out V).mono ?_
              rintro e X48 ⟨rfl, D48⟩
              refine hK _ _ (.mk' ((Turns.refl [] V).trans D48 (by simp)) trivial) ?_
              clear hK K
              try simp only [sI, sS, sZ]
              refine rkY 12 49 8191 rfl (yieldsIf_build (by rfl) 62 _ (by rfl) (digCells bk.n (bloH bk)).toArray (by have h := HBD.out; simpa [Act.eval] using h)) (.mk' ((Turns.refl [] V).trans D48 (by simp)) trivial) ?_
              try simp only [sI, sS, sZ]
              refine rk1 13 16383 (fun K hK => ?_)
              refine wp_alloc_arr 62 (by rfl) (digCells 0 (zeros 32)).toArray hzd ?_
              have B11 := Blk.new X48 (digCells 0 (zeros 32)) 62
              have D11 : Turns [] X48 (X48.alloc (.cells (digCells 0 (zeros 32)).toArray 62)) := (Turns.refl _ _).alloc _
              obtain ⟨g11, hg11⟩ : ∃ g, g = X48.heap.size := ⟨_, rfl⟩
              have G11 := Lib.hid (show V.heap.size ≤ g11 by rw [hg11]; exact ((Turns.refl [] V).trans D48 (by simp)).size)
              have GL11 := Lib.hid (show X48.heap.size ≤ g11 ∧ g11 < (X48.alloc (.cells (digCells 0 (zeros 32)).toArray 62)).heap.size by rw [hg11]; simp)
              rw [← hg11] at B11 ⊢
              clear hg11
              generalize X48.alloc (.cells (digCells 0 (zeros 32)).toArray 62) = X11 at B11 D11 GL11 ⊢
              refine hK _ _ (.mk' (((Turns.refl [] V).trans D48 (by simp)).trans D11 (by simp)) trivial) ?_
              clear hK K
              try simp only [sI, sS, sZ]
              refine rk1 14 32767 (fun K hK => ?_)
              refine wp_store_blk 62 _ _ (by rfl) g11 (by rfl) (digCells bk.n (bloH bk)) (digCells 0 (zeros 32)) 62 (by rfl) (B11.turns (Turns.refl [] X11) (by simp)) HDL.out.1 HDL.out.2.1 HDL.out.2.2 (fun X98 hb98 ht98 => ?_)
              have D98 : Turns [] V X98 := (((Turns.refl [] V).trans D48 (by simp)).trans D11 (by simp)).trans ht98 (by intro x hx; simp at hx; exact .inr (by rw [hx]; exact G11.out))
              refine hK _ _ (.mk' D98 trivial) ?_
              clear hK K
              try simp only [sI, sS, sZ]
              refine rkZ ?_
              go_wp2_with fail
              go_meet
              exact ⟨g11, rfl, hb98, D98⟩
            · refine wp_alloc_arr 62 (by rfl) (digCells 0 (zeros 32)).toArray hzd ?_
              have B11 := Blk.new V (digCells 0 (zeros 32)) 62
              have D11 : Turns [] V (V.alloc (.cells (digCells 0 (zeros 32)).toArray 62)) := (Turns.refl _ _).alloc _
              obtain ⟨g11, hg11⟩ : ∃ g, g = V.heap.size := ⟨_, rfl⟩
              have G11 := Lib.hid (show V.heap.size ≤ g11 by rw [hg11]; exact (Turns.refl [] V).size)
              have GL11 := Lib.hid (show V.heap.size ≤ g11 ∧ g11 < (V.alloc (.cells (digCells 0 (zeros 32)).toArray 62)).heap.size by rw [hg11]; simp)
              rw [← hg11] at B11 ⊢
              clear hg11
              generalize V.alloc (.cells (digCells 0 (zeros 32)).toArray 62) = X11 at B11 D11 GL11 ⊢
              refine hK _ _ (.mk' ((Turns.refl [] V).trans D11 (by simp)) trivial) ?_
              clear hK K
              try simp only [sI, sS, sZ]
              refine rk1 11 12287 (fun K hK => ?_)
              go_simp
              refine (FH.out X11).mono ?_
              rintro e X48 ⟨rfl, D48⟩
              refine hK _ _ (.mk' (((Turns.refl [] V).trans D11 (by simp)).trans D48 (by simp)) trivial) ?_
              clear hK K
              try simp only [sI, sS, sZ]
              refine rkY 12 49 16383 rfl (yieldsIf_build (by rfl) 62 _ (by rfl) (digCells bk.n (bloH bk)).toArray (by have h := HBD.out; simpa [Act.eval] using h)) (.mk' (((Turns.refl [] V).trans D11 (by simp)).trans D48 (by simp)) trivial) ?_
              try simp only [sI, sS, sZ]
              refine rk1 14 32767 (fun K hK => ?_)
              refine wp_store_blk 62 _ _ (by rfl) g11 (by rfl) (digCells bk.n (bloH bk)) (digCells 0 (zeros 32)) 62 (by rfl) (B11.turns ((Turns.refl [] X11).trans D48 (by simp)) (by simp)) HDL.out.1 HDL.out.2.1 HDL.out.2.2 (fun X98 hb98 ht98 => ?_)
              have D98 : Turns [] V X98 := (((Turns.refl [] V).trans D11 (by simp)).trans D48 (by simp)).trans ht98 (by intro x hx; simp at hx; exact .inr (by rw [hx]; exact G11.out))
              refine hK _ _ (.mk' D98 trivial) ?_
              clear hK K
              try simp only [sI, sS, sZ]
              refine rkZ ?_
              go_wp2_with fail
              go_meet
              exact ⟨g11, rfl, hb98, D98⟩
          case rest =>
            generalize wc = wz at *
            obtain ⟨g11, rfl, b11, tz⟩ := hcut
            clear hzd hzb rg
            obtain ⟨U, hU⟩ : ∃ q, q = wz.drew := ⟨_, rfl⟩
            have tU : Turns [] wz U := by rw [hU]; exact (Turns.refl _ _).drew
            have HUU := Lib.hid hU
            have tVU := tz.trans tU (by simp)
            have C2 := cellV tVU C2
            have CN := cellV tVU CN
            have twU := HTV.out.trans tVU (by simp)
            have CR := cellV twU HCR.out
            have RR := (HB8.out.1.turns twU (by simp)).all
            have RD := (b11.turns tU (by simp)).all
            have hzg := size_dig bk.n (bloH bk) (bloH_len bk)
            have CK := Lib.hid (show ∀ W, Turns [] U W → Calls Try.prog 39 #[.agg rcs.toArray, .agg (digCells bk.n (bloH bk)).toArray] W fun e w' => e = .returned (.bool (bk.n == r.blk.n)) ∧ Turns [] W w' by rw [HRC.out]; exact fun W t => Check_blk HI.out HG.out.2.2.2 HG.out.2.1 HG.out.2.2.1 (HB8.out.2.on (twU.trans t (by simp))) k bk HKB.out)
            have HTU := Lib.hid twU
            have S0 : Turns [] U U := Turns.refl _ _
            clear b11 tz hU tU tVU twU
            go_upto_region 13 with fail
            refine rk0 (fun W => Turns [] U W) (fun _ => True) 14 14 ?_
            rw [← HUU.out]
            refine rkY 0 50 1 rfl (yieldsIf_load_mid (by rfl) _ _ rfl g8 0 (by rfl) rcs _ (fun W hS => rangeV hS RR) Try.underlying81 rfl hzr) (.mk' S0 trivial) ?_
            try simp only [sI, sS, sZ]
            refine rkY 1 51 3 rfl (yieldsIf_load_mid (by rfl) _ _ rfl g11 0 (by rfl) (digCells bk.n (bloH bk)) _ (fun W hS => rangeV hS RD) Try.underlying62 rfl hzg) (.mk' S0 trivial) ?_
            try simp only [sI, sS, sZ]
            refine rkA 3 53 11 (v := ?_) ?_ (.mk' S0 trivial) ?_
            rotate_left
            · intro W hS; go_simp; all_goals with_reducible rfl
            try simp only [sI, sS, sZ]
            refine rkA 4 54 27 (v := ?_) ?_ (.mk' S0 trivial) ?_
            rotate_left
            · intro W hS; have c0 := cellL hS C2 (by simp); go_simp; all_goals with_reducible rfl
            try simp only [sI, sS, sZ]
            refine rkA 5 55 59 (v := ?_) ?_ (.mk' S0 trivial) ?_
            rotate_left
            · intro W hS; go_simp; all_goals with_reducible rfl
            try simp only [sI, sS, sZ]
            refine rkA 6 56 123 (v := ?_) ?_ (.mk' S0 trivial) ?_
            rotate_left
            · intro W hS; go_simp; all_goals with_reducible rfl
            try simp only [sI, sS, sZ]
            refine rkA 7 57 251 (v := ?_) ?_ (.mk' S0 trivial) ?_
            rotate_left
            · intro W hS; go_simp; all_goals with_reducible rfl
            try simp only [sI, sS, sZ]
            refine rkA 8 58 507 (v := ?_) ?_ (.mk' S0 trivial) ?_
            rotate_left
            · intro W hS; have c0 := cellL hS CN (by simp); go_simp; all_goals with_reducible rfl
            try simp only [sI, sS, sZ]
            refine rkA 9 59 1019 (v := ?_) ?_ (.mk' S0 trivial) ?_
            rotate_left
            · intro W hS; go_simp; all_goals with_reducible rfl
            try simp only [sI, sS, sZ]
            refine rkA 10 60 2043 (v := ?_) ?_ (.mk' S0 trivial) ?_
            rotate_left
            · intro W hS; go_simp; all_goals with_reducible rfl
            try simp only [sI, sS, sZ]
            refine rkA 11 61 4091 (v := ?_) ?_ (.mk' S0 trivial) ?_
            rotate_left
            · intro W hS; have c0 := cellL hS CR (by simp); go_simp; all_goals with_reducible rfl
            try simp only [sI, sS, sZ]
            refine rkA 12 62 8187 (v := ?_) ?_ (.mk' S0 trivial) ?_
            rotate_left
            · intro W hS; go_simp; all_goals with_reducible rfl
            try simp only [sI, sS, sZ]
            refine rk1 2 8191 (fun K hK => ?_)
            go_simp
            refine (CK.out U (Turns.refl [] U)).mono ?_
            rintro e X52 ⟨rfl, D52⟩
            refine hK _ _ (.mk' ((Turns.refl [] U).trans D52 (by simp)) trivial) ?_
            clear hK K
            try simp only [sI, sS, sZ]
            refine rkA 13 63 16383 (v := ?_) ?_ (.mk' ((Turns.refl [] U).trans D52 (by simp)) trivial) ?_
            rotate_left
            · intro W hS; go_simp; all_goals with_reducible rfl
            try simp only [sI, sS, sZ]
            refine rkZ ?_
            have HE13 := Lib.hid (HTU.out.trans ((Turns.refl [] U).trans D52 (by simp)) (by simp))
            clear C2 CN CR RR RD hzg S0
            go_wp2_with fail
            go_roundw
            case rel => exact ⟨k + 1, by omega, by go_num, HE13.out⟩
            case measure => (simp [intOf] <;> omega)
        · obtain rfl : nb = k := by omega
          obtain ⟨V, hV⟩ : ∃ q, q = wr.drew := ⟨_, rfl⟩
          have tV : Turns [] wr V := by rw [hV]; exact (Turns.refl _ _).drew
          have HVV := Lib.hid hV
          have twV := tr.trans tV (by simp)
          have CR := cellV twV HCR.out
          have hck := HG.out.1.blk
          obtain ⟨cs, hcs⟩ : ∃ c, c = r.blk.cells := ⟨_, rfl⟩
          have hcl : cs.length = 66 := by rw [hcs]; exact Blo.cells_len hck
          have rg := rec_blk (HRC.out ▸ (HB8.out.1.turns twV (by simp)))
          rw [← hcs] at rg
          have hzb := size_blo cs hcl
          have FH := Lib.hid (show ∀ W, Calls Try.prog 22 #[.agg cs.toArray] W fun e w' => e = .returned (.agg (bvs (bloH r.blk)).toArray) ∧ Turns [] W w' by rw [hcs]; exact fun W => CHash_any r.blk hck W)
          obtain ⟨wv, hwv⟩ : ∃ x, x = by_ % 9 := ⟨_, rfl⟩
          have h9a := Int.emod_nonneg by_ (show (9 : Int) ≠ 0 by omega)
          have h9b := Int.emod_lt_of_pos by_ (show (0 : Int) < 9 by omega)
          have WBB : ∀ W, Calls Try.prog 40 #[.int .i64 by_, .int .i64 9] W fun e w' => e = .returned (.int .i64 wv) ∧ W = w' := by rw [hwv]; exact WB.out
          have WB := Lib.hid WBB
          rw [← hwv] at h9a h9b
          have hrn := HG.out.2.2.1
          obtain ⟨d, hdd⟩ : ∃ d, d = r.blk.n + 1 + wv := ⟨_, rfl⟩
          obtain ⟨rn1, hr1⟩ : ∃ d, d = r.blk.n + 1 := ⟨_, rfl⟩
          have hw1 : IntKind.i64.wrap (r.blk.n + 1) = rn1 := by rw [IntWalk.i64_in _ (by omega)]; exact hr1.symm
          have hw2 : IntKind.i64.wrap (rn1 + wv) = d := by rw [IntWalk.i64_in _ (by omega), hdd, hr1]
          have HNE := Lib.hid (show d ≠ r.blk.n by omega)
          clear WBB hwv h9a h9b hrn hr1
          have HBD := Lib.hid (built_dig d (bloH r.blk) (bloH_len _))
          have HDL := Lib.hid (And.intro (show (digCells 0 (zeros 32)).length = (digCells d (bloH r.blk)).length by simp [digCells, bvs_length, zeros_length, bloH_len]) (And.intro (size_dig d (bloH r.blk) (bloH_len _)) (show ∀ u ∈ digCells d (bloH r.blk), u.oneCell' = true by intro u hu; simp only [digCells, List.mem_cons] at hu; rcases hu with rfl | hu; rfl; exact bvs_one _ u hu)))
          have hzd := zero_dig
          have CK := Lib.hid (show ∀ W, Turns [] wy W → Calls Try.prog 39 #[.agg rcs.toArray, .agg (digCells d (bloH r.blk)).toArray] W fun e w' => e = .returned (.bool false) ∧ Turns [] W w' by rw [HRC.out]; exact fun W t => Check_no r HG.out.1 rv hv ev d _ (bloH_len _) HNE.out W (HB8.out.2.on t))
          have HTV := Lib.hid twV
          have S0 : Turns [] V V := Turns.refl _ _
          clear hV tV twV hck hcs hcl tr hdd hlt hk
          go_upto_region 15 with fail
          clear c2
          go_cut [12] (fun u12 wz => ∃ g, u12 = .pointer (some ⟨g, 0, none⟩) ∧ Blk wz g (digCells d (bloH r.blk)) 62 ∧ Turns [] V wz)
          case first =>
            refine rk0 (fun W => Turns [] V W) (fun _ => True) 13 13 ?_
            rw [← HVV.out]
            refine rkA 0 64 1 (v := ?_) ?_ (.mk' S0 trivial) ?_
            rotate_left
            · intro W hS; go_simp; all_goals with_reducible rfl
            try simp only [sI, sS, sZ]
            refine rkA 1 65 3 (v := ?_) ?_ (.mk' S0 trivial) ?_
            rotate_left
            · intro W hS; go_simp; all_goals with_reducible rfl
            try simp only [sI, sS, sZ]
            refine rkA 2 66 7 (v := ?_) ?_ (.mk' S0 trivial) ?_
            rotate_left
            · intro W hS; have c0 := cellL hS CR (by simp); go_simp; all_goals with_reducible rfl
            try simp only [sI, sS, sZ]
            refine rkA 3 67 15 (v := ?_) ?_ (.mk' S0 trivial) ?_
            rotate_left
            · intro W hS; go_simp; all_goals with_reducible rfl
            try simp only [sI, sS, sZ]
            refine rkA 4 68 31 (v := ?_) ?_ (.mk' S0 trivial) ?_
            rotate_left
            · intro W hS; go_simp; all_goals with_reducible rfl
            try simp only [sI, sS, sZ]
            refine rkA 7 71 159 (v := ?_) ?_ (.mk' S0 trivial) ?_
            rotate_left
            · intro W hS; go_simp; all_goals with_reducible rfl
            try simp only [sI, sS, sZ]
            refine rkY 8 72 415 rfl (yieldsIf_load_mid (by rfl) _ _ rfl g8 9 (by rfl) cs _ (fun W hS => rangeV hS rg) Try.underlying28 rfl hzb) (.mk' S0 trivial) ?_
            try simp only [sI, sS, sZ]
            refine rk2 5 11 447 2463 (fun K hK => ?_) (fun K hK => ?_)
            · go_simp
              refine (WB.out V).mono ?_
              rintro e X90 ⟨rfl, rfl⟩
              refine hK _ _ (.mk' (Turns.refl [] V) trivial) ?_
              clear hK K
              try simp only [sI, sS, sZ]
              refine rkA 6 70 511 (v := ?_) ?_ (.mk' (Turns.refl [] V) trivial) ?_
              rotate_left
              · intro W hS; go_simp; all_goals with_reducible rfl
              try simp only [sI, sS, sZ]
              refine rk2 9 11 1023 2559 (fun K hK => ?_) (fun K hK => ?_)
              · go_simp
                refine (FH.out V).mono ?_
                rintro e X73 ⟨rfl, D73⟩
                refine hK _ _ (.mk' ((Turns.refl [] V).trans D73 (by simp)) trivial) ?_
                clear hK K
                try simp only [sI, sS, sZ]
                refine rkY 10 74 2047 rfl (yieldsIf_build (by rfl) 62 _ (by rfl) (digCells d (bloH r.blk)).toArray (by have h := HBD.out; simpa [Act.eval] using h)) (.mk' ((Turns.refl [] V).trans D73 (by simp)) trivial) ?_
                try simp only [sI, sS, sZ]
                refine rk1 11 4095 (fun K hK => ?_)
                refine wp_alloc_arr 62 (by rfl) (digCells 0 (zeros 32)).toArray hzd ?_
                have B12 := Blk.new X73 (digCells 0 (zeros 32)) 62
                have D12 : Turns [] X73 (X73.alloc (.cells (digCells 0 (zeros 32)).toArray 62)) := (Turns.refl _ _).alloc _
                obtain ⟨g12, hg12⟩ : ∃ g, g = X73.heap.size := ⟨_, rfl⟩
                have G12 := Lib.hid (show V.heap.size ≤ g12 by rw [hg12]; exact ((Turns.refl [] V).trans D73 (by simp)).size)
                have GL12 := Lib.hid (show X73.heap.size ≤ g12 ∧ g12 < (X73.alloc (.cells (digCells 0 (zeros 32)).toArray 62)).heap.size by rw [hg12]; simp)
                rw [← hg12] at B12 ⊢
                clear hg12
                generalize X73.alloc (.cells (digCells 0 (zeros 32)).toArray 62) = X12 at B12 D12 GL12 ⊢
                refine hK _ _ (.mk' (((Turns.refl [] V).trans D73 (by simp)).trans D12 (by simp)) trivial) ?_
                clear hK K
                try simp only [sI, sS, sZ]
                refine rk1 12 8191 (fun K hK => ?_)
                refine wp_store_blk 62 _ _ (by rfl) g12 (by rfl) (digCells d (bloH r.blk)) (digCells 0 (zeros 32)) 62 (by rfl) (B12.turns (Turns.refl [] X12) (by simp)) HDL.out.1 HDL.out.2.1 HDL.out.2.2 (fun X97 hb97 ht97 => ?_)
                have D97 : Turns [] V X97 := (((Turns.refl [] V).trans D73 (by simp)).trans D12 (by simp)).trans ht97 (by intro x hx; simp at hx; exact .inr (by rw [hx]; exact G12.out))
                refine hK _ _ (.mk' D97 trivial) ?_
                clear hK K
                try simp only [sI, sS, sZ]
                refine rkZ ?_
                go_wp2_with fail
                go_meet
                exact ⟨g12, rfl, hb97, D97⟩
              · refine wp_alloc_arr 62 (by rfl) (digCells 0 (zeros 32)).toArray hzd ?_
                have B12 := Blk.new V (digCells 0 (zeros 32)) 62
                have D12 : Turns [] V (V.alloc (.cells (digCells 0 (zeros 32)).toArray 62)) := (Turns.refl _ _).alloc _
                obtain ⟨g12, hg12⟩ : ∃ g, g = V.heap.size := ⟨_, rfl⟩
                have G12 := Lib.hid (show V.heap.size ≤ g12 by rw [hg12]; exact (Turns.refl [] V).size)
                have GL12 := Lib.hid (show V.heap.size ≤ g12 ∧ g12 < (V.alloc (.cells (digCells 0 (zeros 32)).toArray 62)).heap.size by rw [hg12]; simp)
                rw [← hg12] at B12 ⊢
                clear hg12
                generalize V.alloc (.cells (digCells 0 (zeros 32)).toArray 62) = X12 at B12 D12 GL12 ⊢
                refine hK _ _ (.mk' ((Turns.refl [] V).trans D12 (by simp)) trivial) ?_
                clear hK K
                try simp only [sI, sS, sZ]
                refine rk1 9 3071 (fun K hK => ?_)
                go_simp
                refine (FH.out X12).mono ?_
                rintro e X73 ⟨rfl, D73⟩
                refine hK _ _ (.mk' (((Turns.refl [] V).trans D12 (by simp)).trans D73 (by simp)) trivial) ?_
                clear hK K
                try simp only [sI, sS, sZ]
                refine rkY 10 74 4095 rfl (yieldsIf_build (by rfl) 62 _ (by rfl) (digCells d (bloH r.blk)).toArray (by have h := HBD.out; simpa [Act.eval] using h)) (.mk' (((Turns.refl [] V).trans D12 (by simp)).trans D73 (by simp)) trivial) ?_
                try simp only [sI, sS, sZ]
                refine rk1 12 8191 (fun K hK => ?_)
                refine wp_store_blk 62 _ _ (by rfl) g12 (by rfl) (digCells d (bloH r.blk)) (digCells 0 (zeros 32)) 62 (by rfl) (B12.turns ((Turns.refl [] X12).trans D73 (by simp)) (by simp)) HDL.out.1 HDL.out.2.1 HDL.out.2.2 (fun X97 hb97 ht97 => ?_)
                have D97 : Turns [] V X97 := (((Turns.refl [] V).trans D12 (by simp)).trans D73 (by simp)).trans ht97 (by intro x hx; simp at hx; exact .inr (by rw [hx]; exact G12.out))
                refine hK _ _ (.mk' D97 trivial) ?_
                clear hK K
                try simp only [sI, sS, sZ]
                refine rkZ ?_
                go_wp2_with fail
                go_meet
                exact ⟨g12, rfl, hb97, D97⟩
            · refine wp_alloc_arr 62 (by rfl) (digCells 0 (zeros 32)).toArray hzd ?_
              have B12 := Blk.new V (digCells 0 (zeros 32)) 62
              have D12 : Turns [] V (V.alloc (.cells (digCells 0 (zeros 32)).toArray 62)) := (Turns.refl _ _).alloc _
              obtain ⟨g12, hg12⟩ : ∃ g, g = V.heap.size := ⟨_, rfl⟩
              have G12 := Lib.hid (show V.heap.size ≤ g12 by rw [hg12]; exact (Turns.refl [] V).size)
              have GL12 := Lib.hid (show V.heap.size ≤ g12 ∧ g12 < (V.alloc (.cells (digCells 0 (zeros 32)).toArray 62)).heap.size by rw [hg12]; simp)
              rw [← hg12] at B12 ⊢
              clear hg12
              generalize V.alloc (.cells (digCells 0 (zeros 32)).toArray 62) = X12 at B12 D12 GL12 ⊢
              refine hK _ _ (.mk' ((Turns.refl [] V).trans D12 (by simp)) trivial) ?_
              clear hK K
              try simp only [sI, sS, sZ]
              refine rk1 5 2495 (fun K hK => ?_)
              go_simp
              refine (WB.out X12).mono ?_
              rintro e X90 ⟨rfl, rfl⟩
              refine hK _ _ (.mk' ((Turns.refl [] V).trans D12 (by simp)) trivial) ?_
              clear hK K
              try simp only [sI, sS, sZ]
              refine rkA 6 70 2559 (v := ?_) ?_ (.mk' ((Turns.refl [] V).trans D12 (by simp)) trivial) ?_
              rotate_left
              · intro W hS; go_simp; all_goals with_reducible rfl
              try simp only [sI, sS, sZ]
              refine rk1 9 3071 (fun K hK => ?_)
              go_simp
              refine (FH.out X12).mono ?_
              rintro e X73 ⟨rfl, D73⟩
              refine hK _ _ (.mk' (((Turns.refl [] V).trans D12 (by simp)).trans D73 (by simp)) trivial) ?_
              clear hK K
              try simp only [sI, sS, sZ]
              refine rkY 10 74 4095 rfl (yieldsIf_build (by rfl) 62 _ (by rfl) (digCells d (bloH r.blk)).toArray (by have h := HBD.out; simpa [Act.eval] using h)) (.mk' (((Turns.refl [] V).trans D12 (by simp)).trans D73 (by simp)) trivial) ?_
              try simp only [sI, sS, sZ]
              refine rk1 12 8191 (fun K hK => ?_)
              refine wp_store_blk 62 _ _ (by rfl) g12 (by rfl) (digCells d (bloH r.blk)) (digCells 0 (zeros 32)) 62 (by rfl) (B12.turns ((Turns.refl [] X12).trans D73 (by simp)) (by simp)) HDL.out.1 HDL.out.2.1 HDL.out.2.2 (fun X97 hb97 ht97 => ?_)
              have D97 : Turns [] V X97 := (((Turns.refl [] V).trans D12 (by simp)).trans D73 (by simp)).trans ht97 (by intro x hx; simp at hx; exact .inr (by rw [hx]; exact G12.out))
              refine hK _ _ (.mk' D97 trivial) ?_
              clear hK K
              try simp only [sI, sS, sZ]
              refine rkZ ?_
              go_wp2_with fail
              go_meet
              exact ⟨g12, rfl, hb97, D97⟩
          case rest =>
            generalize wc = wz at *
            obtain ⟨g12, rfl, b12, tz⟩ := hcut
            clear hzd hzb rg CR S0 hw1 hw2
            have twZ := HTV.out.trans tz (by simp)
            have RR := (HB8.out.1.turns twZ (by simp)).all
            have RD := b12.all
            have hzg := size_dig d (bloH r.blk) (bloH_len _)
            have CKZ := Lib.hid (CK.out wz twZ)
            have HTZ := Lib.hid (H7.out.2.2.trans (HTW.out.trans twZ (by simp)) (by simp))
            clear b12 tz twZ CK
            go_wp2_with (first
              | (refine wpList_load_mid rfl 81 (.tmp 8) rfl g8 0 rfl _ _ RR Try.underlying81 rfl hzr ?_)
              | (refine wpList_load_mid rfl 62 (.tmp 12) rfl g12 0 rfl _ _ RD Try.underlying62 rfl hzg ?_)
              | fail)
            refine CKZ.out.mono ?_
            rintro e w9 ⟨rfl, t9⟩
            have HFF := Lib.hid (below_of' (HTZ.out.trans t9 (by simp)))
            clear t9 CKZ RR RD
            go_wp2_with fail
            go_ret
            exact ⟨rfl, HFF.out⟩
    · have HFF := Lib.hid (below_of' (H7.out.2.2.trans HTW.out (by simp)))
      clear b8 hR hP
      go_wp2_with fail
      go_ret
      exact ⟨rfl, HFF.out⟩
end Go.Proofs.Ytoahnhphfabajaa
