/- ReceiptStays, walked. -/
import Derived.Test.YtoahnhphfabajaaRc8
import Derived.Test.YtoahnhphfabajaaRc7
namespace Go.Proofs.Ytoahnhphfabajaa
open Go.RowKit
set_option linter.unusedVariables false
set_option maxRecDepth 10000
set_option linter.unusedSimpArgs false
set_option linter.unnecessarySimpa false

theorem MkP.stays {L M : Led} (hM : Inv M) (hb : ∀ (a : Nat) (bl : Blo), L.blks[a]? = some bl → M.blks[a]? = some bl) (ht : ∀ (a : Nat) (xs : List Txn), L.txs[a]? = some xs → M.txs[a]? = some xs) {tx seq : Int} {r r' : Rec} {er : Int} (h : MkP L tx seq r 0) (h2 : MkP M tx seq r' er) : er = 0 ∧ r' = r := by
  rcases h with ⟨_, a, b, sn, xs, t, bl, c, g1, g2, g3, g4, rfl, rfl, rfl⟩ | ⟨h, _⟩
  · obtain ⟨h0, bl', c', k1, k2, k3⟩ := h2.here hM (ht a xs g1) g2 (List.getElem?_eq_some_iff.1 g4).1
    rw [hb a bl g3] at k1
    rw [g4] at k2
    injection k1 with k1
    injection k2 with k2
    subst k1 k2
    exact ⟨h0, k3⟩
  · cases h
set_option maxRecDepth 100000 in
set_option maxHeartbeats 16000000 in
theorem ReceiptStays_walk (l m : List Stp) (v vm : Value) (tx : Int) (w0 : World) (hd : Deep StpR w0 (fun _ => True) 4 v l) (hf : ∀ s ∈ l, s.fits) (hdm : Deep StpR w0 (fun _ => True) 4 vm m) (hfm : ∀ s ∈ m, s.fits) (htx : i64ok tx) :
    Calls Try.prog 11 #[v, vm, .int .i64 tx] w0 fun e w' => e = .returned (.bool true) ∧ Below w0.heap.size w0 w' := by
  obtain ⟨Am, cm, rfl, _⟩ := hdm.form
  have WI := Lib.hid (fun W => within15_any tx 20 W htx.1 htx.2 (by omega) (by omega))
  have HM := Lib.hid (And.intro hdm hfm)
  obtain ⟨N, hN⟩ : ∃ n, n = m.length := ⟨_, rfl⟩
  have HNM := Lib.hid hN
  rw [← hN]
  clear htx hdm hfm hN
  obtain ⟨A, c, rfl, _⟩ := hd.form
  have KN := Lib.hid (known15_any w0)
  have HD := Lib.hid (And.intro hd hf)
  clear hd hf
  obtain ⟨n, hn⟩ : ∃ n, n = l.length := ⟨_, rfl⟩
  have HNL := Lib.hid hn
  rw [← hn]
  clear hn
  obtain ⟨zz, hzz⟩ : ∃ z, z = rz := ⟨_, rfl⟩
  have hz81 := zero_rec
  rw [← hzz] at hz81
  have HZL := Lib.hid (show zz.length = 75 by rw [hzz]; exact rz_len)
  clear hzz
  go_enter Try.func11, Try.ntmps11
  go_wp2_with fail
  refine KN.out.mono ?_
  rintro e w1 ⟨rfl, t1⟩
  have hd1 := HD.out.1.keep StpR.lasts (t1.keeps0 _)
  have FW := Lib.hid (by have h := Few14_any l (.slice A l.length c) _ w1 hd1 HD.out.2; rw [← HNL.out] at h; exact h : Calls Try.prog 26 #[.slice A n c] w1 fun e w' => e = .returned (.bool (fewSs l)) ∧ Turns [] w1 w')
  have H1 := Lib.hid (And.intro t1 hd1)
  clear t1 hd1 KN
  go_wp2_with fail
  refine FW.out.mono ?_
  rintro e w2 ⟨rfl, t2⟩
  have t02 := Lib.hid (H1.out.1.trans t2 (by simp))
  have HD2 := Lib.hid (H1.out.2.keep StpR.lasts (t2.keeps0 _))
  clear t2 FW
  cases hfew : fewSs l
  · go_wp2_with fail
    go_ret
    exact ⟨rfl, below_of' t02.out⟩
  have FM := Lib.hid (by have h := Few14_any m (.slice Am m.length cm) _ w2 (HM.out.1.keep StpR.lasts (t02.out.keeps0 _)) HM.out.2; rw [← HNM.out] at h; exact h : Calls Try.prog 26 #[.slice Am N cm] w2 fun e w' => e = .returned (.bool (fewSs m)) ∧ Turns [] w2 w')
  go_wp2_with fail
  refine FM.out.mono ?_
  rintro e wx ⟨rfl, tx'⟩
  have t03 := Lib.hid (t02.out.trans tx' (by simp))
  have HD3 := Lib.hid (HD2.out.keep StpR.lasts (tx'.keeps0 _))
  clear tx' FM
  cases hfm : fewSs m
  · go_wp2_with fail
    go_ret
    exact ⟨rfl, below_of' t03.out⟩
  have BD := Lib.hid (by have h := Build_any l (.slice A l.length c) _ wx HD3.out HD.out.2 hfew; rw [← HNL.out] at h; exact h : Calls Try.prog 27 #[.slice A n c] wx _)
  have hinv := bldL_inv HD.out.2 hfew
  obtain ⟨L, hL⟩ : ∃ L, L = bldL l := ⟨_, rfl⟩
  rw [← hL] at BD hinv
  have HI := Lib.hid hinv.1
  have HLL := Lib.hid hL
  clear hL hinv
  go_wp2_with fail
  refine BD.out.mono ?_
  rintro e w3 ⟨ov, bv, tv, rfl, l3, t3⟩
  obtain ⟨A1, c1, rfl, _⟩ := l3.opn.form
  obtain ⟨A2, c2, rfl, _⟩ := l3.blks.form'
  obtain ⟨A3, c3, rfl, _⟩ := l3.txs.form
  have OF := Lib.hid (Of_any L HI.out.ok _ _ _ _ w3 l3)
  have H3 := Lib.hid (t03.out.trans t3 (by simp))
  clear l3 t3 BD
  go_wp2_with fail
  refine OF.out.mono ?_
  rintro e w4 ⟨bv4, rfl, l4, t4⟩
  obtain ⟨A4, c4, rfl, _⟩ := l4.blks.form'
  obtain ⟨p7, hp4⟩ : ∃ x, x = w4.heap.size := ⟨_, rfl⟩
  obtain ⟨x7, hx4⟩ : ∃ x, x = w4.alloc (.cells #[.int .i64 L.next, .slice A1 L.opn.length c1, .slice A4 L.blks.length c4, .slice A3 L.txs.length c3] 57) := ⟨_, rfl⟩
  have b4 := Blk.new w4 [.int .i64 L.next, .slice A1 L.opn.length c1, .slice A4 L.blks.length c4, .slice A3 L.txs.length c3] 57
  rw [show w4.alloc (.cells [.int .i64 L.next, .slice A1 L.opn.length c1, .slice A4 L.blks.length c4, .slice A3 L.txs.length c3].toArray 57) = x7 from hx4.symm, ← hp4] at b4
  have tx4 : Turns [] w4 x7 := by rw [hx4]; exact (Turns.refl _ _).alloc _
  have H7 := Lib.hid (And.intro b4 (And.intro (l4.keep (tx4.keeps0 _)) ((H3.out.trans t4 (by simp)).trans tx4 (by simp))))
  have HX4 := Lib.hid (And.intro hx4 hp4)
  clear b4 t4 tx4 l4 hx4 hp4 OF
  go_upto_region 6 with fail
  rw [← HX4.out.1, ← HX4.out.2]
  have HFL := Lib.hid (And.intro (fewSs_all' hfew) (fewSs_all' hfm))
  have hn40 : n ≤ 40 := by have := HFL.out.1.2; have := HNL.out; omega
  have hN40 : N ≤ 40 := by have := HFL.out.2.2; have := HNM.out; omega
  obtain ⟨css1, g1, s1, r1, sl1⟩ := (HD.out.1.keep StpR.lasts (H7.out.2.2.keeps0 _)).sl'
  obtain ⟨css2, g2, s2, r2, sl2⟩ := (HM.out.1.keep StpR.lasts (H7.out.2.2.keeps0 _)).sl'
  rw [← HNL.out] at sl1
  rw [← HNM.out] at sl2
  have o0 := own_empty x7 70 4
  have ta : Turns [] x7 (x7.alloc (.cells #[] 70)) := (Turns.refl _ _).alloc _
  obtain ⟨A5, c5, X1, hr1, o1, tb, _⟩ := own_app TStp o0 ((ta.slice sl1 (Nat.le_refl _) (by simp)).more ta.size) (stp_ones g1 r1) ta.size (by omega) (by omega) (by omega) 47
  rw [Nat.zero_add] at hr1 o1
  rw [List.nil_append] at o1
  have t71 : Turns [] x7 X1 := ta.trans tb (by intro x hx; simp [Value.ownBlock] at hx; exact .inr (by omega))
  obtain ⟨A6, c6, X2, hr2, o2, tc, _⟩ := own_app TStp o1 ((t71.slice sl2 (Nat.le_refl _) (by simp)).more t71.size) (stp_ones g2 r2) t71.size (by omega) (by omega) (by omega) 47
  have t72 : Turns [] x7 X2 := t71.trans tc (by intro x hx; exact .inr (o1.lt x (by simpa using hx)).1)
  have D2 : Deep StpR X2 (fun _ => True) 4 (.slice A6 (n + N) c6) (l ++ m) := deep_cat g1 s1 (fun i h h' => StpR.lasts.keep (r1 i h h') (t72.keeps0 _)) g2 s2 (fun i h h' => StpR.lasts.keep (r2 i h h') (t72.keeps0 _)) (by rw [← HNL.out, ← HNM.out]; exact SlS.of_own o2 (fun _ _ => trivial))
  have hall : ∀ s ∈ l ++ m, fewS s = true := fun s hs => by
    rcases List.mem_append.1 hs with h | h
    · exact HFL.out.1.1 s h
    · exact HFL.out.2.1 s h
  have hfits : ∀ s ∈ l ++ m, s.fits := fun s hs => by
    rcases List.mem_append.1 hs with h | h
    · exact HD.out.2 s h
    · exact HM.out.2 s h
  have hlen : (l ++ m).length ≤ 80 := by rw [List.length_append, ← HNL.out, ← HNM.out]; omega
  have BD2 := Build_all (l ++ m) _ _ X2 D2 hfits hall (by omega)
  have hinv2 := bldK_inv' (l ++ m) hfits hall (by omega) (l ++ m).length (Nat.le_refl _)
  rw [← bldL_eq] at hinv2
  have happ := bldL_app l m
  rw [← HLL.out] at happ
  obtain ⟨M, hMM⟩ : ∃ M, M = bldL (l ++ m) := ⟨_, rfl⟩
  rw [← hMM] at BD2 hinv2 happ
  have HM2 := Lib.hid (And.intro hinv2.1 happ)
  have HBD2 := Lib.hid BD2
  have HT72 := Lib.hid t72
  clear css1 g1 s1 r1 sl1 css2 g2 s2 r2 sl2 o0 ta o1 tb t71 o2 tc t72 D2 hall hfits hlen BD2 hinv2 happ hMM
  go_wp2_with (first
    | (at_builtin; refine wpList_append_at rfl (.tmp 26) (.tmp 27) rfl hr1 rfl rfl ?_)
    | (at_builtin; refine wpList_append_at rfl (.tmp 28) (.tmp 29) rfl hr2 rfl rfl ?_)
    | fail)
  clear hr1 hr2
  refine HBD2.out.mono ?_
  rintro e w5 ⟨ov, bv, tv, rfl, l5, t5⟩
  obtain ⟨B1, d1, rfl, _⟩ := l5.opn.form
  obtain ⟨B2, d2, rfl, _⟩ := l5.blks.form'
  obtain ⟨B3, d3, rfl, _⟩ := l5.txs.form
  have OF2 := Lib.hid (Of_any M HM2.out.1.ok _ _ _ _ w5 l5)
  have H5 := Lib.hid (HT72.out.trans t5 (by simp))
  clear l5 t5 HBD2
  go_wp2_with fail
  refine OF2.out.mono ?_
  rintro e w6 ⟨bv6, rfl, l6, t6⟩
  obtain ⟨B4, d4, rfl, _⟩ := l6.blks.form'
  obtain ⟨p8, hp8⟩ : ∃ x, x = w6.heap.size := ⟨_, rfl⟩
  obtain ⟨x8, hx8⟩ : ∃ x, x = w6.alloc (.cells #[.int .i64 M.next, .slice B1 M.opn.length d1, .slice B4 M.blks.length d4, .slice B3 M.txs.length d3] 57) := ⟨_, rfl⟩
  have b8 := Blk.new w6 [.int .i64 M.next, .slice B1 M.opn.length d1, .slice B4 M.blks.length d4, .slice B3 M.txs.length d3] 57
  rw [show w6.alloc (.cells [.int .i64 M.next, .slice B1 M.opn.length d1, .slice B4 M.blks.length d4, .slice B3 M.txs.length d3].toArray 57) = x8 from hx8.symm, ← hp8] at b8
  have tx8 : Turns [] w6 x8 := by rw [hx8]; exact (Turns.refl _ _).alloc _
  have H8 := Lib.hid (And.intro b8 (And.intro (l6.keep (tx8.keeps0 _)) ((H5.out.trans t6 (by simp)).trans tx8 (by simp))))
  have HX8 := Lib.hid (And.intro hx8 hp8)
  clear b8 t6 tx8 l6 hx8 hp8 OF2
  go_upto_region 7 with fail
  rw [← HX8.out.1, ← HX8.out.2]
  obtain ⟨Y, hY⟩ : ∃ q, q = x8.drew := ⟨_, rfl⟩
  have tY : Turns [] x8 Y := by rw [hY]; exact (Turns.refl _ _).drew
  have HYY := Lib.hid hY
  have t7Y := H8.out.2.2.trans tY (by simp)
  have R7 := (H7.out.1.turns t7Y (by simp)).all
  have hz7 := size_led (.int .i64 L.next) (.slice A1 L.opn.length c1) (.slice A4 L.blks.length c4) (.slice A3 L.txs.length c3)
  have MK := Lib.hid (fun W (t : Turns [] Y W) => Make_any L HI.out.ok HI.out.bt (tx % 20) 0 _ _ _ _ W (H7.out.2.1.keep ((t7Y.trans t (by simp)).keeps0 _)))
  have HTY := Lib.hid (And.intro tY t7Y)
  have S0 : Turns [] Y Y := Turns.refl _ _
  clear hY tY t7Y
  go_cut [9, 10] (fun u8 u9 wy => ∃ g r rv hv ev er, u8 = .pointer (some ⟨g, 0, none⟩) ∧ u9 = .int .i64 er ∧ Blk wy g (recCells r rv hv ev) 81 ∧ RecR wy r rv hv ev ∧ MkP L (tx % 20) 0 r er ∧ Turns [] Y wy)
  case first =>
    refine rk0 (fun W => Turns [] Y W) (fun _ => True) 10 10 ?_
    rw [← HYY.out]
    refine rkY 0 34 1 rfl (yieldsIf_load_mid (by rfl) _ _ rfl p7 0 (by rfl) _ _ (fun W hS => rangeV hS R7) Try.underlying57 rfl hz7) (.mk' S0 trivial) ?_
    try simp only [sI, sS, sZ]
    refine rkA 1 35 3 (v := ?_) ?_ (.mk' S0 trivial) ?_
    rotate_left
    · intro W hS; go_simp; all_goals with_reducible rfl
    try simp only [sI, sS, sZ]
    refine rk2 2 7 7 131 (fun K hK => ?_) (fun K hK => ?_)
    · go_simp
      refine (WI.out Y).mono ?_
      rintro e X90 ⟨rfl, rfl⟩
      refine hK _ _ (.mk' (Turns.refl [] Y) trivial) ?_
      clear hK K
      try simp only [sI, sS, sZ]
      refine rk2 3 7 15 135 (fun K hK => ?_) (fun K hK => ?_)
      · go_simp
        refine (MK.out Y (Turns.refl [] Y)).mono ?_
        rintro e X37 ⟨r, rv, hv, ev, er, rfl, hR, hP, D37⟩
        have HC := Lib.hid (hP.cells HI.out.ok hR.rd)
        refine hK _ _ (.mk' ((Turns.refl [] Y).trans D37 (by simp)) trivial) ?_
        clear hK K
        try simp only [sI, sS, sZ]
        refine rkA 4 33 31 (v := ?_) ?_ (.mk' ((Turns.refl [] Y).trans D37 (by simp)) trivial) ?_
        rotate_left
        · intro W hS; go_simp; all_goals with_reducible rfl
        try simp only [sI, sS, sZ]
        refine rkA 5 38 63 (v := ?_) ?_ (.mk' ((Turns.refl [] Y).trans D37 (by simp)) trivial) ?_
        rotate_left
        · intro W hS; go_simp; all_goals with_reducible rfl
        try simp only [sI, sS, sZ]
        refine rkA 6 39 127 (v := ?_) ?_ (.mk' ((Turns.refl [] Y).trans D37 (by simp)) trivial) ?_
        rotate_left
        · intro W hS; go_simp; all_goals with_reducible rfl
        try simp only [sI, sS, sZ]
        refine rk1 7 255 (fun K hK => ?_)
        refine wp_alloc_arr 81 (by rfl) zz.toArray hz81 ?_
        have B9 := Blk.new X37 zz 81
        have D9 : Turns [] X37 (X37.alloc (.cells zz.toArray 81)) := (Turns.refl _ _).alloc _
        obtain ⟨g9, hg9⟩ : ∃ g, g = X37.heap.size := ⟨_, rfl⟩
        have G9 := Lib.hid (show Y.heap.size ≤ g9 by rw [hg9]; exact ((Turns.refl [] Y).trans D37 (by simp)).size)
        have GL9 := Lib.hid (show X37.heap.size ≤ g9 ∧ g9 < (X37.alloc (.cells zz.toArray 81)).heap.size by rw [hg9]; simp)
        rw [← hg9] at B9 ⊢
        clear hg9
        generalize X37.alloc (.cells zz.toArray 81) = X9 at B9 D9 GL9 ⊢
        refine hK _ _ (.mk' (((Turns.refl [] Y).trans D37 (by simp)).trans D9 (by simp)) trivial) ?_
        clear hK K
        try simp only [sI, sS, sZ]
        refine rk1 8 511 (fun K hK => ?_)
        refine wp_store_blk 81 _ _ (by rfl) g9 (by rfl) (recCells r rv hv ev) zz 81 (by rfl) (B9.turns (Turns.refl [] X9) (by simp)) (by rw [HZL.out, HC.out.1]) (size_rec _ HC.out.1) HC.out.2 (fun X99 hb99 ht99 => ?_)
        have D99 : Turns [] Y X99 := (((Turns.refl [] Y).trans D37 (by simp)).trans D9 (by simp)).trans ht99 (by intro x hx; simp at hx; exact .inr (by rw [hx]; exact G9.out))
        have hRF := hR.store (((((Turns.refl [] X37).trans D9 (by simp))).mono (L' := [g9]) (by simp)).trans ht99 (fun x hx => .inl hx)) (.inr (by have := GL9.out.1; have := (Turns.refl [] X37).size; omega))
        refine hK _ _ (.mk' D99 trivial) ?_
        clear hK K
        try simp only [sI, sS, sZ]
        refine rkA 9 10 1023 (v := ?_) ?_ (.mk' D99 trivial) ?_
        rotate_left
        · intro W hS; go_simp; all_goals with_reducible rfl
        try simp only [sI, sS, sZ]
        refine rkZ ?_
        go_wp2_with fail
        go_meet
        exact ⟨g9, r, rv, hv, ev, er, rfl, rfl, hb99, hRF.rd, hP, D99⟩
      · refine wp_alloc_arr 81 (by rfl) zz.toArray hz81 ?_
        have B9 := Blk.new Y zz 81
        have D9 : Turns [] Y (Y.alloc (.cells zz.toArray 81)) := (Turns.refl _ _).alloc _
        obtain ⟨g9, hg9⟩ : ∃ g, g = Y.heap.size := ⟨_, rfl⟩
        have G9 := Lib.hid (show Y.heap.size ≤ g9 by rw [hg9]; exact (Turns.refl [] Y).size)
        have GL9 := Lib.hid (show Y.heap.size ≤ g9 ∧ g9 < (Y.alloc (.cells zz.toArray 81)).heap.size by rw [hg9]; simp)
        rw [← hg9] at B9 ⊢
        clear hg9
        generalize Y.alloc (.cells zz.toArray 81) = X9 at B9 D9 GL9 ⊢
        refine hK _ _ (.mk' ((Turns.refl [] Y).trans D9 (by simp)) trivial) ?_
        clear hK K
        try simp only [sI, sS, sZ]
        refine rk1 3 143 (fun K hK => ?_)
        go_simp
        refine (MK.out X9 ((Turns.refl [] Y).trans D9 (by simp))).mono ?_
        rintro e X37 ⟨r, rv, hv, ev, er, rfl, hR, hP, D37⟩
        have HC := Lib.hid (hP.cells HI.out.ok hR.rd)
        refine hK _ _ (.mk' (((Turns.refl [] Y).trans D9 (by simp)).trans D37 (by simp)) trivial) ?_
        clear hK K
        try simp only [sI, sS, sZ]
        refine rkA 4 33 159 (v := ?_) ?_ (.mk' (((Turns.refl [] Y).trans D9 (by simp)).trans D37 (by simp)) trivial) ?_
        rotate_left
        · intro W hS; go_simp; all_goals with_reducible rfl
        try simp only [sI, sS, sZ]
        refine rkA 5 38 191 (v := ?_) ?_ (.mk' (((Turns.refl [] Y).trans D9 (by simp)).trans D37 (by simp)) trivial) ?_
        rotate_left
        · intro W hS; go_simp; all_goals with_reducible rfl
        try simp only [sI, sS, sZ]
        refine rkA 6 39 255 (v := ?_) ?_ (.mk' (((Turns.refl [] Y).trans D9 (by simp)).trans D37 (by simp)) trivial) ?_
        rotate_left
        · intro W hS; go_simp; all_goals with_reducible rfl
        try simp only [sI, sS, sZ]
        refine rk1 8 511 (fun K hK => ?_)
        refine wp_store_blk 81 _ _ (by rfl) g9 (by rfl) (recCells r rv hv ev) zz 81 (by rfl) (B9.turns ((Turns.refl [] X9).trans D37 (by simp)) (by simp)) (by rw [HZL.out, HC.out.1]) (size_rec _ HC.out.1) HC.out.2 (fun X99 hb99 ht99 => ?_)
        have D99 : Turns [] Y X99 := (((Turns.refl [] Y).trans D9 (by simp)).trans D37 (by simp)).trans ht99 (by intro x hx; simp at hx; exact .inr (by rw [hx]; exact G9.out))
        have hRF := hR.store ((((Turns.refl [] X37)).mono (L' := [g9]) (by simp)).trans ht99 (fun x hx => .inl hx)) (.inl (by have := GL9.out.2; have := (Turns.refl [] X9).size; omega))
        refine hK _ _ (.mk' D99 trivial) ?_
        clear hK K
        try simp only [sI, sS, sZ]
        refine rkA 9 10 1023 (v := ?_) ?_ (.mk' D99 trivial) ?_
        rotate_left
        · intro W hS; go_simp; all_goals with_reducible rfl
        try simp only [sI, sS, sZ]
        refine rkZ ?_
        go_wp2_with fail
        go_meet
        exact ⟨g9, r, rv, hv, ev, er, rfl, rfl, hb99, hRF.rd, hP, D99⟩
    · refine wp_alloc_arr 81 (by rfl) zz.toArray hz81 ?_
      have B9 := Blk.new Y zz 81
      have D9 : Turns [] Y (Y.alloc (.cells zz.toArray 81)) := (Turns.refl _ _).alloc _
      obtain ⟨g9, hg9⟩ : ∃ g, g = Y.heap.size := ⟨_, rfl⟩
      have G9 := Lib.hid (show Y.heap.size ≤ g9 by rw [hg9]; exact (Turns.refl [] Y).size)
      have GL9 := Lib.hid (show Y.heap.size ≤ g9 ∧ g9 < (Y.alloc (.cells zz.toArray 81)).heap.size by rw [hg9]; simp)
      rw [← hg9] at B9 ⊢
      clear hg9
      generalize Y.alloc (.cells zz.toArray 81) = X9 at B9 D9 GL9 ⊢
      refine hK _ _ (.mk' ((Turns.refl [] Y).trans D9 (by simp)) trivial) ?_
      clear hK K
      try simp only [sI, sS, sZ]
      refine rk1 2 135 (fun K hK => ?_)
      go_simp
      refine (WI.out X9).mono ?_
      rintro e X90 ⟨rfl, rfl⟩
      refine hK _ _ (.mk' ((Turns.refl [] Y).trans D9 (by simp)) trivial) ?_
      clear hK K
      try simp only [sI, sS, sZ]
      refine rk1 3 143 (fun K hK => ?_)
      go_simp
      refine (MK.out X9 ((Turns.refl [] Y).trans D9 (by simp))).mono ?_
      rintro e X37 ⟨r, rv, hv, ev, er, rfl, hR, hP, D37⟩
      have HC := Lib.hid (hP.cells HI.out.ok hR.rd)
      refine hK _ _ (.mk' (((Turns.refl [] Y).trans D9 (by simp)).trans D37 (by simp)) trivial) ?_
      clear hK K
      try simp only [sI, sS, sZ]
      refine rkA 4 33 159 (v := ?_) ?_ (.mk' (((Turns.refl [] Y).trans D9 (by simp)).trans D37 (by simp)) trivial) ?_
      rotate_left
      · intro W hS; go_simp; all_goals with_reducible rfl
      try simp only [sI, sS, sZ]
      refine rkA 5 38 191 (v := ?_) ?_ (.mk' (((Turns.refl [] Y).trans D9 (by simp)).trans D37 (by simp)) trivial) ?_
      rotate_left
      · intro W hS; go_simp; all_goals with_reducible rfl
      try simp only [sI, sS, sZ]
      refine rkA 6 39 255 (v := ?_) ?_ (.mk' (((Turns.refl [] Y).trans D9 (by simp)).trans D37 (by simp)) trivial) ?_
      rotate_left
      · intro W hS; go_simp; all_goals with_reducible rfl
      try simp only [sI, sS, sZ]
      refine rk1 8 511 (fun K hK => ?_)
      refine wp_store_blk 81 _ _ (by rfl) g9 (by rfl) (recCells r rv hv ev) zz 81 (by rfl) (B9.turns ((Turns.refl [] X9).trans D37 (by simp)) (by simp)) (by rw [HZL.out, HC.out.1]) (size_rec _ HC.out.1) HC.out.2 (fun X99 hb99 ht99 => ?_)
      have D99 : Turns [] Y X99 := (((Turns.refl [] Y).trans D9 (by simp)).trans D37 (by simp)).trans ht99 (by intro x hx; simp at hx; exact .inr (by rw [hx]; exact G9.out))
      have hRF := hR.store ((((Turns.refl [] X37)).mono (L' := [g9]) (by simp)).trans ht99 (fun x hx => .inl hx)) (.inl (by have := GL9.out.2; have := (Turns.refl [] X9).size; omega))
      refine hK _ _ (.mk' D99 trivial) ?_
      clear hK K
      try simp only [sI, sS, sZ]
      refine rkA 9 10 1023 (v := ?_) ?_ (.mk' D99 trivial) ?_
      rotate_left
      · intro W hS; go_simp; all_goals with_reducible rfl
      try simp only [sI, sS, sZ]
      refine rkZ ?_
      go_wp2_with fail
      go_meet
      exact ⟨g9, r, rv, hv, ev, er, rfl, rfl, hb99, hRF.rd, hP, D99⟩
  case rest =>
    generalize wc = wy at *
    obtain ⟨g9, r1, rv1, hv1, ev1, er1, rfl, rfl, b9, hR1, hP1, ty⟩ := hcut
    clear R7 hz7 MK S0
    obtain ⟨Z, hZ⟩ : ∃ q, q = wy.drew := ⟨_, rfl⟩
    have tZ : Turns [] wy Z := by rw [hZ]; exact (Turns.refl _ _).drew
    have HZZ := Lib.hid hZ
    have t8Z := (HTY.out.1.trans ty (by simp)).trans tZ (by simp)
    have R8 := (H8.out.1.turns t8Z (by simp)).all
    have hz8 := size_led (.int .i64 M.next) (.slice B1 M.opn.length d1) (.slice B4 M.blks.length d4) (.slice B3 M.txs.length d3)
    have MK2 := Lib.hid (fun W (t : Turns [] Z W) => Make_any M HM2.out.1.ok HM2.out.1.bt (tx % 20) 0 _ _ _ _ W (H8.out.2.1.keep ((t8Z.trans t (by simp)).keeps0 _)))
    have HR1 := Lib.hid (And.intro b9 (And.intro hR1 (And.intro hP1 (And.intro tZ t8Z))))
    have S0 : Turns [] Z Z := Turns.refl _ _
    clear hZ tZ t8Z b9 hR1 hP1 ty
    go_upto_region 8 with fail
    go_cut [11, 12] (fun u8 u9 wz => ∃ g r rv hv ev er, u8 = .pointer (some ⟨g, 0, none⟩) ∧ u9 = .int .i64 er ∧ Blk wz g (recCells r rv hv ev) 81 ∧ RecR wz r rv hv ev ∧ MkP M (tx % 20) 0 r er ∧ Turns [] Z wz)
    case first =>
      refine rk0 (fun W => Turns [] Z W) (fun _ => True) 10 10 ?_
      rw [← HZZ.out]
      refine rkY 0 41 1 rfl (yieldsIf_load_mid (by rfl) _ _ rfl p8 0 (by rfl) _ _ (fun W hS => rangeV hS R8) Try.underlying57 rfl hz8) (.mk' S0 trivial) ?_
      try simp only [sI, sS, sZ]
      refine rkA 1 42 3 (v := ?_) ?_ (.mk' S0 trivial) ?_
      rotate_left
      · intro W hS; go_simp; all_goals with_reducible rfl
      try simp only [sI, sS, sZ]
      refine rk2 2 7 7 131 (fun K hK => ?_) (fun K hK => ?_)
      · go_simp
        refine (WI.out Z).mono ?_
        rintro e X90 ⟨rfl, rfl⟩
        refine hK _ _ (.mk' (Turns.refl [] Z) trivial) ?_
        clear hK K
        try simp only [sI, sS, sZ]
        refine rk2 3 7 15 135 (fun K hK => ?_) (fun K hK => ?_)
        · go_simp
          refine (MK2.out Z (Turns.refl [] Z)).mono ?_
          rintro e X44 ⟨r, rv, hv, ev, er, rfl, hR, hP, D44⟩
          have HC := Lib.hid (hP.cells HM2.out.1.ok hR.rd)
          refine hK _ _ (.mk' ((Turns.refl [] Z).trans D44 (by simp)) trivial) ?_
          clear hK K
          try simp only [sI, sS, sZ]
          refine rkA 4 40 31 (v := ?_) ?_ (.mk' ((Turns.refl [] Z).trans D44 (by simp)) trivial) ?_
          rotate_left
          · intro W hS; go_simp; all_goals with_reducible rfl
          try simp only [sI, sS, sZ]
          refine rkA 5 45 63 (v := ?_) ?_ (.mk' ((Turns.refl [] Z).trans D44 (by simp)) trivial) ?_
          rotate_left
          · intro W hS; go_simp; all_goals with_reducible rfl
          try simp only [sI, sS, sZ]
          refine rkA 6 46 127 (v := ?_) ?_ (.mk' ((Turns.refl [] Z).trans D44 (by simp)) trivial) ?_
          rotate_left
          · intro W hS; go_simp; all_goals with_reducible rfl
          try simp only [sI, sS, sZ]
          refine rk1 7 255 (fun K hK => ?_)
          refine wp_alloc_arr 81 (by rfl) zz.toArray hz81 ?_
          have B11 := Blk.new X44 zz 81
          have D11 : Turns [] X44 (X44.alloc (.cells zz.toArray 81)) := (Turns.refl _ _).alloc _
          obtain ⟨g11, hg11⟩ : ∃ g, g = X44.heap.size := ⟨_, rfl⟩
          have G11 := Lib.hid (show Z.heap.size ≤ g11 by rw [hg11]; exact ((Turns.refl [] Z).trans D44 (by simp)).size)
          have GL11 := Lib.hid (show X44.heap.size ≤ g11 ∧ g11 < (X44.alloc (.cells zz.toArray 81)).heap.size by rw [hg11]; simp)
          rw [← hg11] at B11 ⊢
          clear hg11
          generalize X44.alloc (.cells zz.toArray 81) = X11 at B11 D11 GL11 ⊢
          refine hK _ _ (.mk' (((Turns.refl [] Z).trans D44 (by simp)).trans D11 (by simp)) trivial) ?_
          clear hK K
          try simp only [sI, sS, sZ]
          refine rk1 8 511 (fun K hK => ?_)
          refine wp_store_blk 81 _ _ (by rfl) g11 (by rfl) (recCells r rv hv ev) zz 81 (by rfl) (B11.turns (Turns.refl [] X11) (by simp)) (by rw [HZL.out, HC.out.1]) (size_rec _ HC.out.1) HC.out.2 (fun X99 hb99 ht99 => ?_)
          have D99 : Turns [] Z X99 := (((Turns.refl [] Z).trans D44 (by simp)).trans D11 (by simp)).trans ht99 (by intro x hx; simp at hx; exact .inr (by rw [hx]; exact G11.out))
          have hRF := hR.store (((((Turns.refl [] X44).trans D11 (by simp))).mono (L' := [g11]) (by simp)).trans ht99 (fun x hx => .inl hx)) (.inr (by have := GL11.out.1; have := (Turns.refl [] X44).size; omega))
          refine hK _ _ (.mk' D99 trivial) ?_
          clear hK K
          try simp only [sI, sS, sZ]
          refine rkA 9 12 1023 (v := ?_) ?_ (.mk' D99 trivial) ?_
          rotate_left
          · intro W hS; go_simp; all_goals with_reducible rfl
          try simp only [sI, sS, sZ]
          refine rkZ ?_
          go_wp2_with fail
          go_meet
          exact ⟨g11, r, rv, hv, ev, er, rfl, rfl, hb99, hRF.rd, hP, D99⟩
        · refine wp_alloc_arr 81 (by rfl) zz.toArray hz81 ?_
          have B11 := Blk.new Z zz 81
          have D11 : Turns [] Z (Z.alloc (.cells zz.toArray 81)) := (Turns.refl _ _).alloc _
          obtain ⟨g11, hg11⟩ : ∃ g, g = Z.heap.size := ⟨_, rfl⟩
          have G11 := Lib.hid (show Z.heap.size ≤ g11 by rw [hg11]; exact (Turns.refl [] Z).size)
          have GL11 := Lib.hid (show Z.heap.size ≤ g11 ∧ g11 < (Z.alloc (.cells zz.toArray 81)).heap.size by rw [hg11]; simp)
          rw [← hg11] at B11 ⊢
          clear hg11
          generalize Z.alloc (.cells zz.toArray 81) = X11 at B11 D11 GL11 ⊢
          refine hK _ _ (.mk' ((Turns.refl [] Z).trans D11 (by simp)) trivial) ?_
          clear hK K
          try simp only [sI, sS, sZ]
          refine rk1 3 143 (fun K hK => ?_)
          go_simp
          refine (MK2.out X11 ((Turns.refl [] Z).trans D11 (by simp))).mono ?_
          rintro e X44 ⟨r, rv, hv, ev, er, rfl, hR, hP, D44⟩
          have HC := Lib.hid (hP.cells HM2.out.1.ok hR.rd)
          refine hK _ _ (.mk' (((Turns.refl [] Z).trans D11 (by simp)).trans D44 (by simp)) trivial) ?_
          clear hK K
          try simp only [sI, sS, sZ]
          refine rkA 4 40 159 (v := ?_) ?_ (.mk' (((Turns.refl [] Z).trans D11 (by simp)).trans D44 (by simp)) trivial) ?_
          rotate_left
          · intro W hS; go_simp; all_goals with_reducible rfl
          try simp only [sI, sS, sZ]
          refine rkA 5 45 191 (v := ?_) ?_ (.mk' (((Turns.refl [] Z).trans D11 (by simp)).trans D44 (by simp)) trivial) ?_
          rotate_left
          · intro W hS; go_simp; all_goals with_reducible rfl
          try simp only [sI, sS, sZ]
          refine rkA 6 46 255 (v := ?_) ?_ (.mk' (((Turns.refl [] Z).trans D11 (by simp)).trans D44 (by simp)) trivial) ?_
          rotate_left
          · intro W hS; go_simp; all_goals with_reducible rfl
          try simp only [sI, sS, sZ]
          refine rk1 8 511 (fun K hK => ?_)
          refine wp_store_blk 81 _ _ (by rfl) g11 (by rfl) (recCells r rv hv ev) zz 81 (by rfl) (B11.turns ((Turns.refl [] X11).trans D44 (by simp)) (by simp)) (by rw [HZL.out, HC.out.1]) (size_rec _ HC.out.1) HC.out.2 (fun X99 hb99 ht99 => ?_)
          have D99 : Turns [] Z X99 := (((Turns.refl [] Z).trans D11 (by simp)).trans D44 (by simp)).trans ht99 (by intro x hx; simp at hx; exact .inr (by rw [hx]; exact G11.out))
          have hRF := hR.store ((((Turns.refl [] X44)).mono (L' := [g11]) (by simp)).trans ht99 (fun x hx => .inl hx)) (.inl (by have := GL11.out.2; have := (Turns.refl [] X11).size; omega))
          refine hK _ _ (.mk' D99 trivial) ?_
          clear hK K
          try simp only [sI, sS, sZ]
          refine rkA 9 12 1023 (v := ?_) ?_ (.mk' D99 trivial) ?_
          rotate_left
          · intro W hS; go_simp; all_goals with_reducible rfl
          try simp only [sI, sS, sZ]
          refine rkZ ?_
          go_wp2_with fail
          go_meet
          exact ⟨g11, r, rv, hv, ev, er, rfl, rfl, hb99, hRF.rd, hP, D99⟩
      · refine wp_alloc_arr 81 (by rfl) zz.toArray hz81 ?_
        have B11 := Blk.new Z zz 81
        have D11 : Turns [] Z (Z.alloc (.cells zz.toArray 81)) := (Turns.refl _ _).alloc _
        obtain ⟨g11, hg11⟩ : ∃ g, g = Z.heap.size := ⟨_, rfl⟩
        have G11 := Lib.hid (show Z.heap.size ≤ g11 by rw [hg11]; exact (Turns.refl [] Z).size)
        have GL11 := Lib.hid (show Z.heap.size ≤ g11 ∧ g11 < (Z.alloc (.cells zz.toArray 81)).heap.size by rw [hg11]; simp)
        rw [← hg11] at B11 ⊢
        clear hg11
        generalize Z.alloc (.cells zz.toArray 81) = X11 at B11 D11 GL11 ⊢
        refine hK _ _ (.mk' ((Turns.refl [] Z).trans D11 (by simp)) trivial) ?_
        clear hK K
        try simp only [sI, sS, sZ]
        refine rk1 2 135 (fun K hK => ?_)
        go_simp
        refine (WI.out X11).mono ?_
        rintro e X90 ⟨rfl, rfl⟩
        refine hK _ _ (.mk' ((Turns.refl [] Z).trans D11 (by simp)) trivial) ?_
        clear hK K
        try simp only [sI, sS, sZ]
        refine rk1 3 143 (fun K hK => ?_)
        go_simp
        refine (MK2.out X11 ((Turns.refl [] Z).trans D11 (by simp))).mono ?_
        rintro e X44 ⟨r, rv, hv, ev, er, rfl, hR, hP, D44⟩
        have HC := Lib.hid (hP.cells HM2.out.1.ok hR.rd)
        refine hK _ _ (.mk' (((Turns.refl [] Z).trans D11 (by simp)).trans D44 (by simp)) trivial) ?_
        clear hK K
        try simp only [sI, sS, sZ]
        refine rkA 4 40 159 (v := ?_) ?_ (.mk' (((Turns.refl [] Z).trans D11 (by simp)).trans D44 (by simp)) trivial) ?_
        rotate_left
        · intro W hS; go_simp; all_goals with_reducible rfl
        try simp only [sI, sS, sZ]
        refine rkA 5 45 191 (v := ?_) ?_ (.mk' (((Turns.refl [] Z).trans D11 (by simp)).trans D44 (by simp)) trivial) ?_
        rotate_left
        · intro W hS; go_simp; all_goals with_reducible rfl
        try simp only [sI, sS, sZ]
        refine rkA 6 46 255 (v := ?_) ?_ (.mk' (((Turns.refl [] Z).trans D11 (by simp)).trans D44 (by simp)) trivial) ?_
        rotate_left
        · intro W hS; go_simp; all_goals with_reducible rfl
        try simp only [sI, sS, sZ]
        refine rk1 8 511 (fun K hK => ?_)
        refine wp_store_blk 81 _ _ (by rfl) g11 (by rfl) (recCells r rv hv ev) zz 81 (by rfl) (B11.turns ((Turns.refl [] X11).trans D44 (by simp)) (by simp)) (by rw [HZL.out, HC.out.1]) (size_rec _ HC.out.1) HC.out.2 (fun X99 hb99 ht99 => ?_)
        have D99 : Turns [] Z X99 := (((Turns.refl [] Z).trans D11 (by simp)).trans D44 (by simp)).trans ht99 (by intro x hx; simp at hx; exact .inr (by rw [hx]; exact G11.out))
        have hRF := hR.store ((((Turns.refl [] X44)).mono (L' := [g11]) (by simp)).trans ht99 (fun x hx => .inl hx)) (.inl (by have := GL11.out.2; have := (Turns.refl [] X11).size; omega))
        refine hK _ _ (.mk' D99 trivial) ?_
        clear hK K
        try simp only [sI, sS, sZ]
        refine rkA 9 12 1023 (v := ?_) ?_ (.mk' D99 trivial) ?_
        rotate_left
        · intro W hS; go_simp; all_goals with_reducible rfl
        try simp only [sI, sS, sZ]
        refine rkZ ?_
        go_wp2_with fail
        go_meet
        exact ⟨g11, r, rv, hv, ev, er, rfl, rfl, hb99, hRF.rd, hP, D99⟩
    case rest =>
      generalize wc = wz at *
      obtain ⟨g11, r, rv, hv, ev, er, rfl, rfl, b11, hR, hP, tz⟩ := hcut
      clear R8 hz8 MK2 S0 WI
      have h02 : er1 = 0 ∨ er1 = 2 := by
        rcases HR1.out.2.2.1 with ⟨h, _⟩ | ⟨h, _⟩
        · exact .inl h
        · exact .inr h
      have t0z := H7.out.2.2.trans (H8.out.2.2.trans (HR1.out.2.2.2.2.trans tz (by simp)) (by simp)) (by simp)
      have HT0 := Lib.hid t0z
      clear t0z
      rcases h02 with rfl | rfl
      · obtain ⟨rfl, rfl⟩ := MkP.stays HM2.out.1 HM2.out.2.1 HM2.out.2.2 HR1.out.2.2.1 hP
        obtain ⟨hok, htrue, -⟩ := HR1.out.2.2.1.good HI.out
        obtain ⟨U, hU⟩ : ∃ q, q = wz.drew := ⟨_, rfl⟩
        have tU : Turns [] wz U := by rw [hU]; exact (Turns.refl _ _).drew
        have HUU := Lib.hid hU
        have tyU := (HR1.out.2.2.2.1.trans tz (by simp)).trans tU (by simp)
        have b9U := HR1.out.1.turns tyU (by simp)
        have b11U := b11.turns tU (by simp)
        have B7 : U.cell? ⟨g9, 7, none⟩ = some (.int .i64 r.place) := b9U.cell 7
        have E7 : U.cell? ⟨g11, 7, none⟩ = some (.int .i64 r.place) := b11U.cell 7
        have RB := rec_blk b9U
        have RE := rec_blk b11U
        obtain ⟨nn, hnn⟩ : ∃ x, x = r.blk.n := ⟨_, rfl⟩
        have E9 : U.cell? ⟨g11, 9, none⟩ = some (.int .i64 nn) := by rw [hnn]; exact RE 0 _ rfl
        have RR := b9U.all
        have hc := HR1.out.2.2.1.cells HI.out.ok HR1.out.2.1
        have eqbl := eqlBlo r.blk hok.blk
        obtain ⟨bcs, hbcs⟩ : ∃ x, x = r.blk.cells := ⟨_, rfl⟩
        have hbl : bcs.length = 66 := by rw [hbcs]; exact Blo.cells_len hok.blk
        rw [← hbcs] at RB RE eqbl
        have hzb := size_blo bcs hbl
        obtain ⟨rcs, hrcs⟩ : ∃ x, x = recCells r rv1 hv1 ev1 := ⟨_, rfl⟩
        rw [← hrcs] at RR hc
        have hzr := size_rec rcs hc.1
        obtain ⟨hh, hhh⟩ : ∃ x, x = bloH r.blk := ⟨_, rfl⟩
        have hhl : hh.length = 32 := by rw [hhh]; exact bloH_len _
        have FH := Lib.hid (show ∀ W, Calls Try.prog 22 #[.agg bcs.toArray] W fun e w' => e = .returned (.agg (bvs hh).toArray) ∧ Turns [] W w' by rw [hbcs, hhh]; exact fun W => CHash_any r.blk hok.blk W)
        have HBD := Lib.hid (built_dig nn hh hhl)
        have CK := Lib.hid (show ∀ W, Turns [] U W → Calls Try.prog 39 #[.agg rcs.toArray, .agg (digCells nn hh).toArray] W fun e w' => e = .returned (.bool true) ∧ Turns [] W w' from fun W tW => by
          have h := Check_yes r hok rv1 hv1 ev1 W (HR1.out.2.1.on (tyU.trans tW (by simp)))
          rw [htrue, ← hrcs, ← hnn, ← hhh] at h
          exact h)
        have HTU := Lib.hid (HT0.out.trans tU (by simp))
        have S0 : Turns [] U U := Turns.refl _ _
        clear hU tU tyU b9U b11U b11 hR hP tz hok htrue hc hbcs hbl hrcs hhh hhl hnn
        go_upto_region 11 with fail
        refine rk0 (fun W => Turns [] U W) (fun _ => True) 28 28 ?_
        rw [← HUU.out]
        refine rkA 0 49 1 (v := ?_) ?_ (.mk' S0 trivial) ?_
        rotate_left
        · intro W hS; go_simp; all_goals with_reducible rfl
        try simp only [sI, sS, sZ]
        refine rkA 1 50 3 (v := ?_) ?_ (.mk' S0 trivial) ?_
        rotate_left
        · intro W hS; go_simp; all_goals with_reducible rfl
        try simp only [sI, sS, sZ]
        refine rkA 2 51 7 (v := ?_) ?_ (.mk' S0 trivial) ?_
        rotate_left
        · intro W hS; go_simp; all_goals with_reducible rfl
        try simp only [sI, sS, sZ]
        refine rkA 3 52 15 (v := ?_) ?_ (.mk' S0 trivial) ?_
        rotate_left
        · intro W hS; go_simp; all_goals with_reducible rfl
        try simp only [sI, sS, sZ]
        refine rkY 4 53 31 rfl (yieldsIf_load_mid (by rfl) _ _ rfl g9 9 (by rfl) bcs _ (fun W hS => rangeV hS RB) Try.underlying28 rfl hzb) (.mk' S0 trivial) ?_
        try simp only [sI, sS, sZ]
        refine rkA 5 54 63 (v := ?_) ?_ (.mk' S0 trivial) ?_
        rotate_left
        · intro W hS; go_simp; all_goals with_reducible rfl
        try simp only [sI, sS, sZ]
        refine rkY 6 55 127 rfl (yieldsIf_load_mid (by rfl) _ _ rfl g11 9 (by rfl) bcs _ (fun W hS => rangeV hS RE) Try.underlying28 rfl hzb) (.mk' S0 trivial) ?_
        try simp only [sI, sS, sZ]
        refine rkA 7 56 255 (v := ?_) ?_ (.mk' S0 trivial) ?_
        rotate_left
        · intro W hS; go_simp; all_goals with_reducible rfl
        try simp only [sI, sS, sZ]
        refine rkA 8 57 511 (v := ?_) ?_ (.mk' S0 trivial) ?_
        rotate_left
        · intro W hS; go_simp; all_goals with_reducible rfl
        try simp only [sI, sS, sZ]
        refine rkA 9 58 1023 (v := ?_) ?_ (.mk' S0 trivial) ?_
        rotate_left
        · intro W hS; go_simp; all_goals with_reducible rfl
        try simp only [sI, sS, sZ]
        refine rkA 10 59 2047 (v := ?_) ?_ (.mk' S0 trivial) ?_
        rotate_left
        · intro W hS; go_simp; all_goals with_reducible rfl
        try simp only [sI, sS, sZ]
        refine rkA 11 60 4095 (v := ?_) ?_ (.mk' S0 trivial) ?_
        rotate_left
        · intro W hS; have c0 := cellL hS B7 (by simp); go_simp; all_goals with_reducible rfl
        try simp only [sI, sS, sZ]
        refine rkA 12 61 8191 (v := ?_) ?_ (.mk' S0 trivial) ?_
        rotate_left
        · intro W hS; go_simp; all_goals with_reducible rfl
        try simp only [sI, sS, sZ]
        refine rkA 13 62 16383 (v := ?_) ?_ (.mk' S0 trivial) ?_
        rotate_left
        · intro W hS; have c0 := cellL hS E7 (by simp); go_simp; all_goals with_reducible rfl
        try simp only [sI, sS, sZ]
        refine rkA 14 63 32767 (v := ?_) ?_ (.mk' S0 trivial) ?_
        rotate_left
        · intro W hS; go_simp; all_goals with_reducible rfl
        try simp only [sI, sS, sZ]
        refine rkA 15 64 65535 (v := ?_) ?_ (.mk' S0 trivial) ?_
        rotate_left
        · intro W hS; go_simp; all_goals with_reducible rfl
        try simp only [sI, sS, sZ]
        refine rkA 16 65 131071 (v := ?_) ?_ (.mk' S0 trivial) ?_
        rotate_left
        · intro W hS; go_simp; all_goals with_reducible rfl
        try simp only [sI, sS, sZ]
        refine rkY 17 66 262143 rfl (yieldsIf_load_mid (by rfl) _ _ rfl g9 0 (by rfl) rcs _ (fun W hS => rangeV hS RR) Try.underlying81 rfl hzr) (.mk' S0 trivial) ?_
        try simp only [sI, sS, sZ]
        refine rkA 18 67 524287 (v := ?_) ?_ (.mk' S0 trivial) ?_
        rotate_left
        · intro W hS; go_simp; all_goals with_reducible rfl
        try simp only [sI, sS, sZ]
        refine rkA 19 68 1048575 (v := ?_) ?_ (.mk' S0 trivial) ?_
        rotate_left
        · intro W hS; go_simp; all_goals with_reducible rfl
        try simp only [sI, sS, sZ]
        refine rkA 20 69 2097151 (v := ?_) ?_ (.mk' S0 trivial) ?_
        rotate_left
        · intro W hS; have c0 := cellL hS E9 (by simp); go_simp; all_goals with_reducible rfl
        try simp only [sI, sS, sZ]
        refine rkA 21 70 4194303 (v := ?_) ?_ (.mk' S0 trivial) ?_
        rotate_left
        · intro W hS; go_simp; all_goals with_reducible rfl
        try simp only [sI, sS, sZ]
        refine rkY 22 71 8388607 rfl (yieldsIf_load_mid (by rfl) _ _ rfl g11 9 (by rfl) bcs _ (fun W hS => rangeV hS RE) Try.underlying28 rfl hzb) (.mk' S0 trivial) ?_
        try simp only [sI, sS, sZ]
        refine rk1 23 16777215 (fun K hK => ?_)
        go_simp
        refine (FH.out U).mono ?_
        rintro e X72 ⟨rfl, D72⟩
        refine hK _ _ (.mk' ((Turns.refl [] U).trans D72 (by simp)) trivial) ?_
        clear hK K
        try simp only [sI, sS, sZ]
        refine rkY 24 73 33554431 rfl (yieldsIf_build (by rfl) 62 _ (by rfl) (digCells nn hh).toArray (by have h := HBD.out; simpa [Act.eval] using h)) (.mk' ((Turns.refl [] U).trans D72 (by simp)) trivial) ?_
        try simp only [sI, sS, sZ]
        refine rk1 25 67108863 (fun K hK => ?_)
        go_simp
        refine (CK.out X72 ((Turns.refl [] U).trans D72 (by simp))).mono ?_
        rintro e X74 ⟨rfl, D74⟩
        refine hK _ _ (.mk' (((Turns.refl [] U).trans D72 (by simp)).trans D74 (by simp)) trivial) ?_
        clear hK K
        try simp only [sI, sS, sZ]
        refine rkA 26 75 134217727 (v := ?_) ?_ (.mk' (((Turns.refl [] U).trans D72 (by simp)).trans D74 (by simp)) trivial) ?_
        rotate_left
        · intro W hS; go_simp; all_goals with_reducible rfl
        try simp only [sI, sS, sZ]
        refine rkA 27 6 268435455 (v := ?_) ?_ (.mk' (((Turns.refl [] U).trans D72 (by simp)).trans D74 (by simp)) trivial) ?_
        rotate_left
        · intro W hS; go_simp; all_goals with_reducible rfl
        try simp only [sI, sS, sZ]
        refine rkZ ?_
        have HFF := Lib.hid (below_of' (HTU.out.trans (((Turns.refl [] U).trans D72 (by simp)).trans D74 (by simp)) (by simp)))
        go_wp2_with fail
        go_ret
        exact ⟨rfl, HFF.out⟩
      · have HFF := Lib.hid (below_of' HT0.out)
        clear b11 hR hP tz
        go_wp2_with fail
        go_ret
        exact ⟨rfl, HFF.out⟩
end Go.Proofs.Ytoahnhphfabajaa
