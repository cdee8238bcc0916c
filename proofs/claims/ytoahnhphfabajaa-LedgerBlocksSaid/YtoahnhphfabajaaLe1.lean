/- LedgerBlocks, walked. -/
import Derived.Test.YtoahnhphfabajaaLe0
namespace Go.Proofs.Ytoahnhphfabajaa
open Go.RowKit
set_option linter.unusedVariables false
set_option maxRecDepth 10000
set_option linter.unusedSimpArgs false
set_option linter.unnecessarySimpa false

theorem eq_dig0 : ∀ w, (Op.equalIn 10000 62 (.agg (digCells 0 (zeros 32)).toArray) (.agg #[.int .i64 0, .int .u8 0, .int .u8 0, .int .u8 0, .int .u8 0, .int .u8 0, .int .u8 0, .int .u8 0, .int .u8 0, .int .u8 0, .int .u8 0, .int .u8 0, .int .u8 0, .int .u8 0, .int .u8 0, .int .u8 0, .int .u8 0, .int .u8 0, .int .u8 0, .int .u8 0, .int .u8 0, .int .u8 0, .int .u8 0, .int .u8 0, .int .u8 0, .int .u8 0, .int .u8 0, .int .u8 0, .int .u8 0, .int .u8 0, .int .u8 0, .int .u8 0, .int .u8 0])).run Try.prog w = .ok true w := fun w => by kernel_rfl
theorem Inv.last_n {L : Led} (h : Inv L) (h0 : 0 < L.blks.length) : (L.blks[L.blks.length - 1]'(by omega)).n = (L.blks.length : Nat) := by
  have hb := h.bt
  have := h.ch (L.blks.length - 1) (by omega) (by omega)
  rw [this]
  show (((L.blks.take (L.blks.length - 1)).length : Nat) : Int) + 1 = _
  rw [List.length_take]; omega
set_option maxRecDepth 100000 in
set_option maxHeartbeats 16000000 in
theorem LedgerBlocks_walk (l : List Stp) (v : Value) (w0 : World) (hd : Deep StpR w0 (fun _ => True) 4 v l) (hf : ∀ s ∈ l, s.fits) :
    Calls Try.prog 5 #[v] w0 fun e w' => e = .returned (.bool true) ∧ Below w0.heap.size w0 w' := by
  obtain ⟨A, c, rfl, _⟩ := hd.form
  have KN := Lib.hid (known14_any w0)
  have HD := Lib.hid (And.intro hd hf)
  clear hd hf
  obtain ⟨n, hn⟩ : ∃ n, n = l.length := ⟨_, rfl⟩
  have HNL := Lib.hid hn
  rw [← hn]
  clear hn
  go_enter Try.func5, Try.ntmps5
  go_wp2_with fail
  refine KN.out.mono ?_
  rintro e w1 ⟨rfl, t1⟩
  have hd1 := HD.out.1.keep StpR.lasts (t1.keeps0 _)
  have FW := Lib.hid (by have h := Few14_any l (.slice A l.length c) _ w1 hd1 HD.out.2; rw [← HNL.out] at h; exact h : Calls Try.prog 26 #[.slice A n c] w1 fun e w' => e = .returned (.bool (fewSs l)) ∧ Turns [] w1 w')
  have H1 := Lib.hid (And.intro t1 hd1)
  clear t1 hd1 KN
  go_wp2_with fail
  refine FW.out.mono ?_
  rintro e w2 ⟨rfl, t2⟩
  have t02 := Lib.hid (H1.out.1.trans t2 (by simp))
  have HD2 := Lib.hid (H1.out.2.keep StpR.lasts (t2.keeps0 _))
  clear t2 FW
  cases hfew : fewSs l
  · go_wp2_with fail
    go_ret
    exact ⟨rfl, below_of' t02.out⟩
  have BD := Lib.hid (by have h := Build_any l (.slice A l.length c) _ w2 HD2.out HD.out.2 hfew; rw [← HNL.out] at h; exact h : Calls Try.prog 27 #[.slice A n c] w2 _)
  have hinv := (bldK_inv l HD.out.2 hfew l.length (Nat.le_refl _)).1
  rw [← bldL_eq] at hinv
  obtain ⟨L, hL⟩ : ∃ L, L = bldL l := ⟨_, rfl⟩
  rw [← hL] at BD hinv
  have HI := Lib.hid hinv
  clear hL hinv
  go_wp2_with fail
  refine BD.out.mono ?_
  rintro e w3 ⟨ov, bv, tv, rfl, l3, t3⟩
  obtain ⟨A1, c1, rfl, _⟩ := l3.opn.form
  obtain ⟨A2, c2, rfl, _⟩ := l3.blks.form'
  obtain ⟨A3, c3, rfl, _⟩ := l3.txs.form
  obtain ⟨p3, hp3⟩ : ∃ x, x = w3.heap.size := ⟨_, rfl⟩
  obtain ⟨x3, hx3⟩ : ∃ x, x = w3.alloc (.cells #[.int .i64 L.next, .slice A1 L.opn.length c1, .slice A2 L.blks.length c2, .slice A3 L.txs.length c3] 53) := ⟨_, rfl⟩
  have b3 := Blk.new w3 [.int .i64 L.next, .slice A1 L.opn.length c1, .slice A2 L.blks.length c2, .slice A3 L.txs.length c3] 53
  rw [show w3.alloc (.cells [.int .i64 L.next, .slice A1 L.opn.length c1, .slice A2 L.blks.length c2, .slice A3 L.txs.length c3].toArray 53) = x3 from hx3.symm, ← hp3] at b3
  have tx3 : Turns [] w3 x3 := by rw [hx3]; exact (Turns.refl _ _).alloc _
  have OF := Lib.hid (Of_any L HI.out.ok _ _ _ _ x3 (l3.keep (tx3.keeps0 _)))
  have r3 := b3.all
  have hz3 := size_rled (.int .i64 L.next) (.slice A1 L.opn.length c1) (.slice A2 L.blks.length c2) (.slice A3 L.txs.length c3)
  have H3 := Lib.hid (And.intro b3 (And.intro ((t02.out.trans t3 (by simp)).trans tx3 (by simp)) (l3.keep (tx3.keeps0 _))))
  have HX3 := Lib.hid (And.intro hx3 hp3)
  clear b3 t3 tx3 l3 hx3 hp3 BD
  go_upto_region 6 with fail
  rw [← HX3.out.1, ← HX3.out.2]
  go_wp2_with (first
    | (refine wpList_load_mid rfl 53 (.tmp 3) rfl p3 0 rfl _ _ r3 Try.underlying53 rfl hz3 ?_)
    | fail)
  refine OF.out.mono ?_
  rintro e w4 ⟨bv4, rfl, l4, t4⟩
  obtain ⟨A4, c4, rfl, _⟩ := l4.blks.form'
  obtain ⟨p4, hp4⟩ : ∃ x, x = w4.heap.size := ⟨_, rfl⟩
  obtain ⟨x4, hx4⟩ : ∃ x, x = w4.alloc (.cells #[.int .i64 L.next, .slice A1 L.opn.length c1, .slice A4 L.blks.length c4, .slice A3 L.txs.length c3] 57) := ⟨_, rfl⟩
  have b4 := Blk.new w4 [.int .i64 L.next, .slice A1 L.opn.length c1, .slice A4 L.blks.length c4, .slice A3 L.txs.length c3] 57
  rw [show w4.alloc (.cells [.int .i64 L.next, .slice A1 L.opn.length c1, .slice A4 L.blks.length c4, .slice A3 L.txs.length c3].toArray 57) = x4 from hx4.symm, ← hp4] at b4
  have tx4 : Turns [] w4 x4 := by rw [hx4]; exact (Turns.refl _ _).alloc _
  have t34 := t4.trans tx4 (by simp)
  obtain ⟨nb, hnb⟩ : ∃ n, n = L.blks.length := ⟨_, rfl⟩
  have hnb1 : nb ≤ 100000 := by rw [hnb]; exact HI.out.ok.blks
  have H4 := Lib.hid (And.intro b4 (And.intro (H3.out.1.turns t34 (by simp)) (And.intro (H3.out.2.1.trans t34 (by simp)) (And.intro (l4.keep (tx4.keeps0 _)) (And.intro (H3.out.2.2.keep (t34.keeps0 _)) hnb)))))
  have HX4 := Lib.hid (And.intro hx4 hp4)
  clear b4 t4 tx4 t34 l4 hx4 hp4 OF r3 hnb
  go_upto_region 7 with fail
  rw [← HX4.out.1, ← HX4.out.2]
  go_wp2_with fail
  go_loopw [5] (fun i wr => ∃ k : Nat, k ≤ nb ∧ i = .int .i64 k ∧ Turns [] x4 wr) (fun i _ => nb - (intOf i).toNat)
  case atStart => exact ⟨0, by omega, rfl, Turns.refl _ _⟩
  case round =>
    obtain ⟨k, hk, rfl, tr⟩ := hrel
    have b4 := H4.out.1.turns tr (by simp)
    have c42 := b4.cell 2
    simp only [List.getElem?_cons_zero, List.getElem?_cons_succ] at c42
    rw [← H4.out.2.2.2.2.2] at c42
    have lr := H4.out.2.2.2.1.keep (tr.keeps0 _)
    by_cases hlt : k < nb
    · have hki : (k : Int) < (nb : Int) := by omega
      have hkl : k < L.blks.length := by have := H4.out.2.2.2.2.2; omega
      obtain ⟨Y, hY⟩ : ∃ q, q = wr.drew := ⟨_, rfl⟩
      have tY : Turns [] wr Y := by rw [hY]; exact (Turns.refl _ _).drew
      have HYY := Lib.hid hY
      have tt := tr.trans tY (by simp)
      have C42 := cellV tY c42
      have C32 := (H4.out.2.1.turns tt (by simp)).cell 2
      simp only [List.getElem?_cons_zero, List.getElem?_cons_succ] at C32
      rw [← H4.out.2.2.2.2.2] at C32
      obtain ⟨b0, off, cc, hv, _, hb0, rg⟩ := blo_at (lr.keep (tY.keeps0 _)).blks HI.out.ok.blo k hkl
      obtain ⟨b9, off9, cc9, hv9, _, hb9, rg9⟩ := blo_at (H4.out.2.2.2.2.1.keep (tt.keeps0 _)).blks HI.out.ok.blo k hkl
      injection hv with e1 e2 e3
      injection hv9 with f1 f2 f3
      subst e1 e3 f1 f3
      clear e2 f2
      have hck := HI.out.ok.blo _ (List.getElem_mem hkl)
      obtain ⟨b, hb⟩ : ∃ b, b = L.blks[k] := ⟨_, rfl⟩
      rw [← hb] at rg rg9 hck
      obtain ⟨cs, hcs⟩ : ∃ c, c = b.cells := ⟨_, rfl⟩
      have hcl : cs.length = 66 := by rw [hcs]; exact Blo.cells_len hck
      rw [← hcs] at rg rg9
      have hz1 := size_blo cs hcl
      have hz2 := size_rblo cs hcl
      have eqb := eqlS (bloH b) (bloH_len b)
      have HB := Lib.hid (And.intro hcs (And.intro hck (bloText_len hck)))
      have HTT := Lib.hid tt
      have S0 : Turns [] Y Y := Turns.refl _ _
      clear hY tY tt hb hcs hcl hck hb0 hb9 lr b4 hkl tr
      go_upto_region 10 with fail
      refine rk0 (fun W => Turns [] Y W) (fun _ => True) 14 14 ?_
      rw [← HYY.out]
      refine rkA 0 24 1 (v := ?_) ?_ (.mk' S0 trivial) ?_
      rotate_left
      · intro W hS; go_simp; all_goals with_reducible rfl
      try simp only [sI, sS, sZ]
      refine rkA 1 25 3 (v := ?_) ?_ (.mk' S0 trivial) ?_
      rotate_left
      · intro W hS; have c0 := cellL hS C42 (by simp); go_simp; all_goals with_reducible rfl
      try simp only [sI, sS, sZ]
      refine rkA 2 26 7 (v := ?_) ?_ (.mk' S0 trivial) ?_
      rotate_left
      · intro W hS; go_simp; all_goals with_reducible rfl
      try simp only [sI, sS, sZ]
      refine rkA 3 27 15 (v := ?_) ?_ (.mk' S0 trivial) ?_
      rotate_left
      · intro W hS; go_simp; all_goals with_reducible rfl
      try simp only [sI, sS, sZ]
      refine rkY 4 28 31 rfl (yieldsIf_load_mid (by rfl) _ _ rfl b0 (off + k * 66) (by rfl) cs _ (fun W hS => rangeV hS rg) Try.underlying28 rfl hz1) (.mk' S0 trivial) ?_
      try simp only [sI, sS, sZ]
      refine rkA 6 30 95 (v := ?_) ?_ (.mk' S0 trivial) ?_
      rotate_left
      · intro W hS; go_simp; all_goals with_reducible rfl
      try simp only [sI, sS, sZ]
      refine rkA 7 31 223 (v := ?_) ?_ (.mk' S0 trivial) ?_
      rotate_left
      · intro W hS; have c0 := cellL hS C32 (by simp); go_simp; all_goals with_reducible rfl
      try simp only [sI, sS, sZ]
      refine rkA 8 32 479 (v := ?_) ?_ (.mk' S0 trivial) ?_
      rotate_left
      · intro W hS; go_simp; all_goals with_reducible rfl
      try simp only [sI, sS, sZ]
      refine rkA 9 33 991 (v := ?_) ?_ (.mk' S0 trivial) ?_
      rotate_left
      · intro W hS; go_simp; all_goals with_reducible rfl
      try simp only [sI, sS, sZ]
      refine rkY 10 34 2015 rfl (yieldsIf_load_mid (by rfl) _ _ rfl b9 (off9 + k * 66) (by rfl) cs _ (fun W hS => rangeV hS rg9) Try.underlying39 rfl hz2) (.mk' S0 trivial) ?_
      try simp only [sI, sS, sZ]
      refine rk1 5 2047 (fun K hK => ?_)
      go_simp
      refine ((HB.out.1 ▸ CHash_any b HB.out.2.1 Y : Calls Try.prog _ #[.agg cs.toArray] Y _)).mono ?_
      rintro e X29 ⟨rfl, D29⟩
      refine hK _ _ (.mk' ((Turns.refl [] Y).trans D29 (by simp)) trivial) ?_
      clear hK K
      try simp only [sI, sS, sZ]
      refine rk1 11 4095 (fun K hK => ?_)
      go_simp
      refine ((HB.out.1 ▸ BlockText_any b HB.out.2.1 X29 : Calls Try.prog _ #[.agg cs.toArray] X29 _)).mono ?_
      rintro e X35 ⟨A35, c35, rfl, m35⟩
      have D35 := m35.turns
      refine hK _ _ (.mk' (((Turns.refl [] Y).trans D29 (by simp)).trans D35 (by simp)) trivial) ?_
      clear hK K
      try simp only [sI, sS, sZ]
      refine rk1 12 8191 (fun K hK => ?_)
      go_simp
      refine (refSum_any A35 _ c35 X35.heap.size (bloText b) X35 (m35.on (Turns.refl [] X35)).sl (Nat.le_refl _) (by rw [HB.out.2.2]; omega)).mono ?_
      rintro e X36 ⟨rfl, D36⟩
      rw [show bvs (sha (bloText b)) = bvs (bloH b) from rfl]
      refine hK _ _ (.mk' ((((Turns.refl [] Y).trans D29 (by simp)).trans D35 (by simp)).trans D36 (by simp)) trivial) ?_
      clear hK K
      try simp only [sI, sS, sZ]
      refine rkA 13 37 16383 (v := ?_) ?_ (.mk' ((((Turns.refl [] Y).trans D29 (by simp)).trans D35 (by simp)).trans D36 (by simp)) trivial) ?_
      rotate_left
      · intro W hS; go_simp; all_goals with_reducible rfl
      try simp only [sI, sS, sZ]
      refine rkZ ?_
      have HEND := Lib.hid (HTT.out.trans ((((Turns.refl [] Y).trans D29 (by simp)).trans D35 (by simp)).trans D36 (by simp)) (by simp))
      clear C42 C32 S0 eqb
      go_wp2_with fail
      go_roundw
      case rel => exact ⟨k + 1, by omega, by go_num, HEND.out⟩
      case measure => (simp [intOf] <;> omega)
    · obtain rfl : k = nb := by omega
      have r4 := b4.all
      have hz4 := size_led (.int .i64 L.next) (.slice A1 L.opn.length c1) (.slice A4 L.blks.length c4) (.slice A3 L.txs.length c3)
      rw [← H4.out.2.2.2.2.2] at r4 hz4
      have hzd := zero_dig
      have HWR := Lib.hid (And.intro b4 (And.intro lr (H4.out.2.2.1.trans tr (by simp))))
      clear b4 lr tr
      rcases Nat.eq_zero_or_pos k with h0 | h0
      · have hL0 : L.blks = [] := List.eq_nil_of_length_eq_zero (by have := H4.out.2.2.2.2.2; omega)
        have DN := Lib.hid (Digest_none L hL0 _ _ _ _ wr HWR.out.2.1)
        have hkb : ((k : Int) == 0) = true := beq_iff_eq.2 (by omega)
        obtain ⟨dc, hdc⟩ : ∃ x, x = digCells 0 (zeros 32) := ⟨_, rfl⟩
        have HLN := Lib.hid (And.intro (show (digCells 0 (zeros 32)).length = dc.length by rw [hdc]) (And.intro (show (Try.prog.info? 62).map (·.size) = some dc.length by rw [hdc]; exact size_dig 0 (zeros 32) (zeros_length 32)) (show ∀ u ∈ dc, u.oneCell' = true by rw [hdc]; intro u hu; simp only [digCells, List.mem_cons] at hu; rcases hu with rfl | hu; rfl; exact bvs_one _ u hu)))
        have eqd := eq_dig0
        rw [← hdc] at DN eqd
        rw [← H4.out.2.2.2.2.2] at DN
        clear hL0 h0 hdc
        go_wp2_with (first
          | (refine wpList_load_mid rfl 57 (.tmp 4) rfl p4 0 rfl _ _ r4 Try.underlying57 rfl hz4 ?_)
          | fail)
        refine DN.out.mono ?_
        rintro e x5 ⟨rfl, t5⟩
        have bD := Blk.new x5 (digCells 0 (zeros 32)) 62
        have tD : Turns [] x5 (x5.alloc (.cells (digCells 0 (zeros 32)).toArray 62)) := (Turns.refl _ _).alloc _
        have HBD := Lib.hid (And.intro bD tD)
        have H5 := Lib.hid t5
        have hzD := HLN.out.2.1
        clear bD tD t5 r4
        go_upto_region 13 with (first
          | (refine wpList_alloc_arr (o := ⟨some 6, _, _, _, _, _⟩) rfl 62 rfl (digCells 0 (zeros 32)).toArray hzd ?_)
          | (refine wpList_store_blk rfl 62 (.tmp 6) (.tmp 41) rfl x5.heap.size (by kernel_rfl) (dc) (digCells 0 (zeros 32)) 62 (by kernel_rfl) HBD.out.1 HLN.out.1 hzD HLN.out.2.2 (fun w9 hb9 ht9 hs9 => ?_); have HQ9 := Lib.hid (And.intro hb9 ht9); clear hb9 ht9 hs9)
          | fail)
        try simp only [Act.put, List.setIfInBounds_toArray, List.set_cons_succ, List.set_cons_zero]
        obtain ⟨p6, hp6⟩ : ∃ x, x = x5.heap.size := ⟨_, rfl⟩
        rw [← hp6] at HQ9 ⊢
        have t9 : Turns [] wr w9 := (H5.out.trans HBD.out.2 (by simp)).trans HQ9.out.2 (by intro x hx; simp at hx; exact .inr (by have := H5.out.size; omega))
        have c49 := (HWR.out.1.turns t9 (by simp)).cell 2
        simp only [List.getElem?_cons_zero, List.getElem?_cons_succ] at c49
        rw [← H4.out.2.2.2.2.2] at c49
        have rD := HQ9.out.1.all
        have HFF := Lib.hid (below_of' (HWR.out.2.2.trans t9 (by simp)))
        have HT9 := Lib.hid t9
        clear hp6 t9 hzd
        go_wp2_with (first
          | (refine wpList_load_g (by rfl) 62 (.tmp 6) rfl p6 0 rfl _ _ rD Try.underlying62 rfl hzD ?_)
          | fail)
        go_ret
        exact ⟨rfl, HFF.out⟩
      · have hne : 0 < L.blks.length := by have := H4.out.2.2.2.2.2; omega
        have DS := Digest_some L HI.out.ok hne _ _ _ _ wr HWR.out.2.1
        have hln := HI.out.last_n hne
        have hck := HI.out.ok.blo _ (List.getElem_mem (show L.blks.length - 1 < L.blks.length by omega))
        obtain ⟨bl, hbl⟩ : ∃ x, x = L.blks[L.blks.length - 1]'(by omega) := ⟨_, rfl⟩
        rw [← hbl] at DS hln hck
        rw [hln, ← H4.out.2.2.2.2.2] at DS
        have hkb : ((k : Int) == 0) = false := beq_eq_false_iff_ne.2 (by omega)
        have HDS := Lib.hid DS
        have HBL := Lib.hid (And.intro hbl (And.intro hck hne))
        obtain ⟨dc, hdc⟩ : ∃ x, x = digCells (k : Int) (bloH bl) := ⟨_, rfl⟩
        have HLN := Lib.hid (And.intro (show (digCells 0 (zeros 32)).length = dc.length by rw [hdc]; simp [digCells, bvs_length, zeros_length, bloH_len]) (And.intro (show (Try.prog.info? 62).map (·.size) = some dc.length by rw [hdc]; exact size_dig (k : Int) (bloH bl) (bloH_len bl)) (show ∀ u ∈ dc, u.oneCell' = true by rw [hdc]; intro u hu; simp only [digCells, List.mem_cons] at hu; rcases hu with rfl | hu; rfl; exact bvs_one _ u hu)))
        rw [← hdc] at HDS
        have HDC := Lib.hid hdc
        clear DS hdc
        go_wp2_with (first
          | (refine wpList_load_mid rfl 57 (.tmp 4) rfl p4 0 rfl _ _ r4 Try.underlying57 rfl hz4 ?_)
          | fail)
        refine HDS.out.mono ?_
        rintro e x5 ⟨rfl, t5⟩
        have bD := Blk.new x5 (digCells 0 (zeros 32)) 62
        have tD : Turns [] x5 (x5.alloc (.cells (digCells 0 (zeros 32)).toArray 62)) := (Turns.refl _ _).alloc _
        have HBD := Lib.hid (And.intro bD tD)
        have H5 := Lib.hid t5
        have hzD := HLN.out.2.1
        clear bD tD t5 r4
        go_upto_region 13 with (first
          | (refine wpList_alloc_arr (o := ⟨some 6, _, _, _, _, _⟩) rfl 62 rfl (digCells 0 (zeros 32)).toArray hzd ?_)
          | (refine wpList_store_blk rfl 62 (.tmp 6) (.tmp 41) rfl x5.heap.size (by kernel_rfl) (dc) (digCells 0 (zeros 32)) 62 (by kernel_rfl) HBD.out.1 HLN.out.1 hzD HLN.out.2.2 (fun w9 hb9 ht9 hs9 => ?_); have HQ9 := Lib.hid (And.intro hb9 ht9); clear hb9 ht9 hs9)
          | fail)
        try simp only [Act.put, List.setIfInBounds_toArray, List.set_cons_succ, List.set_cons_zero]
        obtain ⟨p6, hp6⟩ : ∃ x, x = x5.heap.size := ⟨_, rfl⟩
        rw [← hp6] at HQ9 ⊢
        have t9 : Turns [] wr w9 := (H5.out.trans HBD.out.2 (by simp)).trans HQ9.out.2 (by intro x hx; simp at hx; exact .inr (by have := H5.out.size; omega))
        have c49 := (HWR.out.1.turns t9 (by simp)).cell 2
        simp only [List.getElem?_cons_zero, List.getElem?_cons_succ] at c49
        rw [← H4.out.2.2.2.2.2] at c49
        have rD := HQ9.out.1.all
        have HFF := Lib.hid (below_of' (HWR.out.2.2.trans t9 (by simp)))
        have HT9 := Lib.hid t9
        clear hp6 t9 hzd
        have hne := HBL.out.2.2
        obtain ⟨Z, hZ⟩ : ∃ q, q = w9.drew := ⟨_, rfl⟩
        have tZ : Turns [] w9 Z := by rw [hZ]; exact (Turns.refl _ _).drew
        have HZZ := Lib.hid hZ
        have CD0 : Z.cell? ⟨p6, 0, none⟩ = some (.int .i64 (k : Int)) := cellV tZ ((HQ9.out.1.cell 0).trans (by rw [HDC.out]; rfl))
        have CD2 := cellV tZ c49
        have RH : Z.rangeAt p6 1 (bvs (bloH bl)) := rangeV tZ (fun j v hv => by rw [Nat.add_comm 1 j]; exact (HQ9.out.1.cell (j + 1)).trans (by rw [HDC.out]; simpa [digCells] using hv))
        obtain ⟨b0, off, cc, hv, _, hb0, rg⟩ := blo_at (HWR.out.2.1.keep ((HT9.out.trans tZ (by simp)).keeps0 _)).blks HI.out.ok.blo (L.blks.length - 1) (by omega)
        injection hv with e1 e2 e3
        subst e1 e3
        clear e2
        rw [← HBL.out.1, ← H4.out.2.2.2.2.2] at rg
        obtain ⟨cs, hcs⟩ : ∃ c, c = bl.cells := ⟨_, rfl⟩
        have hcl : cs.length = 66 := by rw [hcs]; exact Blo.cells_len HBL.out.2.1
        rw [← hcs] at rg
        have HCS := Lib.hid hcs
        have hz1 := size_blo cs hcl
        have hzh : (Try.prog.info? 26).map (·.size) = some (bvs (bloH bl)).length := by rw [size_hash, bvs_length, bloH_len]
        have eqb := eqlS (bloH bl) (bloH_len bl)
        have hw1 : IntKind.i64.wrap ((k : Int) - 1) = ((k - 1 : Nat) : Int) := by rw [IntWalk.i64_in _ (by omega)]; omega
        have hk1 : ((k - 1 : Nat) : Int) < (k : Int) := by omega
        have hkk : ((k : Int) == (k : Int)) = true := beq_self_eq_true _
        have HTZ := Lib.hid tZ
        have S0 : Turns [] Z Z := Turns.refl _ _
        clear hcs hcl hne hb0 hZ tZ hln hck hbl rD
        go_upto_region 15 with fail
        clear c49
        refine rk0 (fun W => Turns [] Z W) (fun _ => True) 25 25 ?_
        rw [← HZZ.out]
        refine rkA 0 54 1 (v := ?_) ?_ (.mk' S0 trivial) ?_
        rotate_left
        · intro W hS; go_simp; all_goals with_reducible rfl
        try simp only [sI, sS, sZ]
        refine rkA 1 55 3 (v := ?_) ?_ (.mk' S0 trivial) ?_
        rotate_left
        · intro W hS; go_simp; all_goals with_reducible rfl
        try simp only [sI, sS, sZ]
        refine rkA 2 56 7 (v := ?_) ?_ (.mk' S0 trivial) ?_
        rotate_left
        · intro W hS; go_simp; all_goals with_reducible rfl
        try simp only [sI, sS, sZ]
        refine rkA 3 57 15 (v := ?_) ?_ (.mk' S0 trivial) ?_
        rotate_left
        · intro W hS; go_simp; all_goals with_reducible rfl
        try simp only [sI, sS, sZ]
        refine rkA 4 58 31 (v := ?_) ?_ (.mk' S0 trivial) ?_
        rotate_left
        · intro W hS; have c0 := cellL hS CD0 (by simp); go_simp; all_goals with_reducible rfl
        try simp only [sI, sS, sZ]
        refine rkA 5 59 63 (v := ?_) ?_ (.mk' S0 trivial) ?_
        rotate_left
        · intro W hS; go_simp; all_goals with_reducible rfl
        try simp only [sI, sS, sZ]
        refine rkA 6 60 127 (v := ?_) ?_ (.mk' S0 trivial) ?_
        rotate_left
        · intro W hS; have c0 := cellL hS CD2 (by simp); go_simp; all_goals with_reducible rfl
        try simp only [sI, sS, sZ]
        refine rkA 7 61 255 (v := ?_) ?_ (.mk' S0 trivial) ?_
        rotate_left
        · intro W hS; go_simp; all_goals with_reducible rfl
        try simp only [sI, sS, sZ]
        refine rkA 8 62 511 (v := ?_) ?_ (.mk' S0 trivial) ?_
        rotate_left
        · intro W hS; go_simp; all_goals with_reducible rfl
        try simp only [sI, sS, sZ]
        refine rkA 9 63 1023 (v := ?_) ?_ (.mk' S0 trivial) ?_
        rotate_left
        · intro W hS; go_simp; all_goals with_reducible rfl
        try simp only [sI, sS, sZ]
        refine rkA 10 64 2047 (v := ?_) ?_ (.mk' S0 trivial) ?_
        rotate_left
        · intro W hS; go_simp; all_goals with_reducible rfl
        try simp only [sI, sS, sZ]
        refine rkA 11 65 4095 (v := ?_) ?_ (.mk' S0 trivial) ?_
        rotate_left
        · intro W hS; go_simp; all_goals with_reducible rfl
        try simp only [sI, sS, sZ]
        refine rkY 12 66 8191 rfl (yieldsIf_load_mid (by rfl) _ _ rfl p6 1 (by rfl) (bvs (bloH bl)) _ (fun W hS => rangeV hS RH) Try.underlying26 rfl hzh) (.mk' S0 trivial) ?_
        try simp only [sI, sS, sZ]
        refine rkA 13 67 16383 (v := ?_) ?_ (.mk' S0 trivial) ?_
        rotate_left
        · intro W hS; go_simp; all_goals with_reducible rfl
        try simp only [sI, sS, sZ]
        refine rkA 14 68 32767 (v := ?_) ?_ (.mk' S0 trivial) ?_
        rotate_left
        · intro W hS; have c0 := cellL hS CD2 (by simp); go_simp; all_goals with_reducible rfl
        try simp only [sI, sS, sZ]
        refine rkA 15 69 65535 (v := ?_) ?_ (.mk' S0 trivial) ?_
        rotate_left
        · intro W hS; go_simp; all_goals with_reducible rfl
        try simp only [sI, sS, sZ]
        refine rkA 16 70 131071 (v := ?_) ?_ (.mk' S0 trivial) ?_
        rotate_left
        · intro W hS; have c0 := cellL hS CD2 (by simp); go_simp; all_goals with_reducible rfl
        try simp only [sI, sS, sZ]
        refine rkA 17 71 262143 (v := ?_) ?_ (.mk' S0 trivial) ?_
        rotate_left
        · intro W hS; go_simp; all_goals with_reducible rfl
        try simp only [sI, sS, sZ]
        refine rkA 18 72 524287 (v := ?_) ?_ (.mk' S0 trivial) ?_
        rotate_left
        · intro W hS; go_simp; all_goals with_reducible rfl
        try simp only [sI, sS, sZ]
        refine rkA 19 73 1048575 (v := ?_) ?_ (.mk' S0 trivial) ?_
        rotate_left
        · intro W hS; go_simp; all_goals with_reducible rfl
        try simp only [sI, sS, sZ]
        refine rkY 20 74 2097151 rfl (yieldsIf_load_mid (by rfl) _ _ rfl b0 (off + (k - 1) * 66) (by rfl) cs _ (fun W hS => rangeV hS rg) Try.underlying28 rfl hz1) (.mk' S0 trivial) ?_
        try simp only [sI, sS, sZ]
        refine rk1 21 4194303 (fun K hK => ?_)
        go_simp
        refine ((HCS.out ▸ CHash_any bl HBL.out.2.1 Z : Calls Try.prog _ #[.agg cs.toArray] Z _)).mono ?_
        rintro e X75 ⟨rfl, D75⟩
        refine hK _ _ (.mk' ((Turns.refl [] Z).trans D75 (by simp)) trivial) ?_
        clear hK K
        try simp only [sI, sS, sZ]
        refine rkA 22 76 8388607 (v := ?_) ?_ (.mk' ((Turns.refl [] Z).trans D75 (by simp)) trivial) ?_
        rotate_left
        · intro W hS; go_simp; all_goals with_reducible rfl
        try simp only [sI, sS, sZ]
        refine rkA 23 77 16777215 (v := ?_) ?_ (.mk' ((Turns.refl [] Z).trans D75 (by simp)) trivial) ?_
        rotate_left
        · intro W hS; go_simp; all_goals with_reducible rfl
        try simp only [sI, sS, sZ]
        refine rkA 24 2 33554431 (v := ?_) ?_ (.mk' ((Turns.refl [] Z).trans D75 (by simp)) trivial) ?_
        rotate_left
        · intro W hS; go_simp; all_goals with_reducible rfl
        try simp only [sI, sS, sZ]
        refine rkZ ?_
        have HEND := Lib.hid (below_of' (HWR.out.2.2.trans ((HT9.out.trans HTZ.out (by simp)).trans ((Turns.refl [] Z).trans D75 (by simp)) (by simp)) (by simp)))
        clear CD0 CD2 RH rg
        go_wp2_with fail
        go_ret
        exact ⟨rfl, HEND.out⟩
end Go.Proofs.Ytoahnhphfabajaa
