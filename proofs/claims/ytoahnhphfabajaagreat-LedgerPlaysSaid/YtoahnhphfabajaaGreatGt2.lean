/- The document's sameness of ledgers: the same ones are the same. -/
import Derived.Test.YtoahnhphfabajaaGreatGs2
namespace Go.Proofs.YtoahnhphfabajaaGreat
open Go.RowKit
set_option linter.unusedVariables false
set_option maxRecDepth 10000
set_option linter.unusedSimpArgs false
set_option linter.unnecessarySimpa false

theorem eqFs (d : Nat) (xs : Array Value) : ∀ (fs : List Field), (∀ f ∈ fs, ∃ v, (∀ W, (part f.type xs f.offset).run Tryz.prog W = .ok v W) ∧ ∀ W, (Op.equalIn d f.type v v).run Tryz.prog W = .ok true W) → ∀ W, (Op.eqFields d xs xs fs).run Tryz.prog W = .ok true W
  | [], _, W => by simp [Op.eqFields]
  | f :: fs, h, W => by
    obtain ⟨v, h1, h2⟩ := h f (by simp)
    have ih := eqFs d xs fs (fun g hg => h g (by simp [hg])) W
    simp only [Op.eqFields, Sem.run_ite]
    split
    · simp only [Sem.run_bind, h1, h2, Result.andThen_ok, Sem.run_ite, Bool.not_true, Bool.false_eq_true, if_false]
      exact ih
    · exact ih
theorem rblo_fields : (Tryz.prog.fieldsOf 75).toList.map (fun f => (f.type, f.offset)) = [(3, 0), (53, 1), (53, 33), (3, 65)] := by kernel_rfl
theorem dig_fields : (Tryz.prog.fieldsOf 55).toList.map (fun f => (f.type, f.offset)) = [(3, 0), (53, 1)] := by kernel_rfl
set_option maxRecDepth 100000 in
theorem rblo_field (b : Blo) (h : b.ok) : (∀ W, (part 3 b.cells.toArray 0).run Tryz.prog W = .ok (.int .i64 b.n) W) ∧ (∀ W, (part 53 b.cells.toArray 1).run Tryz.prog W = .ok (.agg (bvs b.prev).toArray) W) ∧ (∀ W, (part 53 b.cells.toArray 33).run Tryz.prog W = .ok (.agg (bvs b.root).toArray) W) ∧ (∀ W, (part 3 b.cells.toArray 65).run Tryz.prog W = .ok (.int .i64 b.cnt) W) := by
  obtain ⟨n, pv, rt, cn⟩ := b
  match pv, h.prev, rt, h.root with
  | [a0, a1, a2, a3, a4, a5, a6, a7, a8, a9, a10, a11, a12, a13, a14, a15, a16, a17, a18, a19, a20, a21, a22, a23, a24, a25, a26, a27, a28, a29, a30, a31], _, [b0, b1, b2, b3, b4, b5, b6, b7, b8, b9, b10, b11, b12, b13, b14, b15, b16, b17, b18, b19, b20, b21, b22, b23, b24, b25, b26, b27, b28, b29, b30, b31], _ =>
    exact ⟨fun W => by kernel_rfl, fun W => by kernel_rfl, fun W => by kernel_rfl, fun W => by kernel_rfl⟩
set_option maxRecDepth 100000 in
theorem dig_field (n : Int) (h : List UInt8) (hl : h.length = 32) : (∀ W, (part 3 (digCells n h).toArray 0).run Tryz.prog W = .ok (.int .i64 n) W) ∧ (∀ W, (part 53 (digCells n h).toArray 1).run Tryz.prog W = .ok (.agg (bvs h).toArray) W) := by
  match h, hl with
  | [a0, a1, a2, a3, a4, a5, a6, a7, a8, a9, a10, a11, a12, a13, a14, a15, a16, a17, a18, a19, a20, a21, a22, a23, a24, a25, a26, a27, a28, a29, a30, a31], _ =>
    exact ⟨fun W => by kernel_rfl, fun W => by kernel_rfl⟩
theorem eqHs (h : List UInt8) (hl : h.length = 32) (W : World) : (Op.equalIn 9999 53 (.agg (bvs h).toArray) (.agg (bvs h).toArray)).run Tryz.prog W = .ok true W := by
  have := run_equalIn_bytes W 9997 53 5 32 und_hash und_u8 sz_u8 h h hl hl
  rw [beq_self_eq_true] at this
  exact this
theorem eqIs (n : Int) (W : World) : (Op.equalIn 9999 3 (.int .i64 n) (.int .i64 n)).run Tryz.prog W = .ok true W := by rw [run_equalIn_int W 9998 3 .i64 .i64 _ _ (by kernel_rfl), beq_self_eq_true]
/-- A block, a digest, is the same as itself. -/
theorem eqlRBlo (b : Blo) (h : b.ok) : ∀ w, (Op.equalIn 10000 75 (.agg b.cells.toArray) (.agg b.cells.toArray)).run Tryz.prog w = .ok true w := fun w => by
  rw [run_equalIn_struct w 9999 75 _ _ (by kernel_rfl) (by kernel_rfl)]
  refine eqFs 9999 _ _ (fun f hf => ?_) w
  have hm := List.mem_map_of_mem (f := fun f : Field => (f.type, f.offset)) hf
  rw [rblo_fields] at hm
  simp only [List.mem_cons, Prod.mk.injEq, List.not_mem_nil, or_false] at hm
  obtain ⟨p1, p2, p3, p4⟩ := rblo_field b h
  rcases hm with ⟨e1, e2⟩ | ⟨e1, e2⟩ | ⟨e1, e2⟩ | ⟨e1, e2⟩ <;> rw [e1, e2]
  · exact ⟨_, p1, eqIs _⟩
  · exact ⟨_, p2, eqHs _ h.prev⟩
  · exact ⟨_, p3, eqHs _ h.root⟩
  · exact ⟨_, p4, eqIs _⟩
theorem eqlDig (n : Int) (h : List UInt8) (hl : h.length = 32) : ∀ w, (Op.equalIn 10000 55 (.agg (digCells n h).toArray) (.agg (digCells n h).toArray)).run Tryz.prog w = .ok true w := fun w => by
  rw [run_equalIn_struct w 9999 55 _ _ (by kernel_rfl) (by kernel_rfl)]
  refine eqFs 9999 _ _ (fun f hf => ?_) w
  have hm := List.mem_map_of_mem (f := fun f : Field => (f.type, f.offset)) hf
  rw [dig_fields] at hm
  simp only [List.mem_cons, Prod.mk.injEq, List.not_mem_nil, or_false] at hm
  obtain ⟨p1, p2⟩ := dig_field n h hl
  rcases hm with ⟨e1, e2⟩ | ⟨e1, e2⟩ <;> rw [e1, e2]
  · exact ⟨_, p1, eqIs _⟩
  · exact ⟨_, p2, eqHs _ hl⟩
theorem yields_neqS {ops : Array Oper} {S : World → Prop} {op : Oper} {act : Act} (hw : Region.wanted op (yielded ops act.tmps) = true) (x y : Operand) (t t' : TypeId) (ho : op.op = .binOp .neq t x y t') (hm : Tryz.prog.eqGuardType Tryz.prog.depth t = false)
    (xs : Array Value) (h : ∀ w, (Op.equalIn 10000 t (.agg xs) (.agg xs)).run Tryz.prog w = .ok true w) (hx : act.eval x = .agg xs) (hy : act.eval y = .agg xs) : YieldsIf Tryz.prog ops S op (.bool false) act :=
  .inl ⟨hw, fun w _ => by
    have hg : ((do eqGuard .neq t x y (.agg xs) (.agg xs); binOp .neq t (.agg xs) (.agg xs)) : Sem Value).run Tryz.prog w = .ok (.bool (!true)) w := by
      rw [Sem.run_bind, run_eqGuard_agg w .neq t x y _ _ hm, Result.andThen_ok, run_neq_struct, h w]
      rfl
    rw [Sem.run_bind] at hg
    unfold execOp
    simp only [ho, hx, hy, Sem.run_bind, Sem.run_pure]
    rw [hg]; rfl⟩
set_option maxRecDepth 100000 in
set_option maxHeartbeats 8000000 in
theorem RSame_same (L : Led) (hL : L.ok) (ov bv tv ov' bv' tv' : Value) (S S' : Nat → Prop) (w0 : World) (hd : LedR w0 S ov bv tv L) (hd' : LedR w0 S' ov' bv' tv' L) :
    Calls Tryz.prog 18 #[.agg #[.int .i64 L.next, ov, bv, tv], .agg #[.int .i64 L.next, ov', bv', tv']] w0 fun e w' => e = .returned (.bool true) ∧ Turns [] w0 w' := by
  obtain ⟨Ao, co, rfl, _⟩ := hd.opn.form
  obtain ⟨Ab, cb, rfl, _⟩ := hd.blks.form'
  obtain ⟨At, ct, rfl, _⟩ := hd.txs.form
  obtain ⟨Ao', co', rfl, _⟩ := hd'.opn.form
  obtain ⟨Ab', cb', rfl, _⟩ := hd'.blks.form'
  obtain ⟨At', ct', rfl, _⟩ := hd'.txs.form
  obtain ⟨nb, hnb⟩ : ∃ n, n = L.blks.length := ⟨_, rfl⟩
  obtain ⟨nT, hnT⟩ : ∃ n, n = L.txs.length := ⟨_, rfl⟩
  have hb9 : nb ≤ 100000 := by rw [hnb]; exact hL.blks
  have hT9 : nT ≤ 100000 := by rw [hnT]; exact hL.txs
  obtain ⟨p2, hp2⟩ : ∃ p, p = w0.heap.size := ⟨_, rfl⟩
  obtain ⟨x1, hx1⟩ : ∃ x, x = w0.alloc (.cells #[.int .i64 L.next, .slice Ao L.opn.length co, .slice Ab L.blks.length cb, .slice At L.txs.length ct] 32) := ⟨_, rfl⟩
  obtain ⟨x2, hx2⟩ : ∃ x, x = x1.alloc (.cells #[.int .i64 L.next, .slice Ao' L.opn.length co', .slice Ab' L.blks.length cb', .slice At' L.txs.length ct'] 32) := ⟨_, rfl⟩
  have b2 := Blk.new w0 [.int .i64 L.next, .slice Ao L.opn.length co, .slice Ab L.blks.length cb, .slice At L.txs.length ct] 32
  rw [show w0.alloc (.cells [.int .i64 L.next, .slice Ao L.opn.length co, .slice Ab L.blks.length cb, .slice At L.txs.length ct].toArray 32) = x1 from hx1.symm, ← hp2] at b2
  have b3 := Blk.new x1 [.int .i64 L.next, .slice Ao' L.opn.length co', .slice Ab' L.blks.length cb', .slice At' L.txs.length ct'] 32
  rw [show x1.alloc (.cells [.int .i64 L.next, .slice Ao' L.opn.length co', .slice Ab' L.blks.length cb', .slice At' L.txs.length ct'].toArray 32) = x2 from hx2.symm, show x1.heap.size = p2 + 1 by rw [hx1, hp2]; simp] at b3
  have t1 : Turns [] w0 x1 := by rw [hx1]; exact (Turns.refl _ _).alloc _
  have t2 : Turns [] x1 x2 := by rw [hx2]; exact (Turns.refl _ _).alloc _
  have b22 := b2.turns t2 (by simp)
  have HX := Lib.hid (And.intro hx1 (And.intro hx2 hp2))
  have tt := t1.trans t2 (by simp)
  have T1 := b22.cell 1
  have T0 := b22.cell 0
  have T2 := b22.cell 2
  have T3 := b22.cell 3
  have U0 := b3.cell 0
  have U1 := b3.cell 1
  have U2 := b3.cell 2
  have U3 := b3.cell 3
  simp only [List.getElem?_cons_zero, List.getElem?_cons_succ] at T0 T1 T2 T3 U0 U1 U2 U3
  have E1 := Lib.hid (SameTxs_same L.opn hL.opn hL.otx _ _ _ _ x2 (hd.opn.keep TxR.lasts (tt.keeps0 _)) (hd'.opn.keep TxR.lasts (tt.keeps0 _)))
  have HD := Lib.hid (And.intro (hd.keep (tt.keeps0 _)) (And.intro (hd'.keep (tt.keeps0 _)) (And.intro hL (And.intro hnb hnT))))
  have HT := Lib.hid tt
  rw [← hnb] at T2 U2 HX ⊢
  rw [← hnT] at T3 U3 HX ⊢
  clear hx1 hx2 hp2 b2 b3 t1 t2 b22 tt hd hd' hL hnb hnT
  go_enter Tryz.func18, Tryz.ntmps18
  go_upto_region 1 with fail
  rw [← HX.out.1, ← HX.out.2.1, ← HX.out.2.2]
  go_wp2_with fail
  refine E1.out.mono ?_
  rintro e y1 ⟨rfl, u1⟩
  have V2 := cellV u1 T2
  have V3 := cellV u1 T3
  have Z2 := cellV u1 U2
  have Z3 := cellV u1 U3
  have H1 := Lib.hid u1
  clear u1 E1 T0 T1 T2 T3 U0 U1 U2 U3
  go_wp2_with fail
  go_loopw [5] (fun u wr => ∃ i : Nat, i ≤ nb ∧ u = .int .i64 i ∧ Turns [] y1 wr) (fun u _ => nb - (intOf u).toNat)
  case atStart => exact ⟨0, by omega, rfl, Turns.refl _ _⟩
  case round =>
    rename World => wr
    obtain ⟨i, hi, rfl, tr⟩ := hrel
    have q2 := cellV tr V2
    by_cases hlt : i < nb
    · have hii : (i : Int) < (nb : Int) := by omega
      have hil : i < L.blks.length := by have := HD.out.2.2.2.1; omega
      have t1r := H1.out.trans tr (by simp)
      obtain ⟨b, off, c1, hv, _, _, rg⟩ := blo_at (HD.out.1.blks.keep (t1r.keeps0 _)) HD.out.2.2.1.blo i hil
      injection hv with e1 e2 e3
      subst e1 e3
      clear e2
      obtain ⟨b', off', c1', hv', _, _, rg'⟩ := blo_at (HD.out.2.1.blks.keep (t1r.keeps0 _)) HD.out.2.2.1.blo i hil
      injection hv' with e1 e2 e3
      subst e1 e3
      clear e2
      have hxo := HD.out.2.2.1.blo _ (List.getElem_mem hil)
      obtain ⟨x, hx⟩ : ∃ x, x = L.blks[i] := ⟨_, rfl⟩
      rw [← hx] at rg rg' hxo
      have heq := eqlRBlo x hxo
      have hcl : x.cells.length = 66 := Blo.cells_len hxo
      generalize x.cells = cs at rg rg' heq hcl
      have hz1 := size_rblo cs hcl
      obtain ⟨Y, hY⟩ : ∃ q, q = wr.drew := ⟨_, rfl⟩
      have tY : Turns [] wr Y := by rw [hY]; exact (Turns.refl _ _).drew
      have HYY := Lib.hid hY
      have tyY := tr.trans tY (by simp)
      have C2 := cellV tyY V2
      have D2 := cellV tyY Z2
      have r1 := rangeV tY rg
      have r2 := rangeV tY rg'
      have HEQ := Lib.hid heq
      have HTR := Lib.hid tyY
      have S0 : Turns [] Y Y := Turns.refl _ _
      clear hY tY tyY rg rg' hx hxo hcl t1r tr hil heq
      go_upto_region 6 with fail
      refine rk0 (fun W => Turns [] Y W) (fun _ => True) 11 11 ?_
      rw [← HYY.out]
      refine rkA 0 45 1 (v := ?_) ?_ (.mk' S0 trivial) ?_
      rotate_left
      · intro W hS; go_simp; all_goals with_reducible rfl
      try simp only [sI, sS, sZ]
      refine rkA 1 46 3 (v := ?_) ?_ (.mk' S0 trivial) ?_
      rotate_left
      · intro W hS; have c0 := cellL hS C2 (by simp); go_simp; all_goals with_reducible rfl
      try simp only [sI, sS, sZ]
      refine rkA 2 47 7 (v := ?_) ?_ (.mk' S0 trivial) ?_
      rotate_left
      · intro W hS; go_simp; all_goals with_reducible rfl
      try simp only [sI, sS, sZ]
      refine rkA 3 48 15 (v := ?_) ?_ (.mk' S0 trivial) ?_
      rotate_left
      · intro W hS; go_simp; all_goals with_reducible rfl
      try simp only [sI, sS, sZ]
      refine rkY 4 49 31 rfl (yieldsIf_load_mid (by rfl) _ _ rfl b (off + i * 66) (by rfl) cs _ (fun W hS => rangeV hS r1) Tryz.underlying75 rfl hz1) (.mk' S0 trivial) ?_
      try simp only [sI, sS, sZ]
      refine rkA 5 50 63 (v := ?_) ?_ (.mk' S0 trivial) ?_
      rotate_left
      · intro W hS; go_simp; all_goals with_reducible rfl
      try simp only [sI, sS, sZ]
      refine rkA 6 51 127 (v := ?_) ?_ (.mk' S0 trivial) ?_
      rotate_left
      · intro W hS; have c0 := cellL hS D2 (by simp); go_simp; all_goals with_reducible rfl
      try simp only [sI, sS, sZ]
      refine rkA 7 52 255 (v := ?_) ?_ (.mk' S0 trivial) ?_
      rotate_left
      · intro W hS; go_simp; all_goals with_reducible rfl
      try simp only [sI, sS, sZ]
      refine rkA 8 53 511 (v := ?_) ?_ (.mk' S0 trivial) ?_
      rotate_left
      · intro W hS; go_simp; all_goals with_reducible rfl
      try simp only [sI, sS, sZ]
      refine rkY 9 54 1023 rfl (yieldsIf_load_mid (by rfl) _ _ rfl b' (off' + i * 66) (by rfl) cs _ (fun W hS => rangeV hS r2) Tryz.underlying75 rfl hz1) (.mk' S0 trivial) ?_
      try simp only [sI, sS, sZ]
      refine rkY 10 55 2047 rfl (yields_neqS (by rfl) _ _ _ _ rfl (by kernel_rfl) cs.toArray HEQ.out (by rfl) (by rfl)) (.mk' S0 trivial) ?_
      try simp only [sI, sS, sZ]
      refine rkZ ?_
      clear C2 D2 r1 r2 S0 q2
      go_wp2_with fail
      go_roundw
      case rel => exact ⟨i + 1, by omega, by go_num, HTR.out⟩
      case measure => (simp [intOf] <;> omega)
    · obtain rfl : nb = i := by omega
      have V3 := cellV tr V3
      have Z3 := cellV tr Z3
      have H2 := Lib.hid (H1.out.trans tr (by simp))
      clear tr hi hlt V2 Z2
      go_wp2_with fail
      go_loopw [6] (fun u wv => ∃ i : Nat, i ≤ nT ∧ u = .int .i64 i ∧ Turns [] wr wv) (fun u _ => nT - (intOf u).toNat)
      case atStart => exact ⟨0, by omega, rfl, Turns.refl _ _⟩
      case round =>
        rename World => wv
        obtain ⟨i, hi, rfl, tr⟩ := hrel
        have q3 := cellV tr V3
        by_cases hlt : i < nT
        · have hii : (i : Int) < (nT : Int) := by omega
          have hil : i < L.txs.length := by have := HD.out.2.2.2.2; omega
          obtain ⟨Y, hY⟩ : ∃ q, q = wv.drew := ⟨_, rfl⟩
          have tY : Turns [] wv Y := by rw [hY]; exact (Turns.refl _ _).drew
          have HYY := Lib.hid hY
          have tyY := tr.trans tY (by simp)
          have t2Y := H2.out.trans tyY (by simp)
          obtain ⟨b, off, c1, cs, hv, _, _, _, rg, hR⟩ := (HD.out.1.txs.keep TxsR.lasts (t2Y.keeps0 _)).at_ (by omega) i hil
          injection hv with e1 e2 e3
          subst e1 e3
          clear e2
          obtain ⟨b', off', c1', cs', hv', _, _, _, rg', hR'⟩ := (HD.out.2.1.txs.keep TxsR.lasts (t2Y.keeps0 _)).at_ (by omega) i hil
          injection hv' with e1 e2 e3
          subst e1 e3
          clear e2
          have hx1 := HD.out.2.2.1.tl _ (List.getElem_mem hil)
          have hx2 := HD.out.2.2.1.tt _ (List.getElem_mem hil)
          obtain ⟨x, hx⟩ : ∃ x, x = L.txs[i] := ⟨_, rfl⟩
          rw [← hx] at hR hR' hx1 hx2
          obtain ⟨vx, rfl, hs⟩ := hR
          obtain ⟨vx', rfl, hs'⟩ := hR'
          obtain ⟨Ax, cx, rfl, _⟩ := hs.form
          obtain ⟨Ax', cx', rfl, _⟩ := hs'.form
          have Q1 := rg 0 _ rfl
          have Q2 := rg' 0 _ rfl
          rw [Nat.add_zero, Nat.mul_one] at Q1 Q2
          have C3 := cellV tyY V3
          have D3 := cellV tyY Z3
          have SC := Lib.hid (SameTxs_same x hx1 hx2 _ _ _ _ Y hs hs')
          have HTR := Lib.hid tyY
          have S0 : Turns [] Y Y := Turns.refl _ _
          clear hY tY tyY t2Y rg rg' hx hx1 hx2 hil hs hs' tr
          go_upto_region 11 with fail
          refine rk0 (fun W => Turns [] Y W) (fun _ => True) 12 12 ?_
          rw [← HYY.out]
          refine rkA 0 63 1 (v := ?_) ?_ (.mk' S0 trivial) ?_
          rotate_left
          · intro W hS; go_simp; all_goals with_reducible rfl
          try simp only [sI, sS, sZ]
          refine rkA 1 64 3 (v := ?_) ?_ (.mk' S0 trivial) ?_
          rotate_left
          · intro W hS; have c0 := cellL hS C3 (by simp); go_simp; all_goals with_reducible rfl
          try simp only [sI, sS, sZ]
          refine rkA 2 65 7 (v := ?_) ?_ (.mk' S0 trivial) ?_
          rotate_left
          · intro W hS; go_simp; all_goals with_reducible rfl
          try simp only [sI, sS, sZ]
          refine rkA 3 66 15 (v := ?_) ?_ (.mk' S0 trivial) ?_
          rotate_left
          · intro W hS; go_simp; all_goals with_reducible rfl
          try simp only [sI, sS, sZ]
          refine rkA 4 67 31 (v := ?_) ?_ (.mk' S0 trivial) ?_
          rotate_left
          · intro W hS; have c0 := cellL hS Q1 (by simp); go_simp; all_goals with_reducible rfl
          try simp only [sI, sS, sZ]
          refine rkA 5 68 63 (v := ?_) ?_ (.mk' S0 trivial) ?_
          rotate_left
          · intro W hS; go_simp; all_goals with_reducible rfl
          try simp only [sI, sS, sZ]
          refine rkA 6 69 127 (v := ?_) ?_ (.mk' S0 trivial) ?_
          rotate_left
          · intro W hS; have c0 := cellL hS D3 (by simp); go_simp; all_goals with_reducible rfl
          try simp only [sI, sS, sZ]
          refine rkA 7 70 255 (v := ?_) ?_ (.mk' S0 trivial) ?_
          rotate_left
          · intro W hS; go_simp; all_goals with_reducible rfl
          try simp only [sI, sS, sZ]
          refine rkA 8 71 511 (v := ?_) ?_ (.mk' S0 trivial) ?_
          rotate_left
          · intro W hS; go_simp; all_goals with_reducible rfl
          try simp only [sI, sS, sZ]
          refine rkA 9 72 1023 (v := ?_) ?_ (.mk' S0 trivial) ?_
          rotate_left
          · intro W hS; have c0 := cellL hS Q2 (by simp); go_simp; all_goals with_reducible rfl
          try simp only [sI, sS, sZ]
          refine rk1 10 2047 (fun K hK => ?_)
          go_simp
          refine (SC.out).mono ?_
          rintro e X73 ⟨rfl, D73⟩
          refine hK _ _ (.mk' ((Turns.refl [] Y).trans D73 (by simp)) trivial) ?_
          clear hK K
          try simp only [sI, sS, sZ]
          refine rkA 11 74 4095 (v := ?_) ?_ (.mk' ((Turns.refl [] Y).trans D73 (by simp)) trivial) ?_
          rotate_left
          · intro W hS; go_simp; all_goals with_reducible rfl
          try simp only [sI, sS, sZ]
          refine rkZ ?_
          have HE := Lib.hid (HTR.out.trans ((Turns.refl [] Y).trans D73 (by simp)) (by simp))
          clear C3 D3 Q1 Q2 S0 q3
          go_wp2_with fail
          go_roundw
          case rel => exact ⟨i + 1, by omega, by go_num, HE.out⟩
          case measure => (simp [intOf] <;> omega)
        · obtain rfl : nT = i := by omega
          have HE := Lib.hid (HT.out.trans (H2.out.trans tr (by simp)) (by simp))
          clear tr hi hlt
          go_wp2_with fail
          go_ret
          exact ⟨rfl, HE.out⟩
end Go.Proofs.YtoahnhphfabajaaGreat
