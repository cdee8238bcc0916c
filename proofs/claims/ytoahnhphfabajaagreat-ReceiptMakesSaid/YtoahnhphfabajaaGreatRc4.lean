/- Receipts: made. -/
import Derived.Test.YtoahnhphfabajaaGreatRc3
import Derived.Test.YtoahnhphfabajaaGreatLdS
namespace Go.Proofs.YtoahnhphfabajaaGreat
open Go.RowKit
set_option linter.unusedVariables false
set_option maxRecDepth 10000
set_option linter.unusedSimpArgs false
set_option linter.unnecessarySimpa false

def rec0 : Rec := ⟨0, 0, 0, ⟨⟨#[]⟩, 0, []⟩, [], 0, [], blo0⟩
def mkRec (t : Txn) (xs : List Txn) (bl : Blo) (b sn : Nat) (c : Chg) : Rec := ⟨t.id, sn, t.chs.length, c, mproof (txRows t) sn, b, mproof (xs.map entry) b, bl⟩
def rz : List Value := recCells rec0 (.slice none 0 0) (.slice none 0 0) (.slice none 0 0)
/-- What Make says. -/
def MkP (L : Led) (tx seq : Int) (r : Rec) (er : Int) : Prop :=
  (er = 0 ∧ ∃ (a b sn : Nat) (xs : List Txn) (t : Txn) (bl : Blo) (c : Chg), L.txs[a]? = some xs ∧ xs[b]? = some t ∧ L.blks[a]? = some bl ∧ t.chs[sn]? = some c ∧ t.id = tx ∧ seq = (sn : Int) ∧ r = mkRec t xs bl b sn c) ∨
  (er = 2 ∧ r = rec0 ∧ ((∀ (a b : Nat) (xs : List Txn) (t : Txn), L.txs[a]? = some xs → xs[b]? = some t → t.id ≠ tx) ∨ seq < 0 ∨ ∃ (a b : Nat) (xs : List Txn) (t : Txn), L.txs[a]? = some xs ∧ xs[b]? = some t ∧ t.id = tx ∧ ((t.chs.length : Nat) : Int) ≤ seq))
theorem zero_rec : (Tryz.prog.info? 72).bind (·.zero) = some (.agg rz.toArray) := by kernel_rfl
theorem built_rec0 : Tryz.prog.built 72 [] = some rz.toArray := by kernel_rfl
theorem built_fin (nx : Int) (ov bv tv : Value) : Tryz.prog.built 116 [(0, .agg #[.int .i64 nx, ov, bv, tv])] = some (fcs nx ov bv tv (.int .u32 0) (.int .i32 0) (.int .u32 0) 0 0 false).toArray := by kernel_rfl
theorem size_rec (cs : List Value) (h : cs.length = 75) : (Tryz.prog.info? 72).map (·.size) = some cs.length := by rw [h]; kernel_rfl
theorem rz_len : rz.length = 75 := recCells_len blo0_ok _ _ _
theorem fld_tx (id : Int) (v : Value) : ∀ w, (Instr.field 45 (.agg #[.int .i64 id, v]) 1).run Tryz.prog w = .ok v w := fun w => by kernel_rfl
/-- A receipt whose rows lie behind lo. -/
structure RecO (lo : Nat) (w : World) (r : Rec) (rv hv ev : Value) : Prop where
  rd : RecR w r rv hv ev
  lo : ∀ v ∈ [rv, hv, ev], ∀ k, v.ownBlock = some k → lo ≤ k
theorem RecO.on {lo : Nat} {w w' : World} {r : Rec} {rv hv ev : Value} (h : RecO lo w r rv hv ev) (t : Turns [] w w') : RecO lo w' r rv hv ev := ⟨h.rd.on t, h.lo⟩
theorem RecO.store {lo g : Nat} {w w' : World} {r : Rec} {rv hv ev : Value} (h : RecO lo w r rv hv ev) (t : Turns [g] w w') (hg : g < lo ∨ w.heap.size ≤ g) : RecO lo w' r rv hv ev := by
  rcases hg with hg | hg
  · have hn : ∀ v ∈ [rv, hv, ev], ∀ x ∈ [g], v.ownBlock ≠ some x := fun v hv x hx e => by simp at hx; have := h.lo v hv x e; omega
    exact ⟨⟨(t.slice h.rd.row (Nat.le_refl _) (hn rv (by simp))).more t.size, (h.rd.rows.turns t (Nat.le_refl _) (hn hv (by simp))).more t.size, (h.rd.ents.turns t (Nat.le_refl _) (hn ev (by simp))).more t.size⟩, h.lo⟩
  · exact h.on ((Turns.refl [] w).trans t (by intro x hx; simp at hx; exact .inr (by omega)))
theorem rec0R (lo : Nat) (w : World) : RecO lo w rec0 (.slice none 0 0) (.slice none 0 0) (.slice none 0 0) := ⟨⟨Sl.nil, Hs.nil, Hs.nil⟩, by intro v hv k e; simp at hv; subst hv; simp [Value.ownBlock] at e⟩
set_option maxRecDepth 100000 in
theorem built_rec (r : Rec) (h : r.blk.ok) (rv : Value) : Tryz.prog.built 72 [(0, .int .i64 r.tx), (1, .int .i64 r.seq), (2, .int .i64 r.chgs), (3, .agg #[.string r.c.table, .int .i64 r.c.op, rv]), (5, .int .i64 r.place), (7, .agg r.blk.cells.toArray)] = some (recCells r rv (.slice none 0 0) (.slice none 0 0)).toArray := by
  obtain ⟨tx, seq, chgs, c, rows, place, ents, ⟨n, pv, rt, cn⟩⟩ := r
  match pv, h.prev, rt, h.root with
  | [a0, a1, a2, a3, a4, a5, a6, a7, a8, a9, a10, a11, a12, a13, a14, a15, a16, a17, a18, a19, a20, a21, a22, a23, a24, a25, a26, a27, a28, a29, a30, a31], _, [b0, b1, b2, b3, b4, b5, b6, b7, b8, b9, b10, b11, b12, b13, b14, b15, b16, b17, b18, b19, b20, b21, b22, b23, b24, b25, b26, b27, b28, b29, b30, b31], _ => show _ = _; kernel_rfl
set_option maxRecDepth 100000 in
set_option maxHeartbeats 16000000 in
theorem Make_any (L : Led) (hL : L.ok) (hbt : L.blks.length = L.txs.length) (tx seq : Int) (ov bv tv : Value) (S : Nat → Prop) (w0 : World) (hd : LedR w0 S ov bv tv L) :
    Calls Tryz.prog 24 #[.agg #[.int .i64 L.next, ov, bv, tv], .int .i64 tx, .int .i64 seq] w0 fun e w' => ∃ r rv hv ev er, e = .returned (.tuple #[.agg (recCells r rv hv ev).toArray, .int .i64 er]) ∧ RecO w0.heap.size w' r rv hv ev ∧ MkP L tx seq r er ∧ Turns [] w0 w' := by
  obtain ⟨Ao, co, rfl, _⟩ := hd.opn.form
  obtain ⟨Ab, cb, rfl, _⟩ := hd.blks.form'
  obtain ⟨At, ct, rfl, _⟩ := hd.txs.form
  obtain ⟨nO, hnO⟩ : ∃ n, n = L.opn.length := ⟨_, rfl⟩
  rw [← hnO] at hd ⊢
  have hdx := hd.mono (S' := fun b => b < w0.heap.size) (fun j hj _ => hj)
  obtain ⟨zz, hzz⟩ : ∃ z, z = rz := ⟨_, rfl⟩
  have hz81 := zero_rec
  have hb81 := built_rec0
  have hbf := built_fin L.next (.slice Ao nO co) (.slice Ab L.blks.length cb) (.slice At L.txs.length ct)
  have hzl : zz.length = 75 := by rw [hzz]; exact rz_len
  rw [← hzz] at hz81 hb81
  have HZ := Lib.hid (And.intro hzz hzl)
  obtain ⟨p3, hp3⟩ : ∃ q, q = w0.heap.size := ⟨_, rfl⟩
  obtain ⟨x1, hx1⟩ : ∃ x, x = w0.alloc (.cells #[.int .i64 L.next, .slice Ao nO co, .slice Ab L.blks.length cb, .slice At L.txs.length ct] 29) := ⟨_, rfl⟩
  obtain ⟨x2, hx2⟩ : ∃ x, x = x1.alloc (.cells #[.int .i64 tx] 3) := ⟨_, rfl⟩
  obtain ⟨x3, hx3⟩ : ∃ x, x = x2.alloc (.cells zz.toArray 72) := ⟨_, rfl⟩
  have b3 := Blk.new w0 [.int .i64 L.next, .slice Ao nO co, .slice Ab L.blks.length cb, .slice At L.txs.length ct] 29
  rw [show w0.alloc (.cells [.int .i64 L.next, .slice Ao nO co, .slice Ab L.blks.length cb, .slice At L.txs.length ct].toArray 29) = x1 from hx1.symm, ← hp3] at b3
  have b4 := Blk.new x1 [.int .i64 tx] 3
  rw [show x1.alloc (.cells [.int .i64 tx].toArray 3) = x2 from hx2.symm, show x1.heap.size = p3 + 1 by rw [hx1, hp3]; simp] at b4
  have b6 := Blk.new x2 zz 72
  rw [← hx3, show x2.heap.size = p3 + 1 + 1 by rw [hx2, hx1, hp3]; simp] at b6
  have t1 : Turns [] w0 x1 := by rw [hx1]; exact (Turns.refl _ _).alloc _
  have t2 : Turns [] x1 x2 := by rw [hx2]; exact (Turns.refl _ _).alloc _
  have t3 : Turns [] x2 x3 := by rw [hx3]; exact (Turns.refl _ _).alloc _
  have hs3 : x3.heap.size = p3 + 1 + 1 + 1 := by rw [hx3, hx2, hx1, hp3]; simp
  have b33 := (b3.turns t2 (by simp)).turns t3 (by simp)
  have r3 := b33.all
  have hz3 := size_led (.int .i64 L.next) (.slice Ao nO co) (.slice Ab L.blks.length cb) (.slice At L.txs.length ct)
  have H3 := Lib.hid (And.intro (b4.turns t3 (by simp)) (And.intro b6 (And.intro ((t1.trans t2 (by simp)).trans t3 (by simp)) (And.intro hs3 hp3))))
  have HX := Lib.hid (And.intro hx1 (And.intro hx2 (And.intro hx3 hp3)))
  have HL := Lib.hid (And.intro hL (And.intro hbt (And.intro hdx hd)))
  clear hp3 hx1 hx2 hx3 b3 b4 b6 t1 t2 t3 hs3 b33 hL hbt hd hdx hnO hzz hzl
  go_enter Tryz.func24, Tryz.ntmps24
  go_upto_region 1 with (first | (refine wpList_alloc_arr (o := ⟨some 6, _, _, _, _, _⟩) rfl 72 rfl zz.toArray hz81 ?_) | fail)
  try simp only [Act.put, List.setIfInBounds_toArray, List.set_cons_succ, List.set_cons_zero]
  rw [← HX.out.1, ← HX.out.2.1, ← HX.out.2.2.1, ← HX.out.2.2.2]
  go_upto_region 2 with (first
    | (refine wpList_load_mid rfl 29 (.tmp 3) rfl p3 0 rfl _ _ r3 Tryz.underlying29 rfl hz3 ?_)
    | (refine wpList_buildTo (o := ⟨some 18, _, _, _, _, _⟩) rfl 116 _ rfl (some 18) rfl _ hbf ?_)
    | fail)
  obtain ⟨pf, hpf⟩ : ∃ q, q = x3.heap.size := ⟨_, rfl⟩
  obtain ⟨x4, hx4⟩ : ∃ x, x = x3.alloc (.cells #[.int .i64 L.next, .slice Ao nO co, .slice Ab L.blks.length cb, .slice At L.txs.length ct, .int .u32 0, .int .i32 0, .int .u32 0, .int .i64 0, .int .i64 0, .bool false] 116) := ⟨_, rfl⟩
  obtain ⟨x5, hx5⟩ : ∃ x, x = x4.alloc (.cells #[.pointer (some ⟨pf, 0, none⟩)] 114) := ⟨_, rfl⟩
  have bF := Blk.new x3 (fcs L.next (.slice Ao nO co) (.slice Ab L.blks.length cb) (.slice At L.txs.length ct) (.int .u32 0) (.int .i32 0) (.int .u32 0) 0 0 false) 116
  rw [show x3.alloc (.cells (fcs L.next (.slice Ao nO co) (.slice Ab L.blks.length cb) (.slice At L.txs.length ct) (.int .u32 0) (.int .i32 0) (.int .u32 0) 0 0 false).toArray 116) = x4 from hx4.symm, ← hpf] at bF
  have t4 : Turns [] x3 x4 := by rw [hx4]; exact (Turns.refl _ _).alloc _
  have hs4 : x4.heap.size = pf + 1 := by rw [hx4, hpf]; simp
  have b8 := Blk.new x4 [.pointer (some ⟨pf, 0, none⟩)] 114
  rw [show x4.alloc (.cells [.pointer (some ⟨pf, 0, none⟩)].toArray 114) = x5 from hx5.symm, hs4] at b8
  have t5 : Turns [] x4 x5 := by rw [hx5]; exact (Turns.refl _ _).alloc _
  have t35 := t4.trans t5 (by simp)
  obtain ⟨p8, hp8⟩ : ∃ q, q = pf + 1 := ⟨_, rfl⟩
  obtain ⟨p4, hp4⟩ : ∃ q, q = p3 + 1 := ⟨_, rfl⟩
  obtain ⟨p6, hp6⟩ : ∃ q, q = p4 + 1 := ⟨_, rfl⟩
  rw [← hp8] at b8
  rw [← hp4] at H3
  rw [← hp6] at H3
  have b45 := H3.out.1.turns t35 (by simp)
  have hpp := H3.out.2.2.2
  have t05 := H3.out.2.2.1.trans t35 (by simp)
  have OF := Lib.hid (once_find L HL.out.1 HL.out.2.1 tx pf p8 p4 (by omega) (by omega) (.slice Ao nO co) (.slice At L.txs.length ct) Ab cb (fun b => b < w0.heap.size) (by show ¬ pf < _; omega) x5 (bF.turns t5 (by simp)) (HL.out.2.2.1.keep (t05.keeps0 _)).txs (b8.cell 0) (b45.cell 0))
  have HY := Lib.hid (And.intro hx4 (And.intro hx5 (And.intro hpf (And.intro hp8 (And.intro hp4 hp6)))))
  have H5 := Lib.hid (And.intro b8 (And.intro b45 (And.intro (H3.out.2.1.turns t35 (by simp)) (And.intro t05 (show w0.heap.size ≤ pf ∧ p8 ≠ pf ∧ p4 ≠ pf ∧ p6 ≠ pf ∧ w0.heap.size ≤ p6 by omega)))))
  clear hx4 hx5 bF t4 hs4 b8 t5 t35 b45 hpp t05 hpf hp8 hp4 hp6 r3 hz3 hbf
  rw [← HY.out.1, ← HY.out.2.2.1]
  rw [← HY.out.2.1, ← HY.out.2.2.2.1, ← HY.out.2.2.2.2.1, ← HY.out.2.2.2.2.2]
  have c85 := H5.out.1.cell 0
  simp only [List.getElem?_cons_zero] at c85
  go_wp2_with fail
  refine OF.out.mono ?_
  rintro e y1 ⟨rfl, a, b, is, bf, fk, tf⟩
  have H1 := Lib.hid (And.intro bf (And.intro (H5.out.1.turns tf (by simp; exact H5.out.2.2.2.2.2.1)) (And.intro (H5.out.2.1.turns tf (by simp; exact H5.out.2.2.2.2.2.2.1)) (And.intro (H5.out.2.2.1.turns tf (by simp; exact H5.out.2.2.2.2.2.2.2.1)) (And.intro (H5.out.2.2.2.1.trans tf (by intro x hx; simp at hx; exact .inr (by have := H5.out.2.2.2.2.1; omega))) (show w0.heap.size ≤ pf ∧ w0.heap.size ≤ p6 from ⟨H5.out.2.2.2.2.1, H5.out.2.2.2.2.2.2.2.2⟩))))))
  have HFK := Lib.hid fk
  have c8 := H1.out.2.1.cell 0
  have k9 := bf.cell 9
  simp only [fcs, List.getElem?_cons_zero, List.getElem?_cons_succ] at c8 k9
  have HZ0 := Lib.hid (And.intro (show zz.length = rz.length by rw [HZ.out.1]) (And.intro (size_rec rz rz_len) (recCells_one rec0 (rv := .slice none 0 0) (hv := .slice none 0 0) (ev := .slice none 0 0) rfl rfl rfl)))
  clear bf fk tf OF c85
  cases is with
  | false =>
    have HNF := Lib.hid (show ∀ (a b : Nat) (xs : List Txn) (t : Txn), L.txs[a]? = some xs → xs[b]? = some t → t.id ≠ tx from fun a' b' xs t h1 h2 => by
      rcases HFK.out with ⟨h, _⟩ | ⟨_, _, _, h⟩
      · cases h
      · obtain ⟨ha, rfl⟩ := List.getElem?_eq_some_iff.1 h1
        obtain ⟨hb, rfl⟩ := List.getElem?_eq_some_iff.1 h2
        exact h a' ha b' hb (.inl ha))
    have HB6 := Lib.hid (H1.out.2.2.2.1.turns (Turns.refl [] y1) (by simp))
    have HMK := Lib.hid (show MkP L tx seq rec0 2 from .inr ⟨rfl, rfl, .inl HNF.out⟩)
    go_wp2_with (first
      | (refine wpList_store_blk rfl 72 (.tmp 6) (.tmp 42) rfl p6 (by kernel_rfl) rz zz 72 (by kernel_rfl) HB6.out HZ0.out.1 HZ0.out.2.1 HZ0.out.2.2 (fun w9 hb9 ht9 hs9 => ?_); have HQ9 := Lib.hid (And.intro hb9 ht9); clear hb9 ht9 hs9)
      | fail)
    refine bodyPost_ret (results_two rfl _ _ p6 _ _ _ (.int .i64 2) (by kernel_rfl) (by kernel_rfl) HQ9.out.1 Tryz.underlying72 rfl (by rw [List.size_toArray]; exact HZ0.out.2.1)) rfl ?_
    exact ⟨rec0, _, _, _, 2, rfl, rec0R _ _, HMK.out, (H1.out.2.2.2.2.1.trans (Turns.refl [] y1) (by simp)).trans HQ9.out.2 (by intro x hx; simp at hx; exact .inr (by have := H1.out.2.2.2.2.2.2; omega))⟩
  | true =>
    obtain ⟨ha, hb, hid⟩ : ∃ (ha : a < L.txs.length) (hb : b < L.txs[a].length), L.txs[a][b].id = tx := by
      rcases HFK.out with ⟨_, h⟩ | ⟨h, _⟩
      · exact h
      · cases h
    have hd1 := HL.out.2.2.2.keep (H1.out.2.2.2.2.1.keeps0 _)
    obtain ⟨xs, hxs⟩ : ∃ x, x = L.txs[a] := ⟨_, rfl⟩
    obtain ⟨bT, offT, ccT, csT, hvT, _, _, _, rgT, hRT⟩ := hd1.txs.at_ (by omega) a ha
    injection hvT with e1 e2 e3
    subst e1 e3
    clear e2
    rw [← hxs] at hRT
    have hbx : b < xs.length := by rw [hxs]; exact hb
    obtain ⟨vx, rfl, dx⟩ := hRT
    obtain ⟨AX, cX, rfl, _⟩ := dx.form
    have q0 := rgT 0 _ rfl
    rw [Nat.add_zero, Nat.mul_one] at q0
    obtain ⟨t, ht⟩ : ∃ x, x = xs[b] := ⟨_, rfl⟩
    obtain ⟨b2, off2, cc2, cs2, hv2, _, _, _, rg2, hR2⟩ := dx.at_ (by omega) b hbx
    injection hv2 with e1 e2 e3
    subst e1 e3
    clear e2
    rw [← ht] at hR2
    obtain ⟨cv, rfl, dc⟩ := hR2
    obtain ⟨Ac, cc, rfl, _⟩ := dc.form
    have hxa : L.txs[a]? = some xs := by rw [hxs]; exact List.getElem?_eq_getElem ha
    have htb : xs[b]? = some t := by rw [ht]; exact List.getElem?_eq_getElem hbx
    have htx : t.id = tx := by rw [ht, ← hid]; congr 1; simp [hxs]
    have hto := HL.out.1.tt xs (by rw [hxs]; exact List.getElem_mem ha) t (by rw [ht]; exact List.getElem_mem hbx)
    have hxo := HL.out.1.tt xs (by rw [hxs]; exact List.getElem_mem ha)
    have hxl := HL.out.1.tl xs (by rw [hxs]; exact List.getElem_mem ha)
    obtain ⟨nC, hnC⟩ : ∃ n, n = t.chs.length := ⟨_, rfl⟩
    obtain ⟨nX, hnX⟩ : ∃ n, n = xs.length := ⟨_, rfl⟩
    rw [← hnX] at q0 dx hbx hxl
    rw [← hnC] at rg2 dc
    have hnC9 : nC ≤ 1000 := by rw [hnC]; exact hto.len
    have HXS := Lib.hid (And.intro hxa (And.intro htb htx))
    have TXF := Lib.hid (show ∀ W, Turns [] y1 W → Calls Tryz.prog 46 #[.pointer (some ⟨pf, 0, none⟩)] W fun e w' => e = .returned (.agg #[.int .i64 t.id, .slice Ac nC cc]) ∧ Turns [] W w' from fun W tt => tx_any _ _ _ _ _ _ pf bT offT L.txs.length _ a b b2 off2 nX _ nC cc true t.id Ac W (H1.out.1.turns tt (by simp)) ha hbx (cellV tt q0) (rangeV tt rg2))
    have HT := Lib.hid (And.intro hto (And.intro hxo (And.intro hnC (And.intro hnX (And.intro dx (And.intro dc (And.intro q0 (And.intro ha (And.intro hbx hd1)))))))))
    clear hb hid hd1 hxs rgT hbx dx q0 ht rg2 dc hxa htb htx hto hxo hnC hnX ha HFK
    by_cases hs0 : seq < 0
    · have HSQ := Lib.hid hs0
      have HB6 := Lib.hid (H1.out.2.2.2.1.turns (Turns.refl [] y1) (by simp))
      have HMK := Lib.hid (show MkP L tx seq rec0 2 from .inr ⟨rfl, rfl, .inr (.inl HSQ.out)⟩)
      go_wp2_with (first
        | (refine wpList_store_blk rfl 72 (.tmp 6) (.tmp 42) rfl p6 (by kernel_rfl) rz zz 72 (by kernel_rfl) HB6.out HZ0.out.1 HZ0.out.2.1 HZ0.out.2.2 (fun w9 hb9 ht9 hs9 => ?_); have HQ9 := Lib.hid (And.intro hb9 ht9); clear hb9 ht9 hs9)
        | fail)
      refine bodyPost_ret (results_two rfl _ _ p6 _ _ _ (.int .i64 2) (by kernel_rfl) (by kernel_rfl) HQ9.out.1 Tryz.underlying72 rfl (by rw [List.size_toArray]; exact HZ0.out.2.1)) rfl ?_
      exact ⟨rec0, _, _, _, 2, rfl, rec0R _ _, HMK.out, (H1.out.2.2.2.2.1.trans (Turns.refl [] y1) (by simp)).trans HQ9.out.2 (by intro x hx; simp at hx; exact .inr (by have := H1.out.2.2.2.2.2.2; omega))⟩
    · go_wp2_with fail
      refine (TXF.out y1 (Turns.refl _ _)).mono ?_
      rintro e y2 ⟨rfl, t2⟩
      have HT2 := Lib.hid t2
      have c8 := cellV t2 c8
      have hfd := fld_tx t.id (.slice Ac nC cc)
      clear t2 k9
      by_cases hsl : (nC : Int) ≤ seq
      · have HSQ := Lib.hid (show ((t.chs.length : Nat) : Int) ≤ seq by have := HT.out.2.2.1; omega)
        have t2 := HT2.out
        have HB6 := Lib.hid (H1.out.2.2.2.1.turns t2 (by simp))
        have HMK := Lib.hid (show MkP L tx seq rec0 2 from .inr ⟨rfl, rfl, .inr (.inr ⟨a, b, xs, t, HXS.out.1, HXS.out.2.1, HXS.out.2.2, HSQ.out⟩)⟩)
        go_wp2_with (first
          | (refine wpList_store_blk rfl 72 (.tmp 6) (.tmp 42) rfl p6 (by kernel_rfl) rz zz 72 (by kernel_rfl) HB6.out HZ0.out.1 HZ0.out.2.1 HZ0.out.2.2 (fun w9 hb9 ht9 hs9 => ?_); have HQ9 := Lib.hid (And.intro hb9 ht9); clear hb9 ht9 hs9)
          | fail)
        refine bodyPost_ret (results_two rfl _ _ p6 _ _ _ (.int .i64 2) (by kernel_rfl) (by kernel_rfl) HQ9.out.1 Tryz.underlying72 rfl (by rw [List.size_toArray]; exact HZ0.out.2.1)) rfl ?_
        exact ⟨rec0, _, _, _, 2, rfl, rec0R _ _, HMK.out, (H1.out.2.2.2.2.1.trans t2 (by simp)).trans HQ9.out.2 (by intro x hx; simp at hx; exact .inr (by have := H1.out.2.2.2.2.2.2; omega))⟩
      · obtain ⟨sn, rfl⟩ := Int.eq_ofNat_of_zero_le (show 0 ≤ seq by omega)
        have hsn : sn < nC := by omega
        go_wp2_with fail
        refine (TXF.out y2 HT2.out).mono ?_
        rintro e y3 ⟨rfl, t3⟩
        obtain ⟨p9, hp9⟩ : ∃ q, q = y3.heap.size := ⟨_, rfl⟩
        obtain ⟨y4, hy4⟩ : ∃ x, x = y3.alloc (.cells #[.int .i64 t.id, .slice Ac nC cc] 45) := ⟨_, rfl⟩
        have b9 := Blk.new y3 [.int .i64 t.id, .slice Ac nC cc] 45
        rw [show y3.alloc (.cells [.int .i64 t.id, .slice Ac nC cc].toArray 45) = y4 from hy4.symm, ← hp9] at b9
        have t4 : Turns [] y3 y4 := by rw [hy4]; exact (Turns.refl _ _).alloc _
        have c1 := b9.cell 1
        simp only [List.getElem?_cons_zero, List.getElem?_cons_succ] at c1
        have HY4 := Lib.hid (And.intro hy4 hp9)
        have H9 := Lib.hid (And.intro b9 ((HT2.out.trans t3 (by simp)).trans t4 (by simp)))
        have HM0 := Lib.hid (show HMine y4 y4 (.slice none 0 0) ((txRows t).take 0) by simpa using HMine.nil (Turns.refl [] y4))
        have HRW := Lib.hid (txRows_len t)
        have HSN := Lib.hid hsn
        clear hp9 hy4 b9 t4 t3 c8 hsl hsn TXF hs0 hfd
        go_upto_region 6 with fail
        rw [← HY4.out.1, ← HY4.out.2]
        go_wp2_with fail
        go_loopw [10, 48] (fun u i wr => ∃ (k : Nat) (A' : Option Addr) (c' : Nat), k ≤ nC ∧ i = .int .i64 k ∧ u = .slice A' k c' ∧ HMine y4 wr (.slice A' k c') ((txRows t).take k)) (fun _ i _ => nC - (intOf i).toNat)
        case atStart => exact ⟨0, none, 0, by omega, rfl, rfl, HM0.out⟩
        case round =>
          rename World => wr
          obtain ⟨k, Au, cu, hk, rfl, rfl, m0⟩ := hrel
          have t0 := m0.turns
          by_cases hlt : k < nC
          · have hki : (k : Int) < (nC : Int) := by omega
            have hkl : k < t.chs.length := by have := HT.out.2.2.1; omega
            obtain ⟨bq, offq, cq, cs, hv, hS, hb, hcl, rg, hR⟩ := (HT.out.2.2.2.2.2.1.keep ChgR.lasts ((H9.out.2.trans t0 (by simp)).keeps0 _)).at_ (by omega) k hkl
            injection hv with e1 e2 e3
            subst e1 e3
            clear e2
            have hck := HT.out.1.chs _ (List.getElem_mem hkl)
            have hst := txRows_step t k hkl
            obtain ⟨c, hc⟩ : ∃ c, c = t.chs[k] := ⟨_, rfl⟩
            rw [← hc] at hR hck hst
            obtain ⟨rv, rfl, hsl⟩ := hR
            obtain ⟨Ar, cr, rfl, _⟩ := hsl.form'
            have hz1 := size_chg c.table c.op (.slice Ar c.row.length cr)
            obtain ⟨X1, hX1⟩ : ∃ X1, X1 = wr.alloc (.cells #[.string c.table, .int .i64 c.op, .slice Ar c.row.length cr] 67) := ⟨_, rfl⟩
            have b5 := Blk.new wr [.string c.table, .int .i64 c.op, .slice Ar c.row.length cr] 67
            rw [show wr.alloc (.cells [.string c.table, .int .i64 c.op, .slice Ar c.row.length cr].toArray 67) = X1 from hX1.symm] at b5
            obtain ⟨p5, hp5⟩ : ∃ q, q = wr.heap.size := ⟨_, rfl⟩
            rw [← hp5] at b5
            have tX : Turns [] wr X1 := by rw [hX1]; exact (Turns.refl _ _).alloc _
            have r5 := b5.all
            have C0 := (H9.out.1.turns (t0.trans tX (by simp)) (by simp)).cell 0
            simp only [List.getElem?_cons_zero, List.getElem?_cons_succ] at C0
            have CR := Lib.hid (CRow_any t.id k c hck (.slice Ar c.row.length cr) X1 ((tX.slice hsl.sl (Nat.le_refl _) (by simp)).more tX.size))
            have HX1 := Lib.hid hX1
            have HP5 := Lib.hid hp5
            have HMX := Lib.hid (m0.on tX)
            have HST := Lib.hid hst
            clear m0 t0 hck hst hc hsl hcl hX1 hp5 tX b5 hb hkl hS c1
            go_upto_region 10 with (first
              | (refine wpList_load_mid rfl 67 (.tmp 51) rfl bq (offq + k * 3) rfl _ _ rg Tryz.underlying67 rfl hz1 ?_)
              | fail)
            rw [← HX1.out, ← HP5.out]
            go_wp2_with (first
              | (refine wpList_load_mid rfl 67 (.tmp 13) rfl p5 0 rfl _ _ r5 Tryz.underlying67 rfl hz1 ?_)
              | fail)
            refine CR.out.mono ?_
            rintro e x2 ⟨rfl, t2⟩
            have m2 := HMX.out.on t2
            have hkk : ((txRows t).take k).length = k := by rw [List.length_take, HRW.out]; have := HT.out.2.2.1; omega
            obtain ⟨v9, w9, hr9, m9⟩ := hmine_push m2 (by rw [hkk]; omega) (chgSum t.id k c) (chgSum_len _ _ _) 68
            rw [← HST.out] at m9
            obtain ⟨A9, c9, rfl, _⟩ := m9.len
            have hk1 : ((txRows t).take (k + 1)).length = k + 1 := by rw [List.length_take, HRW.out]; have := HT.out.2.2.1; omega
            rw [hk1] at m9 hr9
            have HM9 := Lib.hid m9
            clear hk1
            have hl32 := chgSum_len t.id k c
            generalize chgSum t.id k c = h32 at hr9 hl32 ⊢
            clear m2 t2 m9 r5 rg C0 hkk
            go_wp2_with (first
              | (refine wpList_build_hash1 rfl h32 hl32 (.tmp 58) rfl rfl ?_)
              | (at_builtin; refine wpList_append_at rfl (.tmp 53) (.tmp 59) rfl hr9 rfl rfl ?_)
              | fail)
            go_roundw
            case rel => exact ⟨k + 1, A9, c9, by omega, by go_num, rfl, HM9.out⟩
            case measure => (simp [intOf] <;> omega)
          · obtain rfl : nC = k := by omega
            rw [List.take_of_length_le (by rw [HRW.out]; have := HT.out.2.2.1; omega)] at m0
            obtain ⟨Y, hY⟩ : ∃ q, q = wr.drew := ⟨_, rfl⟩
            have tY : Turns [] wr Y := by rw [hY]; exact (Turns.refl _ _).drew
            have HYY := Lib.hid hY
            have t1Y := (H9.out.2.trans t0 (by simp)).trans tY (by simp)
            have P8 := (H1.out.2.1.turns t1Y (by simp)).cell 0
            have F3 := (H1.out.1.turns t1Y (by simp)).cell 3
            have F7 := (H1.out.1.turns t1Y (by simp)).cell 7
            simp only [fcs, List.getElem?_cons_zero, List.getElem?_cons_succ] at P8 F3 F7
            have Q0 := cellV t1Y HT.out.2.2.2.2.2.2.1
            have hai : (a : Int) < ((L.txs.length : Nat) : Int) := by have := HT.out.2.2.2.2.2.2.2.1; omega
            have HM1 := Lib.hid (And.intro m0 tY)
            have HTY := Lib.hid t1Y
            have HM20 := Lib.hid (show HMine Y Y (.slice none 0 0) ((xs.map entry).take 0) by simpa using HMine.nil (Turns.refl [] Y))
            have hnX9 : nX ≤ 1000 := hxl
            have S0 : Turns [] Y Y := Turns.refl _ _
            clear m0 t0 hY tY t1Y hlt hk c1
            go_upto_region 12 with fail
            refine rk0 (fun W => Turns [] Y W) (fun _ => True) 13 13 ?_
            rw [← HYY.out]
            refine rkA 0 62 1 (v := ?_) ?_ (.mk' S0 trivial) ?_
            rotate_left
            · intro W hS; have c0 := cellL hS P8 (by simp); go_simp; all_goals with_reducible rfl
            try simp only [sI, sS, sZ]
            refine rkA 1 63 3 (v := ?_) ?_ (.mk' S0 trivial) ?_
            rotate_left
            · intro W hS; go_simp; all_goals with_reducible rfl
            try simp only [sI, sS, sZ]
            refine rkA 2 64 7 (v := ?_) ?_ (.mk' S0 trivial) ?_
            rotate_left
            · intro W hS; go_simp; all_goals with_reducible rfl
            try simp only [sI, sS, sZ]
            refine rkA 3 65 15 (v := ?_) ?_ (.mk' S0 trivial) ?_
            rotate_left
            · intro W hS; go_simp; all_goals with_reducible rfl
            try simp only [sI, sS, sZ]
            refine rkA 4 66 31 (v := ?_) ?_ (.mk' S0 trivial) ?_
            rotate_left
            · intro W hS; have c0 := cellL hS F3 (by simp); go_simp; all_goals with_reducible rfl
            try simp only [sI, sS, sZ]
            refine rkA 5 67 63 (v := ?_) ?_ (.mk' S0 trivial) ?_
            rotate_left
            · intro W hS; have c0 := cellL hS P8 (by simp); go_simp; all_goals with_reducible rfl
            try simp only [sI, sS, sZ]
            refine rkA 6 68 127 (v := ?_) ?_ (.mk' S0 trivial) ?_
            rotate_left
            · intro W hS; go_simp; all_goals with_reducible rfl
            try simp only [sI, sS, sZ]
            refine rkA 7 69 255 (v := ?_) ?_ (.mk' S0 trivial) ?_
            rotate_left
            · intro W hS; go_simp; all_goals with_reducible rfl
            try simp only [sI, sS, sZ]
            refine rkA 8 70 511 (v := ?_) ?_ (.mk' S0 trivial) ?_
            rotate_left
            · intro W hS; have c0 := cellL hS F7 (by simp); go_simp; all_goals with_reducible rfl
            try simp only [sI, sS, sZ]
            refine rkA 9 71 1023 (v := ?_) ?_ (.mk' S0 trivial) ?_
            rotate_left
            · intro W hS; go_simp; all_goals with_reducible rfl
            try simp only [sI, sS, sZ]
            refine rkA 10 72 2047 (v := ?_) ?_ (.mk' S0 trivial) ?_
            rotate_left
            · intro W hS; have c0 := cellL hS Q0 (by simp); go_simp; all_goals with_reducible rfl
            try simp only [sI, sS, sZ]
            refine rkA 11 73 4095 (v := ?_) ?_ (.mk' S0 trivial) ?_
            rotate_left
            · intro W hS; go_simp; all_goals with_reducible rfl
            try simp only [sI, sS, sZ]
            refine rkA 12 74 8191 (v := ?_) ?_ (.mk' S0 trivial) ?_
            rotate_left
            · intro W hS; go_simp; all_goals with_reducible rfl
            try simp only [sI, sS, sZ]
            refine rkZ ?_
            clear P8 F3 F7 Q0 S0
            go_wp2_with fail
            go_loopw [11, 74] (fun u i wr => ∃ (k : Nat) (A' : Option Addr) (c' : Nat), k ≤ nX ∧ i = .int .i64 k ∧ u = .slice A' k c' ∧ HMine Y wr (.slice A' k c') ((xs.map entry).take k)) (fun _ i _ => nX - (intOf i).toNat)
            case atStart => exact ⟨0, none, 0, by omega, rfl, rfl, HM20.out⟩
            case round =>
              rename World => wv
              obtain ⟨k, Av, cv, hk, rfl, rfl, m0⟩ := hrel
              have t0 := m0.turns
              by_cases hlt : k < nX
              · have hki : (k : Int) < (nX : Int) := by omega
                have hkl : k < xs.length := by have := HT.out.2.2.2.1; omega
                obtain ⟨bq, offq, cq, cs, hv, hS, hb, hcl, rg, hR⟩ := (HT.out.2.2.2.2.1.keep TxR.lasts ((HTY.out.trans t0 (by simp)).keeps0 _)).at_ (by omega) k hkl
                injection hv with e1 e2 e3
                cases e1
                cases e3
                clear e2
                have hck := HT.out.2.1 _ (List.getElem_mem hkl)
                have hst : (xs.map entry).take (k + 1) = (xs.map entry).take k ++ [entry xs[k]] := by rw [List.take_succ_eq_append_getElem (by simpa using hkl)]; simp
                obtain ⟨c, hc⟩ : ∃ c, c = xs[k] := ⟨_, rfl⟩
                rw [← hc] at hR hck hst
                obtain ⟨rv, rfl, hsl⟩ := hR
                obtain ⟨Ar, cr, rfl, _⟩ := hsl.form
                have hz1 := size_tx c.id (.slice Ar c.chs.length cr)
                obtain ⟨X1, hX1⟩ : ∃ X1, X1 = wv.alloc (.cells #[.int .i64 c.id, .slice Ar c.chs.length cr] 45) := ⟨_, rfl⟩
                have b5 := Blk.new wv [.int .i64 c.id, .slice Ar c.chs.length cr] 45
                rw [show wv.alloc (.cells [.int .i64 c.id, .slice Ar c.chs.length cr].toArray 45) = X1 from hX1.symm] at b5
                obtain ⟨p5, hp5⟩ : ∃ q, q = wv.heap.size := ⟨_, rfl⟩
                rw [← hp5] at b5
                have tX : Turns [] wv X1 := by rw [hX1]; exact (Turns.refl _ _).alloc _
                have r5 := b5.all
                have RE := Lib.hid (CEntry_any c hck (.slice Ar c.chs.length cr) _ X1 (hsl.keep ChgR.lasts (tX.keeps0 _)))
                have HX1 := Lib.hid hX1
                have HP5 := Lib.hid hp5
                have HMX := Lib.hid (m0.on tX)
                have HST := Lib.hid hst
                clear m0 t0 hck hst hc hsl hcl hX1 hp5 tX b5 hb hkl hS
                go_upto_region 15 with (first
                  | (refine wpList_load_mid rfl 45 (.tmp 76) rfl b2 (off2 + k * 2) rfl _ _ rg Tryz.underlying45 rfl hz1 ?_)
                  | fail)
                rw [← HX1.out, ← HP5.out]
                go_wp2_with (first
                  | (refine wpList_load_mid rfl 45 (.tmp 15) rfl p5 0 rfl _ _ r5 Tryz.underlying45 rfl hz1 ?_)
                  | fail)
                refine RE.out.mono ?_
                rintro e x2 ⟨rfl, t2⟩
                have m2 := HMX.out.on t2
                have hkk : ((xs.map entry).take k).length = k := by rw [List.length_take, List.length_map]; have := HT.out.2.2.2.1; omega
                obtain ⟨v9, w9, hr9, m9⟩ := hmine_push m2 (by rw [hkk]; omega) (entry c) (entry_len _) 68
                rw [← HST.out] at m9
                obtain ⟨A9, c9, rfl, _⟩ := m9.len
                have hk1 : ((xs.map entry).take (k + 1)).length = k + 1 := by rw [List.length_take, List.length_map]; have := HT.out.2.2.2.1; omega
                rw [hk1] at m9 hr9
                have HM9 := Lib.hid m9
                have hl32 := entry_len c
                generalize entry c = h32 at hr9 hl32 ⊢
                clear m2 t2 m9 r5 rg hkk hk1
                go_wp2_with (first
                  | (refine wpList_build_hash1 rfl h32 hl32 (.tmp 80) rfl rfl ?_)
                  | (at_builtin; refine wpList_append_at rfl (.tmp 78) (.tmp 81) rfl hr9 rfl rfl ?_)
                  | fail)
                go_roundw
                case rel => exact ⟨k + 1, A9, c9, by omega, by go_num, rfl, HM9.out⟩
                case measure => (simp [intOf] <;> omega)
              · obtain rfl : nX = k := by omega
                rw [List.take_of_length_le (by rw [List.length_map]; have := HT.out.2.2.2.1; omega)] at m0
                obtain ⟨Z, hZ⟩ : ∃ q, q = wv.drew := ⟨_, rfl⟩
                have tZ : Turns [] wv Z := by rw [hZ]; exact (Turns.refl _ _).drew
                have HZZ := Lib.hid hZ
                have tYZ := t0.trans tZ (by simp)
                have t1Z := HTY.out.trans tYZ (by simp)
                have t4Z := (HM1.out.1.turns.trans HM1.out.2 (by simp)).trans tYZ (by simp)
                have hdZ := HT.out.2.2.2.2.2.2.2.2.2.keep (t1Z.keeps0 _)
                have haB : a < L.blks.length := by rw [HL.out.2.1]; exact HT.out.2.2.2.2.2.2.2.1
                obtain ⟨bB, offB, cB, hvB, _, _, rgB⟩ := blo_at hdZ.blks HL.out.1.blo a haB
                injection hvB with e1 e2 e3
                subst e1 e3
                clear e2
                have hsl : sn < t.chs.length := by have := HT.out.2.2.1; have := HSN.out; omega
                obtain ⟨bC, offC, cC, csC, hvC, _, _, _, rgC, hRC⟩ := (HT.out.2.2.2.2.2.1.keep ChgR.lasts (t1Z.keeps0 _)).at_ (by omega) sn hsl
                injection hvC with e1 e2 e3
                subst e1 e3
                clear e2
                have P8 := (H1.out.2.1.turns t1Z (by simp)).cell 0
                have F2 := (H1.out.1.turns t1Z (by simp)).cell 2
                have F7 := (H1.out.1.turns t1Z (by simp)).cell 7
                have F8 := (H1.out.1.turns t1Z (by simp)).cell 8
                have P4 := (H1.out.2.2.1.turns t1Z (by simp)).cell 0
                have T1 := (H9.out.1.turns t4Z (by simp)).cell 1
                simp only [fcs, List.getElem?_cons_zero, List.getElem?_cons_succ] at P8 F2 F7 F8 P4 T1
                rw [← HXS.out.2.2] at P4
                obtain ⟨bl, hbl⟩ : ∃ x, x = L.blks[a] := ⟨_, rfl⟩
                have hbk := HL.out.1.blo _ (List.getElem_mem haB)
                rw [← hbl] at rgB hbk
                have hba : L.blks[a]? = some bl := by rw [hbl]; exact List.getElem?_eq_getElem haB
                obtain ⟨c, hc⟩ : ∃ x, x = t.chs[sn] := ⟨_, rfl⟩
                have hck := HT.out.1.chs _ (List.getElem_mem hsl)
                rw [← hc] at hRC hck
                have hca : t.chs[sn]? = some c := by rw [hc]; exact List.getElem?_eq_getElem hsl
                obtain ⟨rv, rfl, hsv⟩ := hRC
                obtain ⟨Ar, cr, rfl, _⟩ := hsv.form'
                obtain ⟨bcs, hbcs⟩ : ∃ x, x = bl.cells := ⟨_, rfl⟩
                have hbl66 : bcs.length = 66 := by rw [hbcs]; exact Blo.cells_len hbk
                have hbr := built_rec ⟨t.id, sn, nC, c, [], b, [], bl⟩ hbk (.slice Ar c.row.length cr)
                obtain ⟨rcs, hrcs⟩ : ∃ x, x = recCells ⟨t.id, sn, nC, c, [], b, [], bl⟩ (.slice Ar c.row.length cr) (.slice none 0 0) (.slice none 0 0) := ⟨_, rfl⟩
                rw [← hrcs] at hbr
                dsimp only at hbr
                rw [← hbcs] at hbr rgB
                have HBR := Lib.hid hbr
                clear hbr
                have hrl : rcs.length = 75 := by rw [hrcs]; exact recCells_len hbk _ _ _
                have HRC := Lib.hid (And.intro hrcs (And.intro (show zz.length = rcs.length by rw [HZ.out.2, hrl]) (And.intro (size_rec rcs hrl) (show ∀ u ∈ rcs, u.oneCell' = true by rw [hrcs]; exact recCells_one _ rfl rfl rfl))))
                have RC := rgC
                have RB := rgB
                have hzc := size_chg c.table c.op (.slice Ar c.row.length cr)
                have hzb := size_blo bcs hbl66
                have hsi : (sn : Int) < (nC : Int) := by have := HSN.out; omega
                have hai2 : (a : Int) < ((L.blks.length : Nat) : Int) := by omega
                have HCC := Lib.hid (And.intro hba (And.intro hca (And.intro hck hsv)))
                have HM2 := Lib.hid (And.intro m0 tZ)
                have HTZ := Lib.hid (And.intro t1Z tYZ)
                have S0 : Turns [] Z Z := Turns.refl _ _
                clear hZ tZ tYZ t1Z t4Z hdZ haB hsl rgB rgC hbl hbk hba hc hck hca hsv hbcs hbl66 hrcs hrl m0 t0 hlt hk hai hb81
                go_upto_region 17 with fail
                refine rk0 (fun W => Turns [] Z W) (fun _ => True) 28 28 ?_
                rw [← HZZ.out]
                refine rkA 0 84 1 (v := ?_) ?_ (.mk' S0 trivial) ?_
                rotate_left
                · intro W hS; have c0 := cellL hS P4 (by simp); go_simp; all_goals with_reducible rfl
                try simp only [sI, sS, sZ]
                refine rkA 1 85 3 (v := ?_) ?_ (.mk' S0 trivial) ?_
                rotate_left
                · intro W hS; go_simp; all_goals with_reducible rfl
                try simp only [sI, sS, sZ]
                refine rkA 2 86 7 (v := ?_) ?_ (.mk' S0 trivial) ?_
                rotate_left
                · intro W hS; go_simp; all_goals with_reducible rfl
                try simp only [sI, sS, sZ]
                refine rkA 3 87 15 (v := ?_) ?_ (.mk' S0 trivial) ?_
                rotate_left
                · intro W hS; have c0 := cellL hS T1 (by simp); go_simp; all_goals with_reducible rfl
                try simp only [sI, sS, sZ]
                refine rkA 4 88 31 (v := ?_) ?_ (.mk' S0 trivial) ?_
                rotate_left
                · intro W hS; go_simp; all_goals with_reducible rfl
                try simp only [sI, sS, sZ]
                refine rkA 5 89 63 (v := ?_) ?_ (.mk' S0 trivial) ?_
                rotate_left
                · intro W hS; go_simp; all_goals with_reducible rfl
                try simp only [sI, sS, sZ]
                refine rkA 6 90 127 (v := ?_) ?_ (.mk' S0 trivial) ?_
                rotate_left
                · intro W hS; have c0 := cellL hS T1 (by simp); go_simp; all_goals with_reducible rfl
                try simp only [sI, sS, sZ]
                refine rkA 7 91 255 (v := ?_) ?_ (.mk' S0 trivial) ?_
                rotate_left
                · intro W hS; go_simp; all_goals with_reducible rfl
                try simp only [sI, sS, sZ]
                refine rkA 8 92 511 (v := ?_) ?_ (.mk' S0 trivial) ?_
                rotate_left
                · intro W hS; go_simp; all_goals with_reducible rfl
                try simp only [sI, sS, sZ]
                refine rkY 9 93 1023 rfl (yieldsIf_load_mid (by rfl) _ _ rfl bC (offC + sn * 3) (by rfl) [.string c.table, .int .i64 c.op, .slice Ar c.row.length cr] _ (fun W hS => rangeV hS RC) Tryz.underlying67 rfl hzc) (.mk' S0 trivial) ?_
                try simp only [sI, sS, sZ]
                refine rkA 10 94 2047 (v := ?_) ?_ (.mk' S0 trivial) ?_
                rotate_left
                · intro W hS; have c0 := cellL hS P8 (by simp); go_simp; all_goals with_reducible rfl
                try simp only [sI, sS, sZ]
                refine rkA 11 95 4095 (v := ?_) ?_ (.mk' S0 trivial) ?_
                rotate_left
                · intro W hS; go_simp; all_goals with_reducible rfl
                try simp only [sI, sS, sZ]
                refine rkA 12 96 8191 (v := ?_) ?_ (.mk' S0 trivial) ?_
                rotate_left
                · intro W hS; go_simp; all_goals with_reducible rfl
                try simp only [sI, sS, sZ]
                refine rkA 13 97 16383 (v := ?_) ?_ (.mk' S0 trivial) ?_
                rotate_left
                · intro W hS; have c0 := cellL hS F8 (by simp); go_simp; all_goals with_reducible rfl
                try simp only [sI, sS, sZ]
                refine rkA 14 98 32767 (v := ?_) ?_ (.mk' S0 trivial) ?_
                rotate_left
                · intro W hS; have c0 := cellL hS P8 (by simp); go_simp; all_goals with_reducible rfl
                try simp only [sI, sS, sZ]
                refine rkA 15 99 65535 (v := ?_) ?_ (.mk' S0 trivial) ?_
                rotate_left
                · intro W hS; go_simp; all_goals with_reducible rfl
                try simp only [sI, sS, sZ]
                refine rkA 16 100 131071 (v := ?_) ?_ (.mk' S0 trivial) ?_
                rotate_left
                · intro W hS; go_simp; all_goals with_reducible rfl
                try simp only [sI, sS, sZ]
                refine rkA 17 101 262143 (v := ?_) ?_ (.mk' S0 trivial) ?_
                rotate_left
                · intro W hS; go_simp; all_goals with_reducible rfl
                try simp only [sI, sS, sZ]
                refine rkA 18 102 524287 (v := ?_) ?_ (.mk' S0 trivial) ?_
                rotate_left
                · intro W hS; have c0 := cellL hS F2 (by simp); go_simp; all_goals with_reducible rfl
                try simp only [sI, sS, sZ]
                refine rkA 19 103 1048575 (v := ?_) ?_ (.mk' S0 trivial) ?_
                rotate_left
                · intro W hS; have c0 := cellL hS P8 (by simp); go_simp; all_goals with_reducible rfl
                try simp only [sI, sS, sZ]
                refine rkA 20 104 2097151 (v := ?_) ?_ (.mk' S0 trivial) ?_
                rotate_left
                · intro W hS; go_simp; all_goals with_reducible rfl
                try simp only [sI, sS, sZ]
                refine rkA 21 105 4194303 (v := ?_) ?_ (.mk' S0 trivial) ?_
                rotate_left
                · intro W hS; go_simp; all_goals with_reducible rfl
                try simp only [sI, sS, sZ]
                refine rkA 22 106 8388607 (v := ?_) ?_ (.mk' S0 trivial) ?_
                rotate_left
                · intro W hS; have c0 := cellL hS F7 (by simp); go_simp; all_goals with_reducible rfl
                try simp only [sI, sS, sZ]
                refine rkA 23 107 16777215 (v := ?_) ?_ (.mk' S0 trivial) ?_
                rotate_left
                · intro W hS; go_simp; all_goals with_reducible rfl
                try simp only [sI, sS, sZ]
                refine rkY 24 108 33554431 rfl (yieldsIf_load_mid (by rfl) _ _ rfl bB (offB + a * 66) (by rfl) bcs _ (fun W hS => rangeV hS RB) Tryz.underlying70 rfl hzb) (.mk' S0 trivial) ?_
                try simp only [sI, sS, sZ]
                refine rkY 25 109 67108863 rfl (yieldsIf_build (by rfl) 72 _ (by rfl) rcs.toArray (by have h := HBR.out; simpa [Act.eval] using h)) (.mk' S0 trivial) ?_
                try simp only [sI, sS, sZ]
                refine rk1 26 134217727 (fun K hK => ?_)
                refine wp_alloc_arr 72 (by rfl) zz.toArray hz81 ?_
                have b16 := Blk.new Z zz 72
                have D26 : Turns [] Z (Z.alloc (.cells zz.toArray 72)) := (Turns.refl _ _).alloc _
                obtain ⟨g, hg⟩ : ∃ g, g = Z.heap.size := ⟨_, rfl⟩
                rw [← hg] at b16 ⊢
                have HG := Lib.hid (show Z.heap.size ≤ g by omega)
                clear hg
                generalize Z.alloc (.cells zz.toArray 72) = X26 at b16 D26 ⊢
                refine hK _ _ (.mk' D26 trivial) ?_
                clear hK K
                try simp only [sI, sS, sZ]
                refine rk1 27 268435455 (fun K hK => ?_)
                refine wp_store_blk 72 _ _ (by rfl) g (by rfl) rcs zz 72 (by rfl) b16 HRC.out.2.1 HRC.out.2.2.1 HRC.out.2.2.2 (fun X27 hb27 ht27 => ?_)
                have D27 : Turns [] Z X27 := D26.trans ht27 (by intro x hx; simp at hx; exact .inr (by rw [hx]; exact HG.out))
                refine hK _ _ (.mk' D27 trivial) ?_
                clear hK K
                try simp only [sI, sS, sZ]
                refine rkZ ?_
                have H17 := Lib.hid (And.intro hb27 (And.intro D27 HG.out))
                clear P8 F2 F7 F8 P4 T1 RC RB hzc hzb hsi hai2 S0
                have k5 : X27.cell? ⟨g, 5, none⟩ = some (.slice Ar c.row.length cr) := by rw [H17.out.1.cell 5, HRC.out.1]; rfl
                have CV := Lib.hid (CloneVal_any (.slice Ar c.row.length cr) c.row.length (valCells c.row) (valCells_one _) X27 ((H17.out.2.1.slice HCC.out.2.2.2.sl (Nat.le_refl _) (by simp)).more H17.out.2.1.size) (by have := HCC.out.2.2.1.len; omega))
                go_wp2_with fail
                refine CV.out.mono ?_
                rintro e y6 ⟨rv', rfl, orv, t6⟩
                obtain ⟨A6, c6, rfl⟩ := own_formV orv
                have b16 := H17.out.1.turns t6 (by simp)
                have k5 := cellV t6 k5
                have z5 := b16.free 5
                obtain ⟨y7, hy7⟩ : ∃ x, x = y6.setCell ⟨g, 5, none⟩ (.slice A6 c.row.length c6) := ⟨_, rfl⟩
                have b17 : Blk y7 g (rcs.set 5 (.slice A6 c.row.length c6)) 72 := by rw [hy7]; exact b16.set 5 _
                have t7 : Turns [g] y6 y7 := by rw [hy7]; exact (Turns.refl _ _).setCell (.inl (by simp)) _
                have HZg := H17.out.2.2
                have tZ7 : Turns [] Z y7 := (H17.out.2.1.trans t6 (by simp)).trans t7 (by intro x hx; simp at hx; exact .inr (by omega))
                have hrl := HRW.out
                have hml : (xs.map entry).length = nX := by rw [List.length_map]; exact HT.out.2.2.2.1.symm
                have PR1 := Lib.hid (Proof_in (txRows t) nC sn (by rw [hrl]; exact HT.out.2.2.1.symm) (by omega) HSN.out Au cu y7.heap.size y7 ((HM1.out.1.on ((HM1.out.2.trans HTZ.out.2 (by simp)).trans tZ7 (by simp))).hs) (Nat.le_refl _))
                have HY7 := Lib.hid hy7
                have H7 := Lib.hid (And.intro b17 (And.intro t7 (And.intro tZ7 (And.intro orv (And.intro t6 hml)))))
                clear b16 b17 t7 tZ7 orv t6 hy7 HZg hrl hml CV
                go_upto_region 19 with fail
                rw [← HY7.out]
                clear k5 z5
                go_wp2_with fail
                refine PR1.out.mono ?_
                rintro e y8 ⟨A8, c8, rfl, m8⟩
                have b18 := H7.out.1.turns m8.turns (by simp)
                have k6 : y8.cell? ⟨g, 6, none⟩ = some (.slice none 0 0) := by rw [b18.cell 6, HRC.out.1]; rfl
                have z6 := b18.free 6
                obtain ⟨n8, hn8⟩ : ∃ n, n = (mproof (txRows t) sn).length := ⟨_, rfl⟩
                obtain ⟨y9, hy9⟩ : ∃ x, x = y8.setCell ⟨g, 6, none⟩ (.slice A8 n8 c8) := ⟨_, rfl⟩
                have b19 : Blk y9 g ((rcs.set 5 (.slice A6 c.row.length c6)).set 6 (.slice A8 n8 c8)) 72 := by rw [hy9]; exact b18.set 6 _
                have t9 : Turns [g] y8 y9 := by rw [hy9]; exact (Turns.refl _ _).setCell (.inl (by simp)) _
                have tZ9 : Turns [] Z y9 := (H7.out.2.2.1.trans m8.turns (by simp)).trans t9 (by intro x hx; simp at hx; exact .inr (by have := H17.out.2.2; omega))
                have t1n := HTZ.out.1.trans tZ9 (by simp)
                have P8 := (H1.out.2.1.turns t1n (by simp)).cell 0
                have F8 := (H1.out.1.turns t1n (by simp)).cell 8
                simp only [fcs, List.getElem?_cons_zero, List.getElem?_cons_succ] at P8 F8
                have PR2 := Lib.hid (Proof_in (xs.map entry) nX b H7.out.2.2.2.2.2 (by omega) HT.out.2.2.2.2.2.2.2.2.1 Av cv y9.heap.size y9 ((HM2.out.1.on (HM2.out.2.trans tZ9 (by simp))).hs) (Nat.le_refl _))
                have HY9 := Lib.hid (And.intro hy9 hn8)
                have H9b := Lib.hid (And.intro b19 (And.intro t9 (And.intro tZ9 m8)))
                rw [← hn8]
                clear b18 b19 t9 tZ9 m8 t1n hn8 hy9 PR1
                go_upto_region 20 with fail
                rw [← HY9.out.1]
                clear k6 z6
                go_wp2_with fail
                refine PR2.out.mono ?_
                rintro e y10 ⟨A10, c10, rfl, m10⟩
                have b20 := H9b.out.1.turns m10.turns (by simp)
                have k8 : y10.cell? ⟨g, 8, none⟩ = some (.slice none 0 0) := by rw [b20.cell 8, HRC.out.1]; rfl
                have z8 := b20.free 8
                obtain ⟨n10, hn10⟩ : ∃ n, n = (mproof (xs.map entry) b).length := ⟨_, rfl⟩
                obtain ⟨y11, hy11⟩ : ∃ x, x = y10.setCell ⟨g, 8, none⟩ (.slice A10 n10 c10) := ⟨_, rfl⟩
                obtain ⟨rf, hrf⟩ : ∃ x, x = ((rcs.set 5 (.slice A6 c.row.length c6)).set 6 (.slice A8 n8 c8)).set 8 (.slice A10 n10 c10) := ⟨_, rfl⟩
                have b21 : Blk y11 g rf 72 := by rw [hy11, hrf]; exact b20.set 8 _
                have t11 : Turns [g] y10 y11 := by rw [hy11]; exact (Turns.refl _ _).setCell (.inl (by simp)) _
                have hrf2 : rf = recCells (mkRec t xs bl b sn c) (.slice A6 c.row.length c6) (.slice A8 n8 c8) (.slice A10 n10 c10) := by rw [hrf, HRC.out.1]; unfold mkRec; rw [← HT.out.2.2.1]; rfl
                have hrfl : rf.length = rcs.length := by rw [hrf]; simp
                have tZ11 : Turns [] Z y11 := (H9b.out.2.2.1.trans m10.turns (by simp)).trans t11 (by intro x hx; simp at hx; exact .inr (by have := H17.out.2.2; omega))
                have HRF := Lib.hid (And.intro hrf2 (And.intro (show zz.length = rf.length by rw [hrfl]; exact HRC.out.2.1) (And.intro (show (Tryz.prog.info? 72).map (·.size) = some rf.length by rw [hrfl]; exact HRC.out.2.2.1) (show ∀ u ∈ rf, u.oneCell' = true by rw [hrf2]; exact recCells_one _ rfl rfl rfl))))
                have HB6 := Lib.hid (H1.out.2.2.2.1.turns (HTZ.out.1.trans tZ11 (by simp)) (by simp))
                have HB21 := Lib.hid b21
                have HT11 := Lib.hid (And.intro t11 (And.intro m10 (And.intro tZ11 hn10)))
                have HY11 := Lib.hid hy11
                rw [← hn10]
                clear b20 b21 t11 m10 tZ11 hn10 hy11 hrf hrf2 hrfl PR2 P8 F8
                go_upto_region 21 with fail
                rw [← HY11.out]
                clear k8 z8
                go_wp2_with (first
                  | (refine wpList_load_blk rfl 72 (.tmp 16) rfl g (by kernel_rfl) rf _ _ HB21.out Tryz.underlying72 rfl HRF.out.2.2.1 ?_)
                  | (refine wpList_store_blk rfl 72 (.tmp 6) (.tmp 133) rfl p6 (by kernel_rfl) rf zz 72 (by kernel_rfl) HB6.out HRF.out.2.1 HRF.out.2.2.1 HRF.out.2.2.2 (fun wF hbF htF hsF => ?_); have HQF := Lib.hid (And.intro hbF htF); clear hbF htF hsF)
                  | fail)
                refine bodyPost_ret (results_two rfl _ _ p6 _ _ _ (.int .i64 0) (by kernel_rfl) (by kernel_rfl) HQF.out.1 Tryz.underlying72 rfl (by rw [List.size_toArray]; exact HRF.out.2.2.1)) rfl ?_
                have m10 := HT11.out.2.1
                have m8 := H9b.out.2.2.2
                have T10 : Turns [g, p6] y10 wF := (HT11.out.1.mono (L' := [g, p6]) (by simp)).trans HQF.out.2 (fun x hx => .inl (by simp at hx; simp [hx]))
                have T8 : Turns [g, p6] y8 wF := ((H9b.out.2.1.mono (L' := [g, p6]) (by simp)).trans m10.turns (by simp)).trans T10 (fun x hx => .inl hx)
                have T6 : Turns [g, p6] y6 wF := ((H7.out.2.1.mono (L' := [g, p6]) (by simp)).trans m8.turns (by simp)).trans T8 (fun x hx => .inl hx)
                have hp6 := HB6.out.lt
                have hg1 := H17.out.1.lt
                have hp1 := H1.out.2.2.2.1.lt
                have hs1 := HTZ.out.1.size
                have hs2 := H17.out.2.1.size
                have hs3 := H7.out.2.2.2.2.1.size
                have hs4 := H7.out.2.1.size
                have hs5 := m8.turns.size
                have hs6 := H9b.out.2.1.size
                have orv := H7.out.2.2.2.1
                have o6 := own_vL orv T6 (by intro x hx e; have h := (orv.lt x e).1; simp at hx; omega)
                have o8 := own_vL m8.own T8 (by intro x hx e; have h := (m8.own.lt x e).1; simp at hx; omega)
                have o10 := own_vL m10.own T10 (by intro x hx e; have h := (m10.own.lt x e).1; simp at hx; omega)
                have t06 : Turns [] w0 y6 := ((H1.out.2.2.2.2.1.trans HTZ.out.1 (by simp)).trans H17.out.2.1 (by simp)).trans H7.out.2.2.2.2.1 (by simp)
                have hs0 := H1.out.2.2.2.2.1.size
                refine ⟨mkRec t xs bl b sn c, .slice A6 c.row.length c6, .slice A8 n8 c8, .slice A10 n10 c10, 0, by rw [HRF.out.1], ⟨⟨Sl.of_own o6, ⟨?_, m8.all⟩, ⟨?_, m10.all⟩⟩, fun v hv k e => ?_⟩, .inl ⟨rfl, a, b, sn, xs, t, bl, c, HXS.out.1, HXS.out.2.1, HCC.out.1, HCC.out.2.1, HXS.out.2.2, rfl, rfl⟩, t06.trans T6 (by intro x hx; simp at hx; have h1 := H17.out.2.2; have h2 := H1.out.2.2.2.2.2.2; exact .inr (by omega))⟩
                · have := Sl.of_own o8
                  rw [← HY9.out.2] at this
                  rw [show (mkRec t xs bl b sn c).rows = mproof (txRows t) sn from rfl, ← HY9.out.2]
                  exact this
                · have := Sl.of_own o10
                  rw [← HT11.out.2.2.2] at this
                  rw [show (mkRec t xs bl b sn c).ents = mproof (xs.map entry) b from rfl, ← HT11.out.2.2.2]
                  exact this
                · simp only [List.mem_cons, List.not_mem_nil, or_false] at hv
                  rcases hv with rfl | rfl | rfl
                  · have := (o6.lt k e).1; omega
                  · rw [HY9.out.2] at e; have := (o8.lt k e).1; omega
                  · rw [HT11.out.2.2.2] at e; have := (o10.lt k e).1; omega
end Go.Proofs.YtoahnhphfabajaaGreat
