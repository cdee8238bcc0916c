/- A transaction is added, walked. -/
import Derived.Test.YtoahnhphfabajaaGreatLdN
namespace Go.Proofs.YtoahnhphfabajaaGreat
open Go.RowKit
set_option linter.unusedVariables false
set_option maxRecDepth 10000
set_option linter.unusedSimpArgs false
set_option linter.unnecessarySimpa false

theorem addLed_ok {L : Led} (h : L.ok) {c : List Chg} (hc : c.length ≤ 1000 ∧ ∀ x ∈ c, x.ok) (h1 : L.next < 100000) (h2 : L.opn.length < 1000) (hr : L.blks.length < 100000 ∧ L.txs.length < 100000) : (addLed L c).ok := by
  unfold addLed
  split
  · exact closeL_ok (pushL_ok h hc h1 h2) hr
  · exact pushL_ok h hc h1 h2
theorem ClR.led {B M p : Nat} {w : World} {ov bv tv : Value} {L : Led} (h : ClR B M p w ov bv tv L) : LedR w (fun b => B ≤ b ∧ b ≠ p) ov bv tv L := by
  have hs : ∀ k, SX B M [bv, tv, PV p] k → B ≤ k ∧ k ≠ p := fun k hk => ⟨hk.1, fun e => hk.2.2 (PV p) (by simp) (by rw [e]; rfl)⟩
  exact ⟨h.opn.mono TxR.lasts (fun k _ hk => hs k hk), SlS.of_own h.blks (fun k hk => ⟨(h.blks.lt k hk).1, fun e => h.bp (by rw [← e]; exact hk)⟩), h.txs.deep TxsR.lasts (fun k _ hk => hs k hk) (fun k hk => ⟨(h.txs.lt k hk).1, fun e => h.tp (by rw [← e]; exact hk)⟩)⟩
/-- What stands behind the test: the ledger as it must be, the transaction kept. -/
def AddC (w1 : World) (B p11 p7 : Nat) (L : Led) (c : List Chg) (g7 : Nat) (w : World) : Prop :=
  ∃ ov bv tv x y z, Blk w p11 [.int .i64 (addLed L c).next, ov, bv, tv, x, y, z] 101 ∧ LedR w (fun b => B ≤ b ∧ b ≠ p11) ov bv tv (addLed L c) ∧
    Blk w p7 [.int .i64 L.next, .slice (some ⟨g7, 0, none⟩) c.length c.length] 45 ∧ Deep ChgR w (fun b => p11 < b) 3 (.slice (some ⟨g7, 0, none⟩) c.length c.length) c ∧ Turns [] w1 w

set_option maxRecDepth 100000 in
set_option maxHeartbeats 16000000 in
theorem Add_any (L : Led) (hL : L.ok) (hroom : L.next < 100000 ∧ L.opn.length < 1000 ∧ L.blks.length < 100000 ∧ L.txs.length < 100000) (c : List Chg) (hc : c.length ≤ 1000 ∧ ∀ x ∈ c, x.ok) (ov bv tv cv : Value) (S S' : Nat → Prop) (w0 : World) (hd : LedR w0 S ov bv tv L) (hcv : Deep ChgR w0 S' 3 cv c) :
    Calls Tryz.prog 12 #[.agg #[.int .i64 L.next, ov, bv, tv], cv] w0 fun e w' => ∃ ov' bv' tv' cv', e = .returned (.tuple #[.agg #[.int .i64 (addLed L c).next, ov', bv', tv'], .agg #[.int .i64 L.next, cv']]) ∧ LedR w' (fun b => w0.heap.size ≤ b) ov' bv' tv' (addLed L c) ∧ Deep ChgR w' (fun b => w0.heap.size ≤ b) 3 cv' c ∧ Turns [] w0 w' := by
  obtain ⟨Ao, co, rfl, _⟩ := hd.opn.form
  obtain ⟨Ab, cb, rfl, _⟩ := hd.blks.form'
  obtain ⟨At, ct, rfl, _⟩ := hd.txs.form
  obtain ⟨Ac, cc, rfl, _⟩ := hcv.form
  obtain ⟨p, hp⟩ : ∃ p, p = w0.heap.size := ⟨_, rfl⟩
  obtain ⟨w, hw⟩ : ∃ x, x = w0.alloc (.cells #[.int .i64 L.next, .slice Ao L.opn.length co, .slice Ab L.blks.length cb, .slice At L.txs.length ct] 29) := ⟨_, rfl⟩
  have bc := Blk.new w0 [.int .i64 L.next, .slice Ao L.opn.length co, .slice Ab L.blks.length cb, .slice At L.txs.length ct] 29
  have t0 := (Turns.refl [] w0).alloc (.cells #[.int .i64 L.next, .slice Ao L.opn.length co, .slice Ab L.blks.length cb, .slice At L.txs.length ct] 29)
  have hs0 : w.heap.size = w0.heap.size + 1 := by rw [hw]; simp
  rw [show w0.alloc (.cells [.int .i64 L.next, .slice Ao L.opn.length co, .slice Ab L.blks.length cb, .slice At L.txs.length ct].toArray 29) = w from hw.symm, ← hp] at bc
  rw [← hw] at t0
  obtain ⟨q, hq⟩ : ∃ p, p = w.heap.size := ⟨_, rfl⟩
  obtain ⟨w2, hw2⟩ : ∃ x, x = w.alloc (.cells #[.int .i64 0, .slice none 0 0, .slice none 0 0, .slice none 0 0] 29) := ⟨_, rfl⟩
  have bq := Blk.new w [.int .i64 0, .slice none 0 0, .slice none 0 0, .slice none 0 0] 29
  have t1 := (Turns.refl [] w).alloc (.cells #[.int .i64 0, .slice none 0 0, .slice none 0 0, .slice none 0 0] 29)
  have hs1 : w2.heap.size = w.heap.size + 1 := by rw [hw2]; simp
  rw [show w.alloc (.cells [.int .i64 0, .slice none 0 0, .slice none 0 0, .slice none 0 0].toArray 29) = w2 from hw2.symm, ← hq] at bq
  rw [← hw2] at t1
  obtain ⟨q5, hq5⟩ : ∃ p, p = w2.heap.size := ⟨_, rfl⟩
  obtain ⟨w1, hw1⟩ : ∃ x, x = w2.alloc (.cells #[.int .i64 0, .slice none 0 0] 45) := ⟨_, rfl⟩
  have bq5 := Blk.new w2 [.int .i64 0, .slice none 0 0] 45
  have t1b := (Turns.refl [] w2).alloc (.cells #[.int .i64 0, .slice none 0 0] 45)
  have hs2 : w1.heap.size = w2.heap.size + 1 := by rw [hw1]; simp
  rw [show w2.alloc (.cells [.int .i64 0, .slice none 0 0].toArray 45) = w1 from hw1.symm, ← hq5] at bq5
  rw [← hw1] at t1b
  have bp1 := (bc.turns t1 (by simp)).turns t1b (by simp)
  have r1 := bp1.all
  have hz1 := size_led (.int .i64 L.next) (.slice Ao L.opn.length co) (.slice Ab L.blks.length cb) (.slice At L.txs.length ct)
  have t01 := (t0.trans t1 (by simp)).trans t1b (by simp)
  have OW := Lib.hid (own_any L hL _ _ _ S w1 (hd.keep (t01.keeps0 S)))
  have HT0 := Lib.hid t01
  have HW := Lib.hid (And.intro hw (And.intro hw2 hw1))
  have HP := Lib.hid (And.intro hp (And.intro (show p + 1 = q by omega) (show p + 1 + 1 = q5 by omega)))
  have HQB := Lib.hid (And.intro (bq.turns t1b (by simp)) (And.intro bq5 (show w0.heap.size ≤ q ∧ q < w1.heap.size ∧ w0.heap.size ≤ q5 ∧ q5 < w1.heap.size ∧ q ≠ q5 by omega)))
  have HL := Lib.hid (And.intro hL (And.intro hroom hc))
  have HCV := Lib.hid (hcv.keep ChgR.lasts (t01.keeps0 S'))
  have HBP := Lib.hid bp1
  clear bc t0 hw hw2 hw1 hp hq hq5 hs0 hs1 hs2 hd bq bq5 t1 t1b bp1 t01 hcv hL hroom hc
  go_enter Tryz.func12, Tryz.ntmps12
  go_upto_region 1 with fail
  rw [← HW.out.1, ← HW.out.2.1, ← HW.out.2.2, ← HP.out.1, HP.out.2.2, HP.out.2.1]
  go_wp2_with (first
    | (refine wpList_load_mid rfl 29 (.tmp 2) rfl p 0 rfl _ _ r1 Tryz.underlying29 rfl hz1 ?_)
    | fail)
  refine OW.out.mono ?_
  rintro e x2 ⟨ov', bv', tv', rfl, OR, t2⟩
  obtain ⟨A2, c2, rfl⟩ := OR.opn.form
  obtain ⟨A3, c3, rfl⟩ := own_formV OR.blks
  obtain ⟨A4, c4, rfl⟩ := OR.txs.form
  obtain ⟨p11, hp11⟩ : ∃ x, x = x2.heap.size := ⟨_, rfl⟩
  obtain ⟨x3, hx3⟩ : ∃ x, x = x2.alloc (.cells #[.int .i64 L.next, .slice A2 L.opn.length c2, .slice A3 L.blks.length c3, .slice A4 L.txs.length c4, .int .u32 0, .int .i32 0, .int .u32 0] 101) := ⟨_, rfl⟩
  have b3 := Blk.new x2 [.int .i64 L.next, .slice A2 L.opn.length c2, .slice A3 L.blks.length c3, .slice A4 L.txs.length c4, .int .u32 0, .int .i32 0, .int .u32 0] 101
  rw [show x2.alloc (.cells [.int .i64 L.next, .slice A2 L.opn.length c2, .slice A3 L.blks.length c3, .slice A4 L.txs.length c4, .int .u32 0, .int .i32 0, .int .u32 0].toArray 101) = x3 from hx3.symm, ← hp11] at b3
  have t3 : Turns [] x2 x3 := by rw [hx3]; exact (Turns.refl _ _).alloc _
  have hs3 : x3.heap.size = p11 + 1 := by rw [hx3, hp11]; simp
  have t13 := t2.trans t3 (by simp)
  have c0 := (HBP.out.turns t13 (by simp)).cell 0
  simp only [List.getElem?_cons_zero, List.getElem?_cons_succ] at c0
  obtain ⟨T, hT⟩ : ∃ t : Txn, t = ⟨L.next, c⟩ := ⟨_, rfl⟩
  have hTok : T.ok := by
    rw [hT]
    have := HL.out.1.next
    exact ⟨⟨by show _ ≤ L.next; omega, by show L.next ≤ _; omega⟩, HL.out.2.2.1, HL.out.2.2.2⟩
  have OT := ownTx_any T hTok (.slice Ac c.length cc) S' x3 (by rw [hT]; exact HCV.out.keep ChgR.lasts (t13.keeps0 S'))
  rw [show T.id = L.next by rw [hT], show T.chs = c by rw [hT]] at OT
  have HOT := Lib.hid OT
  have HOWT := Lib.hid t2
  have HOR := Lib.hid (And.intro OR (And.intro b3 (And.intro t13 (And.intro hs3 (And.intro (fun v hv k hk => (OR.lts v hv k hk).2) t2.size)))))
  have HX3 := Lib.hid hx3
  have HP11 := Lib.hid hp11
  have HTT := Lib.hid hT
  clear OR b3 t13 t3 t2 hx3 hp11 hs3 hT hTok OT r1 OW
  go_upto_region 2 with fail
  rw [← HX3.out, ← HP11.out]
  go_wp2_with fail
  refine HOT.out.mono ?_
  rintro e x4 ⟨g7, rfl, D7, t4⟩
  obtain ⟨p7, hp7⟩ : ∃ x, x = x4.heap.size := ⟨_, rfl⟩
  obtain ⟨x5, hx5⟩ : ∃ x, x = x4.alloc (.cells #[.int .i64 L.next, .slice (some ⟨g7, 0, none⟩) c.length c.length] 45) := ⟨_, rfl⟩
  have b7 := Blk.new x4 [.int .i64 L.next, .slice (some ⟨g7, 0, none⟩) c.length c.length] 45
  rw [show x4.alloc (.cells [.int .i64 L.next, .slice (some ⟨g7, 0, none⟩) c.length c.length].toArray 45) = x5 from hx5.symm, ← hp7] at b7
  have t5 : Turns [] x4 x5 := by rw [hx5]; exact (Turns.refl _ _).alloc _
  have t35 := t4.trans t5 (by simp)
  have b5 := HOR.out.2.1.turns t35 (by simp)
  have k0 := b5.cell 0
  have z0 := b5.free 0
  simp only [List.getElem?_cons_zero, List.getElem?_cons_succ] at k0
  have hwn : IntKind.i64.wrap (L.next + 1) = L.next + 1 := IntWalk.i64_in _ (by have := HL.out.1.next; omega)
  have hs45 := t4.size
  have H5 := Lib.hid (And.intro D7 (And.intro b7 (And.intro b5 (And.intro t35 (And.intro t5 (show x3.heap.size ≤ p7 by omega))))))
  have HX5 := Lib.hid hx5
  have HP7 := Lib.hid hp7
  clear D7 b7 b5 t35 t5 t4 hx5 hp7 hs45 c0 HOT
  go_upto_region 3 with fail
  rw [← HX5.out, ← HP7.out]
  go_wp2_with fail
  obtain ⟨x6, hx6⟩ : ∃ x, x = x5.setCell ⟨p11, 0, none⟩ (.int .i64 (L.next + 1)) := ⟨_, rfl⟩
  rw [← hx6]
  have b6 : Blk x6 p11 [.int .i64 (L.next + 1), .slice A2 L.opn.length c2, .slice A3 L.blks.length c3, .slice A4 L.txs.length c4, .int .u32 0, .int .i32 0, .int .u32 0] 101 := by rw [hx6]; exact H5.out.2.2.1.set 0 _
  have t56 : Turns [p11] x5 x6 := by rw [hx6]; exact (Turns.refl _ _).setCell (.inl (by simp)) _
  obtain ⟨Y, hY⟩ : ∃ x, x = x6.drew := ⟨_, rfl⟩
  have tY : Turns [] x6 Y := by rw [hY]; exact (Turns.refl _ _).drew
  have t5Y := t56.trans tY (by simp)
  have bY := b6.turns tY (by simp)
  have hps := HOR.out.2.2.2.1
  have hpx := HP11.out
  have hlts := HOR.out.2.2.2.2.1
  have hx5s := H5.out.2.2.2.1.size
  have t23 : Turns [] x2 x3 := by rw [HX3.out]; exact (Turns.refl _ _).alloc _
  have t2Y : Turns [] x2 Y := (t23.trans H5.out.2.2.2.1 (by simp)).trans t5Y (by intro x hx; simp at hx; exact .inr (by omega))
  have ory := HOR.out.1.on t2Y
  have d7 : Deep ChgR Y (fun b => p11 < b) 3 (.slice (some ⟨g7, 0, none⟩) c.length c.length) c :=
    (((H5.out.1.mono ChgR.lasts (S' := fun b => p11 < b) (fun k _ hk => by omega)).keep ChgR.lasts (H5.out.2.2.2.2.1.keeps0 _)).keep ChgR.lasts (t5Y.keepsB _ (by intro x hx _ h; simp at hx; omega)))
  have b7 := H5.out.2.1.turns t5Y (by have := H5.out.2.2.2.2.2; simp; omega)
  have hos := ory.opn.mono TxR.lasts (S' := SX w1.heap.size Y.heap.size [.slice A2 L.opn.length c2, .slice A3 L.blks.length c3, .slice A4 L.txs.length c4, PV p11]) (fun k hk hk' => ⟨hk'.1, hk, fun v hv e => by
    simp only [List.mem_cons, List.not_mem_nil, or_false] at hv
    rcases hv with rfl | rfl | rfl | rfl
    · exact hk'.2.2 _ (by simp) e
    · exact hk'.2.2 _ (by simp) e
    · exact hk'.2.2 _ (by simp) e
    · simp [PV, Value.ownBlock] at e; have := hk'.2.1; omega⟩) (Nat.le_refl _)
  have hw12 := HOR.out.2.2.2.2.2
  have hxT : TxR Y (SX w1.heap.size Y.heap.size [.slice A2 L.opn.length c2, .slice A3 L.blks.length c3, .slice A4 L.txs.length c4, PV p11]) [.int .i64 L.next, .slice (some ⟨g7, 0, none⟩) c.length c.length] T := by
    rw [HTT.out]
    refine ⟨_, rfl, d7.mono ChgR.lasts (fun k hk hk' => ⟨by omega, hk, fun v hv e => ?_⟩)⟩
    simp only [List.mem_cons, List.not_mem_nil, or_false] at hv
    rcases hv with rfl | rfl | rfl | rfl
    · have := hlts _ (by simp) k e; omega
    · have := hlts _ (by simp) k e; omega
    · have := hlts _ (by simp) k e; omega
    · simp [PV, Value.ownBlock] at e; omega
  have hbY : w1.heap.size ≤ Y.heap.size := Nat.le_trans hw12 t2Y.size
  obtain ⟨A9, c9, X34, hr34, dp34, t34, l34⟩ := hos.push TxR.lasts TTx hxT rfl (by intro u hu; simp at hu; rcases hu with rfl | rfl <;> rfl) (by
    rintro cs y ⟨v, rfl, hd⟩ u hu
    obtain ⟨A, cc, rfl, _⟩ := hd.form
    simp at hu; rcases hu with rfl | rfl <;> rfl) hbY (by have := HL.out.2.1; omega) (fun j hj => SX_not (v := .slice A2 L.opn.length c2) (by simp) hj) 25 (by omega)
  have hKp : p11 ∉ (Value.slice A2 L.opn.length c2).ownBlock.toList := by intro hm; have := hlts (.slice A2 L.opn.length c2) (by simp) p11 (by simpa using hm); omega
  have hK7 : p7 ∉ (Value.slice A2 L.opn.length c2).ownBlock.toList := by intro hm; have := hlts (.slice A2 L.opn.length c2) (by simp) p7 (by simpa using hm); have := H5.out.2.2.2.2.2; omega
  have C1 := bY.cell 1
  simp only [List.getElem?_cons_zero, List.getElem?_cons_succ] at C1
  have R7 := b7.all
  have hz7 := size_tx L.next (.slice (some ⟨g7, 0, none⟩) c.length c.length)
  have HK := Lib.hid (And.intro hKp hK7)
  have HYY := Lib.hid hY
  have HX6 := Lib.hid hx6
  have HBY := Lib.hid (And.intro bY (And.intro b7 (And.intro d7 (And.intro ory t2Y))))
  have H34 := Lib.hid (And.intro dp34 (And.intro t34 l34))
  have S0 : Turns (Value.slice A2 L.opn.length c2).ownBlock.toList Y Y := Turns.refl _ _
  clear t23 hx6 b6 t56 hY tY t5Y bY hps hpx hlts hx5s t2Y ory d7 b7 hos hw12 hxT hbY dp34 t34 l34 hKp hK7 k0 z0
  go_upto_region 4 with fail
  refine rk0 (fun _ => True) (fun W => Turns (Value.slice A2 L.opn.length c2).ownBlock.toList Y W) 12 13 ?_
  rw [← HYY.out]
  refine rkA 0 26 1 (v := ?_) ?_ (.mk' trivial S0) ?_
  rotate_left
  · intro W hS; go_simp; all_goals with_reducible rfl
  try simp only [sI, sS, sZ]
  refine rkA 1 27 3 (v := ?_) ?_ (.mk' trivial S0) ?_
  rotate_left
  · intro W hS; go_simp; all_goals with_reducible rfl
  try simp only [sI, sS, sZ]
  refine rkA 2 28 7 (v := ?_) ?_ (.mk' trivial S0) ?_
  rotate_left
  · intro W hS; go_simp; all_goals with_reducible rfl
  try simp only [sI, sS, sZ]
  refine rkA 3 29 15 (v := ?_) ?_ (.mk' trivial S0) ?_
  rotate_left
  · intro W hS; go_simp; all_goals with_reducible rfl
  try simp only [sI, sS, sZ]
  refine rkA 4 30 31 (v := ?_) ?_ (.mk' trivial S0) ?_
  rotate_left
  · intro W hS; go_simp; all_goals with_reducible rfl
  try simp only [sI, sS, sZ]
  refine rkT 5 31 63 (v := ?_) ?_ (.mk' trivial S0) ?_
  rotate_left
  · rintro W ⟨-, hS⟩; have c0 := cellL hS C1 HK.out.1; go_simp; all_goals with_reducible rfl
  try simp only [sI, sS, sZ]
  refine rkW 6 32 127 rfl (yieldsIf_load_mid (by rfl) _ _ rfl p7 0 (by rfl) _ _ (fun W hS => rangeT hS.2 R7 HK.out.2) Tryz.underlying45 rfl hz7) (.mk' trivial S0) ?_
  try simp only [sI, sS, sZ]
  refine rk1 7 255 (fun K hK => ?_)
  go_simp
  refine hK _ _ (.mk' trivial ((Turns.refl _ _).alloc _)) ?_
  clear hK K
  try simp only [sI, sS, sZ]
  refine rk1 8 511 (fun K hK => ?_)
  refine wp_append_run (P := Tryz.prog) (w := Y.alloc (.cells #[.int .i64 L.next, .slice (some ⟨g7, 0, none⟩) c.length c.length] 45)) (.tmp 31) (.tmp 33) (by rfl) (vs := _) (vx := _) (by rfl) (by rfl) (R := fun v w' => Value.slice A9 (L.opn.length + 1) c9 = v ∧ X34 = w') ⟨_, _, hr34, rfl, rfl⟩ ?_
  rintro _ _ ⟨rfl, rfl⟩
  have b34 := HBY.out.1.turns H34.out.2.1 HK.out.1
  have k34 := b34.cell 1
  have z34 := b34.free 1
  simp only [List.getElem?_cons_zero, List.getElem?_cons_succ] at k34
  refine hK _ _ (.mk' trivial H34.out.2.1) ?_
  clear hK K
  try simp only [sI, sS, sZ]
  refine rkA 9 35 1023 (v := ?_) ?_ (.mk' trivial H34.out.2.1) ?_
  rotate_left
  · intro W hS; go_simp; all_goals with_reducible rfl
  try simp only [sI, sS, sZ]
  refine rkA 10 36 2047 (v := ?_) ?_ (.mk' trivial H34.out.2.1) ?_
  rotate_left
  · intro W hS; go_simp; all_goals with_reducible rfl
  try simp only [sI, sS, sZ]
  refine rkA 11 37 4095 (v := ?_) ?_ (.mk' trivial H34.out.2.1) ?_
  rotate_left
  · intro W hS; go_simp; all_goals with_reducible rfl
  try simp only [sI, sS, sZ]
  refine rk1 12 8191 (fun K hK => ?_)
  go_simp
  refine hK _ _ (.p trivial) ?_
  clear hK K
  try simp only [sI, sS, sZ]
  refine rkZ ?_
  obtain ⟨V, hV⟩ : ∃ x, x = X34.setCell ⟨p11, 1, none⟩ (.slice A9 (L.opn.length + 1) c9) := ⟨_, rfl⟩
  rw [← hV]
  have bV : Blk V p11 [.int .i64 (L.next + 1), .slice A9 (L.opn.length + 1) c9, .slice A3 L.blks.length c3, .slice A4 L.txs.length c4, .int .u32 0, .int .i32 0, .int .u32 0] 101 := by rw [hV]; exact b34.set 1 _
  have tV : Turns [p11] X34 V := by rw [hV]; exact (Turns.refl _ _).setCell (.inl (by simp)) _
  have tYV : Turns (p11 :: (Value.slice A2 L.opn.length c2).ownBlock.toList) Y V := (H34.out.2.1.mono (fun x hx => .inl (List.mem_cons_of_mem _ hx))).trans tV (fun x hx => .inl (by simp at hx; subst hx; exact List.mem_cons_self))
  have hlts := HOR.out.2.2.2.2.1
  have hps := HOR.out.2.2.2.1
  have hpx := HP11.out
  have hw12 := HOR.out.2.2.2.2.2
  have hbY := HBY.out
  have hlow : ∀ x ∈ p11 :: (Value.slice A2 L.opn.length c2).ownBlock.toList, x ≤ p11 := by
    intro x hx
    rcases List.mem_cons.1 hx with rfl | hx
    · exact Nat.le_refl _
    · have := hlts (.slice A2 L.opn.length c2) (by simp) x (by simpa using hx); omega
  have hhigh : ∀ x ∈ p11 :: (Value.slice A2 L.opn.length c2).ownBlock.toList, w1.heap.size ≤ x := by
    intro x hx
    rcases List.mem_cons.1 hx with rfl | hx
    · omega
    · exact (hbY.2.2.2.1.opn.lt x (by simpa using hx)).1
  have d7V := hbY.2.2.1.keep ChgR.lasts (tYV.keepsB _ (by intro x hx _ h; have := hlow x hx; omega))
  have h7p := H5.out.2.2.2.2.2
  have b7V := hbY.2.1.turns tYV (by intro hm; have := hlow p7 hm; omega)
  have t2V : Turns [] w1 V := (HOWT.out.trans hbY.2.2.2.2 (by simp)).trans tYV (fun x hx => .inr (hhigh x hx))
  have clv : ClR w1.heap.size X34.heap.size p11 V (.slice A9 (L.opn.length + 1) c9) (.slice A3 L.blks.length c3) (.slice A4 L.txs.length c4) (pushL L c) := by
    have hsub : ∀ k, SX w1.heap.size X34.heap.size [.slice A3 L.blks.length c3, .slice A4 L.txs.length c4, PV p11] k → k ≠ p11 := fun k hk e => hk.2.2 (PV p11) (by simp) (by rw [e]; rfl)
    have ho := H34.out.1 (SX w1.heap.size X34.heap.size [.slice A3 L.blks.length c3, .slice A4 L.txs.length c4, PV p11]) (fun k hk hk' => ⟨hk'.1, hk, fun v hv e => hk'.2.2 v (List.mem_cons_of_mem _ hv) e⟩) (fun k hk => by
      obtain ⟨h1, h2, h3⟩ := H34.out.2.2 k hk
      refine ⟨h2, h3, fun v hv e => ?_⟩
      have hYs := hbY.2.2.2.2.size
      simp only [List.mem_cons, List.not_mem_nil, or_false] at hv
      rcases hv with rfl | rfl | rfl
      · have h4 := hlts (.slice A3 L.blks.length c3) (by simp) k e
        rcases h1 with h1 | h1
        · exact hbY.2.2.2.1.ob k h1 e
        · omega
      · have h4 := hlts (.slice A4 L.txs.length c4) (by simp) k e
        rcases h1 with h1 | h1
        · exact hbY.2.2.2.1.ot k h1 e
        · omega
      · simp [PV, Value.ownBlock] at e
        rcases h1 with h1 | h1
        · have := hlts (.slice A2 L.opn.length c2) (by simp) k h1; omega
        · have := hbY.1.lt; omega)
    have hin : ∀ x ∈ p11 :: (Value.slice A2 L.opn.length c2).ownBlock.toList, ¬ SX w1.heap.size x2.heap.size [.slice A2 L.opn.length c2, .slice A3 L.blks.length c3, .slice A4 L.txs.length c4] x := by
      intro x hx h
      rcases List.mem_cons.1 hx with rfl | hx
      · have := h.2.1; omega
      · exact h.2.2 (.slice A2 L.opn.length c2) (by simp) (by simpa using hx)
    refine ⟨?_, ?_, ?_, hbY.2.2.2.1.bt, ?_, ?_⟩
    · have := ho.keep TxR.lasts (tV.keepsB _ (by intro x hx _ h; simp at hx; exact hsub x h hx))
      rw [HTT.out] at this
      exact this
    · exact own_vL hbY.2.2.2.1.blks tYV (by
        intro x hx e
        rcases List.mem_cons.1 hx with rfl | hx
        · have := hlts (.slice A3 L.blks.length c3) (by simp) _ e; omega
        · exact hbY.2.2.2.1.ob x (by simpa using hx) e)
    · refine (hbY.2.2.2.1.txs.keep TxsR.lasts tYV (fun x hx _ => hin x hx) (by
        intro x hx e
        rcases List.mem_cons.1 hx with rfl | hx
        · have := hlts (.slice A4 L.txs.length c4) (by simp) _ e; omega
        · exact hbY.2.2.2.1.ot x (by simpa using hx) e)).mono TxsR.lasts (fun k hk hk' => ⟨hk'.1, by have h1 := hk'.2.1; have h2 := hbY.2.2.2.2.size; have h3 := H34.out.2.1.size; omega, fun v hv e => ?_⟩) (Nat.le_refl _)
      simp only [List.mem_cons, List.not_mem_nil, or_false] at hv
      rcases hv with rfl | rfl | rfl
      · exact hk'.2.2 _ (by simp) e
      · exact hk'.2.2 _ (by simp) e
      · simp [PV, Value.ownBlock] at e; have := hk'.2.1; omega
    · intro e; have := hlts (.slice A3 L.blks.length c3) (by simp) p11 e; omega
    · intro e; have := hlts (.slice A4 L.txs.length c4) (by simp) p11 e; omega
  have k1 := bV.cell 1
  simp only [List.getElem?_cons_zero, List.getElem?_cons_succ] at k1
  have HV := Lib.hid (And.intro bV (And.intro clv (And.intro b7V (And.intro d7V (And.intro t2V (show w1.heap.size ≤ V.heap.size ∧ w1.heap.size ≤ p11 from ⟨t2V.size, by omega⟩))))))
  have hlen : L.opn.length < 1000 := HL.out.2.1.2.1
  clear hV bV tV tYV hlts hps hpx hw12 hbY hlow hhigh d7V h7p b7V t2V clv b34 k34 z34 hr34 C1 R7
  have HTok := Lib.hid (show (⟨L.next, c⟩ : Txn).ok from ⟨⟨by have := HL.out.1.next; show _ ≤ L.next; omega, by have := HL.out.1.next; show L.next ≤ _; omega⟩, HL.out.2.2.1, HL.out.2.2.2⟩)
  have hPK := pushL_ok HL.out.1 HL.out.2.2 HL.out.2.1.1 HL.out.2.1.2.1
  have HLA := Lib.hid (addLed_ok HL.out.1 HL.out.2.2 HL.out.2.1.1 HL.out.2.1.2.1 HL.out.2.1.2.2)
  have HPK := Lib.hid hPK
  have hp7 := H5.out.2.2.2.2.2
  have hps := HOR.out.2.2.2.1
  clear hPK
  go_upto_if 44 with fail
  go_cut [] (fun wx => AddC w1 w1.heap.size p11 p7 L c g7 wx)
  case first =>
    by_cases h4 : 4 ≤ L.opn.length + 1
    · have h4i : (4 : Int) ≤ (L.opn.length : Int) + 1 := by omega
      have hadd : addLed L c = closeL (pushL L c) := if_pos (by simpa [pushL] using h4)
      have HADD := Lib.hid hadd
      have OC := Lib.hid (once_close (pushL L c) HPK.out w1.heap.size X34.heap.size p11 _ _ _ V HV.out.1 HV.out.2.1 HV.out.2.2.2.2.2.1 HV.out.2.2.2.2.2.2)
      have hKlt : ∀ x ∈ p11 :: ((Value.slice A3 L.blks.length c3).ownBlock.toList ++ (Value.slice A4 L.txs.length c4).ownBlock.toList), w1.heap.size ≤ x ∧ x ≤ p11 := by
        intro x hx
        have hl := HOR.out.1.lts
        have hpx := HP11.out
        have h9 := HV.out.2.2.2.2.2.2
        rcases List.mem_cons.1 hx with rfl | hx
        · exact ⟨h9, Nat.le_refl _⟩
        · rcases List.mem_append.1 hx with hx | hx
          · have := hl (.slice A3 L.blks.length c3) (by simp) x (by simpa using hx); omega
          · have := hl (.slice A4 L.txs.length c4) (by simp) x (by simpa using hx); omega
      have HKL := Lib.hid hKlt
      clear hadd hKlt h4
      have hmf : ∀ (fn : Fn) (first cap : Array Value) (w : World), (Instr.makeFunc fn first cap).run Tryz.prog w = .ok (.func fn first cap) w := fun _ _ _ _ => rfl
      go_wp2_with fail
      refine OC.out.mono ?_
      rintro e X50 ⟨rfl, bv', tv', b50, l50, t50⟩
      have HFX := Lib.hid (show AddC w1 w1.heap.size p11 p7 L c g7 X50 by
        refine ⟨_, _, _, _, _, _, by rw [HADD.out]; exact b50, by rw [HADD.out]; exact l50, HV.out.2.2.1.turns t50 (fun hm => by have := (HKL.out p7 hm).2; omega), HV.out.2.2.2.1.keep ChgR.lasts (t50.keepsB _ (fun x hx _ h => by have := (HKL.out x hx).2; omega)), HV.out.2.2.2.2.1.trans t50 (fun x hx => .inr (HKL.out x hx).1)⟩)
      clear b50 l50 t50
      go_wp2_with fail
      go_meet
      exact HFX.out
    · have h4i : ¬ (4 : Int) ≤ (L.opn.length : Int) + 1 := by omega
      have hadd : addLed L c = pushL L c := if_neg (by simpa [pushL] using h4)
      have HFX := Lib.hid (show AddC w1 w1.heap.size p11 p7 L c g7 V from ⟨_, _, _, _, _, _, by rw [hadd]; exact HV.out.1, by rw [hadd]; exact HV.out.2.1.led, HV.out.2.2.1, HV.out.2.2.2.1, HV.out.2.2.2.2.1⟩)
      clear hadd h4
      go_wp2_with fail
      go_meet
      exact HFX.out
  case rest =>
    obtain ⟨ov3, bv3, tv3, x, y, z, b11, l11, b7, d7, t17⟩ := hcut
    obtain ⟨A20, c20, rfl, _⟩ := l11.opn.form
    obtain ⟨A21, c21, rfl, _⟩ := l11.blks.form'
    obtain ⟨A22, c22, rfl, _⟩ := l11.txs.form
    obtain ⟨Z, hZ⟩ : ∃ q, q = wc.drew := ⟨_, rfl⟩
    have tZ : Turns [] wc Z := by rw [hZ]; exact (Turns.refl _ _).drew
    have HZZ := Lib.hid hZ
    have b11z := b11.turns tZ (by simp)
    have b7z := b7.turns tZ (by simp)
    have R11 := b11z.range 0 4
    simp only [List.drop_zero, List.take_succ_cons, List.take_zero] at R11
    have R7 := b7z.all
    have hz11 := size_led (.int .i64 (addLed L c).next) (.slice A20 (addLed L c).opn.length c20) (.slice A21 (addLed L c).blks.length c21) (.slice A22 (addLed L c).txs.length c22)
    have hz7 := size_tx L.next (.slice (some ⟨g7, 0, none⟩) c.length c.length)
    have t1Z := t17.trans tZ (by simp)
    have HZ := Lib.hid (And.intro (l11.keep (tZ.keeps0 _)) (And.intro (d7.keep ChgR.lasts (tZ.keeps0 _)) (And.intro t1Z (And.intro (HQB.out.1.turns t1Z (by simp)) (And.intro (HQB.out.2.1.turns t1Z (by simp)) trivial)))))
    have S0 : Turns [q] Z Z := Turns.refl _ _
    have hqq := HQB.out.2.2
    have h11 := HV.out.2.2.2.2.2.2
    clear b11 l11 b7 d7 t17 hZ tZ b11z b7z t1Z k1
    go_upto_region 7 with fail
    refine rk0 (fun _ => True) (fun W => Turns [q] Z W) 8 9 ?_
    rw [← HZZ.out]
    refine rkA 0 51 1 (v := ?_) ?_ (.mk' trivial S0) ?_
    rotate_left
    · intro W hS; go_simp; all_goals with_reducible rfl
    try simp only [sI, sS, sZ]
    refine rkA 1 52 3 (v := ?_) ?_ (.mk' trivial S0) ?_
    rotate_left
    · intro W hS; go_simp; all_goals with_reducible rfl
    try simp only [sI, sS, sZ]
    refine rkA 2 53 7 (v := ?_) ?_ (.mk' trivial S0) ?_
    rotate_left
    · intro W hS; go_simp; all_goals with_reducible rfl
    try simp only [sI, sS, sZ]
    refine rkW 3 54 15 rfl (yieldsIf_load_mid (by rfl) _ _ rfl p11 0 (by rfl) _ _ (fun W hS => rangeT hS.2 R11 (by simp; omega)) Tryz.underlying29 rfl hz11) (.mk' trivial S0) ?_
    try simp only [sI, sS, sZ]
    refine rkW 5 56 47 rfl (yieldsIf_load_mid (by rfl) _ _ rfl p7 0 (by rfl) _ _ (fun W hS => rangeT hS.2 R7 (by simp; omega)) Tryz.underlying45 rfl hz7) (.mk' trivial S0) ?_
    try simp only [sI, sS, sZ]
    refine rk1 4 63 (fun K hK => ?_)
    go_simp
    refine (own_any (addLed L c) HLA.out _ _ _ _ Z HZ.out.1).mono ?_
    rintro e X55 ⟨ov6, bv6, tv6, rfl, OR6, D55⟩
    obtain ⟨A7, c7, rfl⟩ := OR6.opn.form
    obtain ⟨A8, c8, rfl⟩ := own_formV OR6.blks
    obtain ⟨A10, c10, rfl⟩ := OR6.txs.form
    refine hK _ _ (.mk' trivial (D55.mono (by simp))) ?_
    clear hK K
    try simp only [sI, sS, sZ]
    refine rk1 6 127 (fun K hK => ?_)
    have OT8 := ownTx_any T (HTT.out ▸ HTok.out) (.slice (some ⟨g7, 0, none⟩) c.length c.length) (fun b => p11 < b) X55 (by rw [HTT.out]; exact HZ.out.2.1.keep ChgR.lasts (D55.keeps0 _))
    rw [show T.id = L.next by rw [HTT.out], show T.chs = c by rw [HTT.out]] at OT8
    go_simp
    refine OT8.mono ?_
    rintro e X57 ⟨g8, rfl, D8, D57⟩
    have hz4 := size_led (.int .i64 (addLed L c).next) (.slice A7 (addLed L c).opn.length c7) (.slice A8 (addLed L c).blks.length c8) (.slice A10 (addLed L c).txs.length c10)
    have hz5 := size_tx L.next (.slice (some ⟨g8, 0, none⟩) c.length c.length)
    have DD := D55.trans D57 (by simp)
    refine hK _ _ (.mk' trivial (DD.mono (by simp))) ?_
    clear hK K
    try simp only [sI, sS, sZ]
    refine rk1 7 255 (fun K hK => ?_)
    refine wp_store_blk 29 _ _ (by rfl) q (by rfl) [.int .i64 (addLed L c).next, .slice A7 (addLed L c).opn.length c7, .slice A8 (addLed L c).blks.length c8, .slice A10 (addLed L c).txs.length c10] [.int .i64 0, .slice none 0 0, .slice none 0 0, .slice none 0 0] 29 (by rfl) (HZ.out.2.2.2.1.turns DD (by simp)) rfl hz4 (by intro u hu; simp at hu; rcases hu with rfl | rfl | rfl | rfl <;> rfl) (fun X60 hb60 ht60 => ?_)
    refine hK _ _ (.mk' trivial ((DD.mono (by simp)).trans ht60 (fun x hx => .inl hx))) ?_
    clear hK K
    try simp only [sI, sS, sZ]
    refine rk1 8 511 (fun K hK => ?_)
    refine wp_store_blk 45 _ _ (by rfl) q5 (by rfl) [.int .i64 L.next, .slice (some ⟨g8, 0, none⟩) c.length c.length] [.int .i64 0, .slice none 0 0] 45 (by rfl) ((HZ.out.2.2.2.2.1.turns DD (by simp)).turns ht60 (by simp; omega)) rfl hz5 (by intro u hu; simp at hu; rcases hu with rfl | rfl <;> rfl) (fun X61 hb61 ht61 => ?_)
    have HEND := Lib.hid (And.intro OR6 (And.intro D8 (And.intro D55 (And.intro D57 (And.intro ht60 (And.intro ht61 (And.intro hb60 hb61)))))))
    refine hK _ _ (.p trivial) ?_
    clear hK K
    try simp only [sI, sS, sZ]
    refine rkZ ?_
    go_wp2_with fail
    refine bodyPost_ret (results_cells2 rfl _ _ q q5 _ _ _ _ _ _ (by kernel_rfl) (by kernel_rfl) (HEND.out.2.2.2.2.2.2.1.turns HEND.out.2.2.2.2.2.1 (by simp; omega)) HEND.out.2.2.2.2.2.2.2 Tryz.underlying29 rfl (by rw [List.size_toArray]; exact hz4) Tryz.underlying45 rfl (by rw [List.size_toArray]; exact hz5)) rfl ?_
    obtain ⟨OR6, D8, D55, D57, ht60, ht61, _, _⟩ := HEND.out
    have hZs := HZ.out.2.2.1.size
    have hs55 := D55.size
    have l9 := ((OR6.on D57).low ht60 (by intro x hx; simp at hx; omega)).low ht61 (by intro x hx; simp at hx; omega)
    have d9 := (D8.keep ChgR.lasts (ht60.keepsB _ (by intro x hx _ h; simp at hx; omega))).keep ChgR.lasts (ht61.keepsB _ (by intro x hx _ h; simp at hx; omega))
    have tall := ((HT0.out.trans HZ.out.2.2.1 (by simp)).trans (D55.trans D57 (by simp)) (by simp)).trans ht60 (by intro x hx; simp at hx; exact .inr (by omega))
    exact ⟨_, _, _, _, rfl, l9.led.mono (fun k _ hk => by have := HT0.out.size; omega), d9.mono ChgR.lasts (fun k _ hk => by have := HT0.out.size; omega), tall.trans ht61 (by intro x hx; simp at hx; exact .inr (by omega))⟩
end Go.Proofs.YtoahnhphfabajaaGreat
