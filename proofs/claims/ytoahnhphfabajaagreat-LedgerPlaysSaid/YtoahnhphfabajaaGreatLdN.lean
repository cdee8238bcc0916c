/- A transaction is added; a block is closed: walked. -/
import Derived.Test.YtoahnhphfabajaaGreatLdM
namespace Go.Proofs.YtoahnhphfabajaaGreat
open Go.RowKit
set_option linter.unusedVariables false
set_option maxRecDepth 10000
set_option linter.unusedSimpArgs false
set_option linter.unnecessarySimpa false

/-- What the closing leaves. -/
def RClo (B p : Nat) (L : Led) (w0 w' : World) (K : List Nat) : Prop := ∃ bv' tv', Blk w' p [.int .i64 L.next, .slice none 0 0, bv', tv', .int .u32 0, .int .i32 1, .int .u32 0] 101 ∧ LedR w' (fun b => B ≤ b ∧ b ≠ p) (.slice none 0 0) bv' tv' (closeL L) ∧ Turns K w0 w'
/-- A closer closes, once. -/
theorem once_close (L : Led) (hL : L.ok) (B M p : Nat) (ov bv tv : Value) (w : World) (hp : Blk w p [.int .i64 L.next, ov, bv, tv, .int .u32 0, .int .i32 0, .int .u32 0] 101) (hc : ClR B M p w ov bv tv L) (hB : B ≤ w.heap.size) (hBp : B ≤ p) :
    Calls Tryz.prog 32 #[.pointer (some ⟨p, 4, none⟩), .func (.func 33) #[.pointer (some ⟨p, 0, none⟩)] #[]] w fun e w' => e = .returned (.tuple #[]) ∧
      ∃ bv' tv', Blk w' p [.int .i64 L.next, .slice none 0 0, bv', tv', .int .u32 1, .int .i32 0, .int .u32 0] 101 ∧ LedR w' (fun b => B ≤ b ∧ b ≠ p) (.slice none 0 0) bv' tv' (closeL L) ∧ Turns (p :: (bv.ownBlock.toList ++ tv.ownBlock.toList)) w w' := by
  have t4 : Turns [p] w (w.setCell ⟨p, 5, none⟩ (.int .i32 1)) := (Turns.refl _ w).setCell (.inl (by simp)) _
  have b4 : Blk (w.setCell ⟨p, 5, none⟩ (.int .i32 1)) p [.int .i64 L.next, ov, bv, tv, .int .u32 0, .int .i32 1, .int .u32 0] 101 := hp.set 5 (.int .i32 1)
  have hnx : ∀ x ∈ [p], x < w.heap.size → ¬ SX B M [bv, tv, PV p] x := by intro x hx _; simp at hx; subst hx; exact SX_not (v := PV x) (by simp) rfl
  have hc4 : ClR B M p (w.setCell ⟨p, 5, none⟩ (.int .i32 1)) ov bv tv L :=
    ⟨hc.opn.keep TxR.lasts (t4.keepsB _ hnx), own_vL hc.blks t4 (by intro x hx e; simp at hx; subst hx; exact hc.bp e), hc.txs.keep TxsR.lasts t4 hnx (by intro x hx e; simp at hx; subst hx; exact hc.tp e), hc.bt, hc.bp, hc.tp⟩
  have CL := close_any L hL B M p (.int .u32 0) (.int .i32 1) (.int .u32 0) ov bv tv _ b4 hc4 (Nat.le_trans hB t4.size) hBp
  have hF : Calls Tryz.prog 33 (#[.pointer (some ⟨p, 0, none⟩)] ++ #[]) (w.setCell ⟨p, 5, none⟩ (.int .i32 1)) fun e w' => e = .returned (.tuple #[]) ∧ RClo B p L (w.setCell ⟨p, 5, none⟩ (.int .i32 1)) w' (p :: (bv.ownBlock.toList ++ tv.ownBlock.toList)) ∧ Once.Held p 4 w' :=
    CL.mono fun e w' ⟨he, bv', tv', hb, hl, ht⟩ => ⟨he, ⟨bv', tv', hb, hl, ht⟩, ⟨⟨_, hb.cell 4⟩, hb.free 4, hb.cell 5, hb.free 5⟩⟩
  refine (Once.do_first p 4 33 #[.pointer (some ⟨p, 0, none⟩)] #[] _ w (fun W => by rfl) (hp.cell 4) (hp.cell 5) (hp.free 4) (hp.free 5) hF).mono ?_
  rintro e w' ⟨rfl, w2, ⟨bv', tv', hb, hl, ht⟩, rfl⟩
  have tt : Turns [p] w2 ((w2.drew.setCell ⟨p, 4, none⟩ (.int .u32 1)).setCell ⟨p, 5, none⟩ (.int .i32 0)) := (((Turns.refl _ w2).drew).setCell (.inl (by simp)) _).setCell (.inl (by simp)) _
  refine ⟨rfl, bv', tv', (hb.drew.set 4 (.int .u32 1)).set 5 (.int .i32 0), hl.keep (tt.keepsB _ (by intro x hx _ h; simp at hx; exact h.2 hx)), ?_⟩
  exact ((t4.mono (fun x hx => .inl (by simp at hx; subst hx; exact List.mem_cons_self))).trans ht (fun x hx => .inl hx)).trans tt (fun x hx => .inl (by simp at hx; subst hx; exact List.mem_cons_self))
/-- A ledger's own rows, as a closer takes them. -/
theorem OwnR.clo {B M p : Nat} {w : World} {ov bv tv : Value} {L : Led} (h : OwnR B M [] w ov bv tv L) (hp : M ≤ p) (hM : M ≤ w.heap.size) (hlt : ∀ v ∈ [ov, bv, tv], ∀ k, v.ownBlock = some k → k < M) : ClR B M p w ov bv tv L := by
  have hsub : ∀ k, k < w.heap.size → SX B M [ov, bv, tv] k → SX B M [bv, tv, PV p] k := fun k _ hk => ⟨hk.1, hk.2.1, fun v hv e => by
    simp only [List.mem_cons, List.not_mem_nil, or_false] at hv
    rcases hv with rfl | rfl | rfl
    · exact hk.2.2 _ (by simp) e
    · exact hk.2.2 _ (by simp) e
    · simp [PV, Value.ownBlock] at e; have := hk.2.1; omega⟩
  exact ⟨h.opn.deep TxR.lasts hsub (fun k hk => ⟨(h.opn.lt k hk).1, hlt ov (by simp) k hk, fun v hv e => by
    simp only [List.mem_cons, List.not_mem_nil, or_false] at hv
    rcases hv with rfl | rfl | rfl
    · exact h.ob k hk e
    · exact h.ot k hk e
    · simp [PV, Value.ownBlock] at e; have := hlt ov (by simp) k hk; omega⟩), h.blks, h.txs.mono TxsR.lasts hsub (Nat.le_refl _), h.bt, fun e => by have := hlt bv (by simp) p e; omega, fun e => by have := hlt tv (by simp) p e; omega⟩
theorem OwnR.lts {B M : Nat} {vs : List Value} {w : World} {ov bv tv : Value} {L : Led} (h : OwnR B M vs w ov bv tv L) : ∀ v ∈ [ov, bv, tv], ∀ k, v.ownBlock = some k → B ≤ k ∧ k < w.heap.size := by
  intro v hv k hk
  simp only [List.mem_cons, List.not_mem_nil, or_false] at hv
  rcases hv with rfl | rfl | rfl
  · exact h.opn.lt k hk
  · exact h.blks.lt k hk
  · exact h.txs.lt k hk
theorem OwnR.on {B M : Nat} {vs : List Value} {w w' : World} {ov bv tv : Value} {L : Led} (h : OwnR B M vs w ov bv tv L) (t : Turns [] w w') : OwnR B M vs w' ov bv tv L := h.low t (by simp)

set_option maxRecDepth 100000 in
set_option maxHeartbeats 8000000 in
theorem Close_any (L : Led) (hL : L.ok) (hroom : L.blks.length < 100000 ∧ L.txs.length < 100000) (hne : 0 < L.opn.length) (ov bv tv : Value) (S : Nat → Prop) (w0 : World) (hd : LedR w0 S ov bv tv L) :
    Calls Tryz.prog 10 #[.agg #[.int .i64 L.next, ov, bv, tv]] w0 fun e w' => ∃ ov' bv' tv', e = .returned (.tuple #[.agg #[.int .i64 L.next, ov', bv', tv'], .int .i64 0]) ∧ LedR w' (fun b => w0.heap.size ≤ b) ov' bv' tv' (closeL L) ∧ Turns [] w0 w' := by
  obtain ⟨Ao, co, rfl, _⟩ := hd.opn.form
  obtain ⟨Ab, cb, rfl, _⟩ := hd.blks.form'
  obtain ⟨At, ct, rfl, _⟩ := hd.txs.form
  obtain ⟨p, hp⟩ : ∃ p, p = w0.heap.size := ⟨_, rfl⟩
  obtain ⟨w, hw⟩ : ∃ x, x = w0.alloc (.cells #[.int .i64 L.next, .slice Ao L.opn.length co, .slice Ab L.blks.length cb, .slice At L.txs.length ct] 29) := ⟨_, rfl⟩
  have bc := Blk.new w0 [.int .i64 L.next, .slice Ao L.opn.length co, .slice Ab L.blks.length cb, .slice At L.txs.length ct] 29
  have t0 := (Turns.refl [] w0).alloc (.cells #[.int .i64 L.next, .slice Ao L.opn.length co, .slice Ab L.blks.length cb, .slice At L.txs.length ct] 29)
  have hs0 : w.heap.size = w0.heap.size + 1 := by rw [hw]; simp
  rw [show w0.alloc (.cells [.int .i64 L.next, .slice Ao L.opn.length co, .slice Ab L.blks.length cb, .slice At L.txs.length ct].toArray 29) = w from hw.symm, ← hp] at bc
  rw [← hw] at t0
  obtain ⟨q, hq⟩ : ∃ p, p = w.heap.size := ⟨_, rfl⟩
  obtain ⟨w1, hw1⟩ : ∃ x, x = w.alloc (.cells #[.int .i64 0, .slice none 0 0, .slice none 0 0, .slice none 0 0] 29) := ⟨_, rfl⟩
  have bq := Blk.new w [.int .i64 0, .slice none 0 0, .slice none 0 0, .slice none 0 0] 29
  have t1 := (Turns.refl [] w).alloc (.cells #[.int .i64 0, .slice none 0 0, .slice none 0 0, .slice none 0 0] 29)
  have hs1 : w1.heap.size = w.heap.size + 1 := by rw [hw1]; simp
  rw [show w.alloc (.cells [.int .i64 0, .slice none 0 0, .slice none 0 0, .slice none 0 0].toArray 29) = w1 from hw1.symm, ← hq] at bq
  rw [← hw1] at t1
  have bp1 := bc.turns t1 (by simp)
  have c1 := bp1.cell 1
  simp only [List.getElem?_cons_zero, List.getElem?_cons_succ] at c1
  have r1 := bp1.all
  have hz1 := size_led (.int .i64 L.next) (.slice Ao L.opn.length co) (.slice Ab L.blks.length cb) (.slice At L.txs.length ct)
  have t01 := t0.trans t1 (by simp)
  have OW := Lib.hid (own_any L hL _ _ _ S w1 (hd.keep (t01.keeps0 S)))
  have HT0 := Lib.hid t01
  have HW := Lib.hid (And.intro hw hw1)
  have HP := Lib.hid (And.intro hp (show p + 1 = q by omega))
  have HQB := Lib.hid (And.intro bq (show w0.heap.size ≤ q ∧ q < w1.heap.size by omega))
  have HL := Lib.hid hL
  have HN := Lib.hid hne
  clear bc t0 hw hw1 hp hq hs0 hs1 hd bq t1 bp1 t01
  have hni : ((L.opn.length : Int) == 0) = false := beq_eq_false_iff_ne.2 (by omega)
  go_enter Tryz.func10, Tryz.ntmps10
  go_upto_region 1 with fail
  rw [← HW.out.1, ← HW.out.2, ← HP.out.1, HP.out.2]
  go_wp2_with (first
    | (refine wpList_load_mid rfl 29 (.tmp 1) rfl p 0 rfl _ _ r1 Tryz.underlying29 rfl hz1 ?_)
    | fail)
  refine OW.out.mono ?_
  rintro e x2 ⟨ov', bv', tv', rfl, OR, t2⟩
  obtain ⟨A2, c2, rfl⟩ := OR.opn.form
  obtain ⟨A3, c3, rfl⟩ := own_formV OR.blks
  obtain ⟨A4, c4, rfl⟩ := OR.txs.form
  obtain ⟨p11, hp11⟩ : ∃ x, x = x2.heap.size := ⟨_, rfl⟩
  obtain ⟨x3, hx3⟩ : ∃ x, x = x2.alloc (.cells #[.int .i64 L.next, .slice A2 L.opn.length c2, .slice A3 L.blks.length c3, .slice A4 L.txs.length c4, .int .u32 0, .int .i32 0, .int .u32 0] 101) := ⟨_, rfl⟩
  have b3 := Blk.new x2 [.int .i64 L.next, .slice A2 L.opn.length c2, .slice A3 L.blks.length c3, .slice A4 L.txs.length c4, .int .u32 0, .int .i32 0, .int .u32 0] 101
  rw [show x2.alloc (.cells [.int .i64 L.next, .slice A2 L.opn.length c2, .slice A3 L.blks.length c3, .slice A4 L.txs.length c4, .int .u32 0, .int .i32 0, .int .u32 0].toArray 101) = x3 from hx3.symm, ← hp11] at b3
  have t3 : Turns [] x2 x3 := by rw [hx3]; exact (Turns.refl _ _).alloc _
  have hlt := fun v hv k hk => (OR.lts v hv k hk).2
  have hclo := ((OR.on t3).clo (p := p11) (by omega) t3.size hlt)
  have hsw := t2.size
  have OC := Lib.hid (once_close L HL.out w1.heap.size x2.heap.size p11 _ _ _ x3 b3 hclo (Nat.le_trans hsw t3.size) (by omega))
  have HK := Lib.hid (fun x (hx : x ∈ p11 :: ((Value.slice A3 L.blks.length c3).ownBlock.toList ++ (Value.slice A4 L.txs.length c4).ownBlock.toList)) => show w1.heap.size ≤ x by
    rcases List.mem_cons.1 hx with rfl | hx
    · omega
    · rcases List.mem_append.1 hx with hx | hx
      · exact (OR.lts (.slice A3 L.blks.length c3) (by simp) x (by simpa using hx)).1
      · exact (OR.lts (.slice A4 L.txs.length c4) (by simp) x (by simpa using hx)).1)
  have HX3 := Lib.hid hx3
  have HP11 := Lib.hid hp11
  have H2 := Lib.hid (t2.trans t3 (by simp))
  have hmf : ∀ (fn : Fn) (first cap : Array Value) (w : World), (Instr.makeFunc fn first cap).run Tryz.prog w = .ok (.func fn first cap) w := fun _ _ _ _ => rfl
  clear hx3 hp11 t2 t3 b3 hlt hclo hsw OR r1 c1
  go_upto_region 4 with fail
  rw [← HX3.out, ← HP11.out]
  go_wp2_with fail
  refine OC.out.mono ?_
  rintro e x4 ⟨rfl, bv', tv', b4, l4, t4⟩
  have t04 := Lib.hid (H2.out.trans t4 (fun x hx => .inr (HK.out x hx)))
  obtain ⟨A5, c5, rfl, _⟩ := l4.blks.form'
  obtain ⟨A6, c6, rfl, _⟩ := l4.txs.form
  have r4 := b4.range 0 4
  simp only [List.drop_zero, List.take_succ_cons, List.take_zero] at r4
  have hz4 := size_led (.int .i64 L.next) (.slice none 0 0) (.slice A5 (closeL L).blks.length c5) (.slice A6 (closeL L).txs.length c6)
  have OW2 := Lib.hid (own_any (closeL L) (closeL_ok HL.out hroom) (.slice none 0 0) (.slice A5 (closeL L).blks.length c5) (.slice A6 (closeL L).txs.length c6) _ x4 l4)
  clear b4 l4 t4 OC
  go_wp2_with (first
    | (refine wpList_load_mid rfl 29 (.tmp 23) rfl p11 0 (by kernel_rfl) _ _ r4 Tryz.underlying29 rfl hz4 ?_)
    | fail)
  refine OW2.out.mono ?_
  rintro e x6 ⟨ov6, bv6, tv6, rfl, OR6, t6⟩
  obtain ⟨A7, c7, rfl⟩ := OR6.opn.form
  obtain ⟨A8, c8, rfl⟩ := own_formV OR6.blks
  obtain ⟨A9, c9, rfl⟩ := OR6.txs.form
  have t06 := t04.out.trans t6 (by simp)
  have bq := HQB.out.1.turns t06 (by simp)
  have HBQ := Lib.hid bq
  have hz6 := size_led (.int .i64 L.next) (.slice A7 (closeL L).opn.length c7) (.slice A8 (closeL L).blks.length c8) (.slice A9 (closeL L).txs.length c9)
  have HF := Lib.hid (And.intro OR6 (And.intro t06 t04.out.size))
  clear OR6 t06 bq OW2 t6 r4
  go_wp2_with (first
    | (refine wpList_store_blk rfl 29 (.tmp 2) (.tmp 25) rfl q (by kernel_rfl) [.int .i64 L.next, .slice A7 (closeL L).opn.length c7, .slice A8 (closeL L).blks.length c8, .slice A9 (closeL L).txs.length c9] [.int .i64 0, .slice none 0 0, .slice none 0 0, .slice none 0 0] 29 (by kernel_rfl) HBQ.out rfl hz6 (by intro u hu; simp at hu; rcases hu with rfl | rfl | rfl | rfl <;> rfl) (fun w9 hb9 ht9 hs9 => ?_); have HQ9 := Lib.hid (And.intro hb9 ht9); clear hb9 ht9 hs9)
    | fail)
  refine bodyPost_ret (results_two rfl _ _ q _ _ _ (.int .i64 0) (by kernel_rfl) (by kernel_rfl) HQ9.out.1 Tryz.underlying29 rfl (by rw [List.size_toArray]; exact hz6)) rfl ?_
  have hqs := HQB.out.2
  refine ⟨_, _, _, rfl, ?_, (HT0.out.trans HF.out.2.1 (by simp)).trans HQ9.out.2 (by intro x hx; simp at hx; exact .inr (by omega))⟩
  have hlow := HF.out.1.low HQ9.out.2 (by intro x hx; simp at hx; have := HF.out.2.2; omega)
  exact hlow.led.mono (fun k _ hk => by have := HF.out.2.2; have := HT0.out.size; omega)

set_option maxRecDepth 100000 in
set_option maxHeartbeats 8000000 in
theorem Close_none (L : Led) (hL : L.ok) (hne : L.opn = []) (ov bv tv : Value) (S : Nat → Prop) (w0 : World) (hd : LedR w0 S ov bv tv L) :
    Calls Tryz.prog 10 #[.agg #[.int .i64 L.next, ov, bv, tv]] w0 fun e w' => ∃ ov' bv' tv', e = .returned (.tuple #[.agg #[.int .i64 L.next, ov', bv', tv'], .int .i64 2]) ∧ LedR w' (fun b => w0.heap.size ≤ b) ov' bv' tv' L ∧ Turns [] w0 w' := by
  have hn0 := Lib.hid (show L.opn.length = 0 by rw [hne]; rfl)
  obtain ⟨Ao, co, rfl, _⟩ := hd.opn.form
  obtain ⟨Ab, cb, rfl, _⟩ := hd.blks.form'
  obtain ⟨At, ct, rfl, _⟩ := hd.txs.form
  obtain ⟨p, hp⟩ : ∃ p, p = w0.heap.size := ⟨_, rfl⟩
  obtain ⟨w, hw⟩ : ∃ x, x = w0.alloc (.cells #[.int .i64 L.next, .slice Ao L.opn.length co, .slice Ab L.blks.length cb, .slice At L.txs.length ct] 29) := ⟨_, rfl⟩
  have bc := Blk.new w0 [.int .i64 L.next, .slice Ao L.opn.length co, .slice Ab L.blks.length cb, .slice At L.txs.length ct] 29
  have t0 := (Turns.refl [] w0).alloc (.cells #[.int .i64 L.next, .slice Ao L.opn.length co, .slice Ab L.blks.length cb, .slice At L.txs.length ct] 29)
  have hs0 : w.heap.size = w0.heap.size + 1 := by rw [hw]; simp
  rw [show w0.alloc (.cells [.int .i64 L.next, .slice Ao L.opn.length co, .slice Ab L.blks.length cb, .slice At L.txs.length ct].toArray 29) = w from hw.symm, ← hp] at bc
  rw [← hw] at t0
  obtain ⟨q, hq⟩ : ∃ p, p = w.heap.size := ⟨_, rfl⟩
  obtain ⟨w1, hw1⟩ : ∃ x, x = w.alloc (.cells #[.int .i64 0, .slice none 0 0, .slice none 0 0, .slice none 0 0] 29) := ⟨_, rfl⟩
  have bq := Blk.new w [.int .i64 0, .slice none 0 0, .slice none 0 0, .slice none 0 0] 29
  have t1 := (Turns.refl [] w).alloc (.cells #[.int .i64 0, .slice none 0 0, .slice none 0 0, .slice none 0 0] 29)
  have hs1 : w1.heap.size = w.heap.size + 1 := by rw [hw1]; simp
  rw [show w.alloc (.cells [.int .i64 0, .slice none 0 0, .slice none 0 0, .slice none 0 0].toArray 29) = w1 from hw1.symm, ← hq] at bq
  rw [← hw1] at t1
  have bp1 := bc.turns t1 (by simp)
  have c1 := bp1.cell 1
  simp only [List.getElem?_cons_zero, List.getElem?_cons_succ] at c1
  have r1 := bp1.all
  have hz1 := size_led (.int .i64 L.next) (.slice Ao L.opn.length co) (.slice Ab L.blks.length cb) (.slice At L.txs.length ct)
  have t01 := t0.trans t1 (by simp)
  have OW := Lib.hid (own_any L hL _ _ _ S w1 (hd.keep (t01.keeps0 S)))
  have HT0 := Lib.hid t01
  have HW := Lib.hid (And.intro hw hw1)
  have HP := Lib.hid (And.intro hp (show p + 1 = q by omega))
  have HQB := Lib.hid (And.intro bq (show w0.heap.size ≤ q ∧ q < w1.heap.size by omega))
  have HL := Lib.hid hL
  have HN := Lib.hid hne
  clear bc t0 hw hw1 hp hq hs0 hs1 hd bq t1 bp1 t01
  have hni : ((L.opn.length : Int) == 0) = true := beq_iff_eq.2 (by have := hn0.out; omega)
  clear hne
  go_enter Tryz.func10, Tryz.ntmps10
  go_upto_region 1 with fail
  rw [← HW.out.1, ← HW.out.2, ← HP.out.1, HP.out.2]
  go_wp2_with (first
    | (refine wpList_load_mid rfl 29 (.tmp 1) rfl p 0 rfl _ _ r1 Tryz.underlying29 rfl hz1 ?_)
    | fail)
  refine OW.out.mono ?_
  rintro e x6 ⟨ov6, bv6, tv6, rfl, OR6, t06⟩
  obtain ⟨A7, c7, rfl⟩ := OR6.opn.form
  obtain ⟨A8, c8, rfl⟩ := own_formV OR6.blks
  obtain ⟨A9, c9, rfl⟩ := OR6.txs.form
  have bq := HQB.out.1.turns t06 (by simp)
  have HBQ := Lib.hid bq
  have hz6 := size_led (.int .i64 L.next) (.slice A7 L.opn.length c7) (.slice A8 L.blks.length c8) (.slice A9 L.txs.length c9)
  have HF := Lib.hid (And.intro OR6 t06)
  clear OR6 t06 bq r1 c1
  go_wp2_with (first
    | (refine wpList_store_blk rfl 29 (.tmp 2) (.tmp 10) rfl q (by kernel_rfl) [.int .i64 L.next, .slice A7 L.opn.length c7, .slice A8 L.blks.length c8, .slice A9 L.txs.length c9] [.int .i64 0, .slice none 0 0, .slice none 0 0, .slice none 0 0] 29 (by kernel_rfl) HBQ.out rfl hz6 (by intro u hu; simp at hu; rcases hu with rfl | rfl | rfl | rfl <;> rfl) (fun w9 hb9 ht9 hs9 => ?_); have HQ9 := Lib.hid (And.intro hb9 ht9); clear hb9 ht9 hs9)
    | fail)
  refine bodyPost_ret (results_two rfl _ _ q _ _ _ (.int .i64 2) (by kernel_rfl) (by kernel_rfl) HQ9.out.1 Tryz.underlying29 rfl (by rw [List.size_toArray]; exact hz6)) rfl ?_
  have hqs := HQB.out.2
  refine ⟨_, _, _, rfl, ?_, (HT0.out.trans HF.out.2 (by simp)).trans HQ9.out.2 (by intro x hx; simp at hx; exact .inr (by omega))⟩
  have hlow := HF.out.1.low HQ9.out.2 (by intro x hx; simp at hx; omega)
  exact hlow.led.mono (fun k _ hk => by have := HT0.out.size; omega)
end Go.Proofs.YtoahnhphfabajaaGreat
