/- Own copies of ledgers, walked. -/
import Derived.Test.YtoahnhphfabajaaGreatLdJ
import Derived.Deep.CutBlock
namespace Go.Proofs.YtoahnhphfabajaaGreat
open Go.RowKit
set_option linter.unusedVariables false
set_option maxRecDepth 10000
set_option linter.unusedSimpArgs false
set_option linter.unnecessarySimpa false

def PV (p : Nat) : Value := .slice (some ⟨p, 0, none⟩) 0 0
/-- A ledger whose rows are its own. -/
structure OwnR (B M : Nat) (vs : List Value) (w : World) (ov bv tv : Value) (L : Led) : Prop where
  opn : DeepO TxR w (SX B M (ov :: bv :: tv :: vs)) 2 B 45 ov L.opn
  blks : w.ownsRow B 70 66 bv L.blks.length (bloCells L.blks)
  txs : DeepO TxsR w (SX B M (ov :: bv :: tv :: vs)) 1 B 25 tv L.txs
  ob : ∀ k, ov.ownBlock = some k → bv.ownBlock ≠ some k
  ot : ∀ k, ov.ownBlock = some k → tv.ownBlock ≠ some k
  bt : ∀ k, bv.ownBlock = some k → tv.ownBlock ≠ some k
theorem OwnR.led {B M : Nat} {vs : List Value} {w : World} {ov bv tv : Value} {L : Led} (h : OwnR B M vs w ov bv tv L) : LedR w (fun b => B ≤ b) ov bv tv L :=
  ⟨h.opn.deep TxR.lasts (fun k _ hk => hk.1) (fun k hk => (h.opn.lt k hk).1), SlS.of_own h.blks (fun k hk => (h.blks.lt k hk).1), h.txs.deep TxsR.lasts (fun k _ hk => hk.1) (fun k hk => (h.txs.lt k hk).1)⟩
theorem OwnR.low {B M : Nat} {vs : List Value} {w w' : World} {ov bv tv : Value} {L : Led} (h : OwnR B M vs w ov bv tv L) {l : List Nat} (t : Turns l w w') (hl : ∀ x ∈ l, x < B) : OwnR B M vs w' ov bv tv L :=
  ⟨h.opn.keep TxR.lasts t (fun x hx _ hs => by have := hl x hx; have := hs.1; omega) (fun x hx e => by have := hl x hx; have := (h.opn.lt x e).1; omega),
   own_vL h.blks t (fun x hx e => by have := hl x hx; have := (h.blks.lt x e).1; omega),
   h.txs.keep TxsR.lasts t (fun x hx _ hs => by have := hl x hx; have := hs.1; omega) (fun x hx e => by have := hl x hx; have := (h.txs.lt x e).1; omega), h.ob, h.ot, h.bt⟩
theorem OwnR.weak {B M B' M' : Nat} {vs : List Value} {w : World} {ov bv tv : Value} {L : Led} (h : OwnR B M vs w ov bv tv L) (hB : B' ≤ B) (hM : M ≤ M') : OwnR B' M' vs w ov bv tv L :=
  ⟨h.opn.mono TxR.lasts (fun k _ hk => ⟨by have := hk.1; omega, by have := hk.2.1; omega, hk.2.2⟩) hB, own_more h.blks hB, h.txs.mono TxsR.lasts (fun k _ hk => ⟨by have := hk.1; omega, by have := hk.2.1; omega, hk.2.2⟩) hB, h.ob, h.ot, h.bt⟩
/-- While it is made: the first k rows of transactions are there. -/
structure OwnC (B : Nat) (w : World) (p3 gT : Nat) (ov bv : Value) (L : Led) (n k : Nat) : Prop where
  v : Blk w p3 [.int .i64 L.next, ov, bv, .slice (some ⟨gT, 0, none⟩) n n] 29
  opn : DeepO TxR w (SX B w.heap.size [ov, bv, .slice (some ⟨gT, 0, none⟩) n n, PV p3]) 2 B 45 ov L.opn
  blks : w.ownsRow B 70 66 bv L.blks.length (bloCells L.blks)
  txs : Fill TxsR w (SX B w.heap.size [ov, bv, .slice (some ⟨gT, 0, none⟩) n n, PV p3]) 1 gT 25 n k L.txs
  ob : ∀ k, ov.ownBlock = some k → bv.ownBlock ≠ some k
  ot : ov.ownBlock ≠ some gT
  bt : bv.ownBlock ≠ some gT
  ne : B ≤ p3 ∧ B ≤ gT ∧ p3 ≠ gT ∧ ov.ownBlock ≠ some p3 ∧ bv.ownBlock ≠ some p3
theorem Fill.mono {α : Type} {R : World → (Nat → Prop) → List Value → α → Prop} {w : World} {S S' : Nat → Prop} {size g n k : Nat} {t : TypeId} {l : List α} (hR : Lasts R) (h : Fill R w S size g t n k l) (hS : ∀ k, k < w.heap.size → S k → S' k) : Fill R w S' size g t n k l := by
  obtain ⟨c, hb, hl, hr⟩ := h.ex
  exact ⟨c, hb, hl, fun i hi hk => hR.mono (hr i hi hk) hS⟩
theorem ownC_mk {B gO cO dO cB dB gT p3 n nO : Nat} {X X' : World} {bv : Value} {L : Led}
    (hO : DeepO TxR X (fun b => gO < b ∧ b < dO) 2 cO 45 (.slice (some ⟨gO, 0, none⟩) nO nO) L.opn)
    (hB : X.ownsRow cB 70 66 bv L.blks.length (bloCells L.blks)) (hBd : ∀ k, bv.ownBlock = some k → cB ≤ k ∧ k < dB)
    (hT : Fill TxsR X (fun b => False) 1 gT 25 n 0 L.txs)
    (hv : Blk X' p3 [.int .i64 L.next, .slice (some ⟨gO, 0, none⟩) nO nO, bv, .slice (some ⟨gT, 0, none⟩) n n] 29) (ht : Turns [p3] X X')
    (h1 : B ≤ cO ∧ cO ≤ gO ∧ gO < dO ∧ B ≤ cB ∧ B ≤ gT ∧ B ≤ p3) (h2 : (dO ≤ cB ∨ dB ≤ cO) ∧ (dO ≤ gT ∨ gT < cO) ∧ (dO ≤ p3 ∨ p3 < cO) ∧ (dB ≤ gT ∨ gT < cB) ∧ (dB ≤ p3 ∨ p3 < cB) ∧ p3 ≠ gT) :
    OwnC B X' p3 gT (.slice (some ⟨gO, 0, none⟩) nO nO) bv L n 0 := by
  have hgo : ∀ k, (Value.slice (some ⟨gO, 0, none⟩) nO nO).ownBlock = some k → k = gO := by intro k hk; simp [Value.ownBlock] at hk; omega
  refine ⟨hv, ?_, ?_, ?_, ?_, ?_, ?_, ?_⟩
  · refine (hO.keep TxR.lasts ht (by intro x hx _; simp at hx; omega) (by intro x hx e; simp at hx; have := hgo x e; omega)).mono TxR.lasts (fun k hk hk' => ⟨by omega, hk, ?_⟩) (by omega)
    intro v hv' e
    simp only [List.mem_cons, List.not_mem_nil, or_false] at hv'
    rcases hv' with rfl | rfl | rfl | rfl
    · have := hgo k e; omega
    · have := hBd k e; omega
    · simp [Value.ownBlock] at e; omega
    · simp [Value.ownBlock, PV] at e; omega
  · exact own_more (own_vL hB ht (by intro x hx e; simp at hx; have := hBd x e; omega)) (by omega)
  · exact (hT.on TxsR.lasts ht (by simp; omega) (by intro x hx _ h; exact h)).mono TxsR.lasts (fun k _ h => h.elim)
  · intro k hk e; have := hgo k hk; have := hBd k e; omega
  · intro e; have := hgo gT e; omega
  · intro e; have := hBd gT e; omega
  · exact ⟨by omega, by omega, by omega, fun e => by have := hgo p3 e; omega, fun e => by have := hBd p3 e; omega⟩
theorem OwnC.on {B p3 gT n k : Nat} {w w' : World} {ov bv : Value} {L : Led} (h : OwnC B w p3 gT ov bv L n k) (t : Turns [] w w') : OwnC B w' p3 gT ov bv L n k :=
  ⟨h.v.turns t (by simp), (h.opn.keep TxR.lasts t (by simp) (by simp)).mono TxR.lasts (fun k hk hk' => ⟨hk'.1, hk, hk'.2.2⟩) (Nat.le_refl _), own_v0 h.blks t,
   (h.txs.on TxsR.lasts t (by simp) (by simp)).mono TxsR.lasts (fun k hk hk' => ⟨hk'.1, hk, hk'.2.2⟩), h.ob, h.ot, h.bt, h.ne⟩
/-- One row of transactions more. -/
theorem OwnC.put {B p3 gT n k c : Nat} {w : World} {ov bv x : Value} {L : Led} (h : OwnC B w p3 gT ov bv L n k) (hk : k < n) (hkl : k < L.txs.length) (hx : Deep TxR w (fun b => c ≤ b) 2 x L.txs[k])
    (h1 : ∀ j, ov.ownBlock = some j → j < c) (h2 : ∀ j, bv.ownBlock = some j → j < c) (h3 : gT < c) (h4 : p3 < c) (hB : B ≤ c) :
    OwnC B (w.setCell ⟨gT, k, none⟩ x) p3 gT ov bv L n (k + 1) := by
  have hSg : ¬ SX B w.heap.size [ov, bv, .slice (some ⟨gT, 0, none⟩) n n, PV p3] gT := by
    rintro ⟨_, _, h⟩
    exact h (.slice (some ⟨gT, 0, none⟩) n n) (by simp) rfl
  have hp := h.txs.put TxsR.lasts hSg (cs := [x]) rfl hk hkl ⟨x, rfl, hx.mono TxR.lasts (fun j hj hc => ⟨by omega, hj, by
    intro v hv e
    simp only [List.mem_cons, List.not_mem_nil, or_false] at hv
    rcases hv with rfl | rfl | rfl | rfl
    · have := h1 j e; omega
    · have := h2 j e; omega
    · simp [Value.ownBlock] at e; omega
    · simp [Value.ownBlock, PV] at e; omega⟩)⟩
  rw [Nat.mul_one] at hp
  have ht : Turns [gT] w (w.setCell ⟨gT, k, none⟩ x) := (Turns.refl _ _).setCell (.inl (by simp)) _
  have hsz : (w.setCell ⟨gT, k, none⟩ x).heap.size = w.heap.size := by simp [World.setCell]
  refine ⟨h.v.turns ht (by simp; exact h.ne.2.2.1), ?_, own_vL h.blks ht (by intro x hx e; simp at hx; subst hx; exact h.bt e), ?_, h.ob, h.ot, h.bt, h.ne⟩
  · rw [hsz]
    exact h.opn.keep TxR.lasts ht (by intro x hx _; simp at hx; subst hx; exact hSg) (by intro x hx e; simp at hx; subst hx; exact h.ot e)
  · rw [hsz]; exact hp
theorem OwnC.done {B p3 gT n : Nat} {w : World} {ov bv : Value} {L : Led} (h : OwnC B w p3 gT ov bv L n n) (hn : n = L.txs.length) (hm : n ≤ maxLen) : OwnR B w.heap.size [] w ov bv (.slice (some ⟨gT, 0, none⟩) n n) L := by
  have hsub : ∀ k, k < w.heap.size → SX B w.heap.size [ov, bv, .slice (some ⟨gT, 0, none⟩) n n, PV p3] k → SX B w.heap.size [ov, bv, .slice (some ⟨gT, 0, none⟩) n n] k :=
    fun k _ hk => ⟨hk.1, hk.2.1, fun v hv => hk.2.2 v (by simp at hv ⊢; rcases hv with h | h | h <;> simp [h])⟩
  refine ⟨h.opn.mono TxR.lasts hsub (Nat.le_refl _), h.blks, (h.txs.mono TxsR.lasts hsub).doneO hn hm h.ne.2.1, h.ob, ?_, ?_⟩
  · intro k hk e; simp [Value.ownBlock] at e; subst e; exact h.ot hk
  · intro k hk e; simp [Value.ownBlock] at e; subst e; exact h.bt hk

set_option maxRecDepth 100000 in
set_option maxHeartbeats 8000000 in
theorem own_any (L : Led) (hL : L.ok) (ov bv tv : Value) (S : Nat → Prop) (w0 : World) (hd : LedR w0 S ov bv tv L) :
    Calls Tryz.prog 31 #[.agg #[.int .i64 L.next, ov, bv, tv]] w0 fun e w' => ∃ ov' bv' tv', e = .returned (.agg #[.int .i64 L.next, ov', bv', tv']) ∧ OwnR w0.heap.size w'.heap.size [] w' ov' bv' tv' L ∧ Turns [] w0 w' := by
  obtain ⟨Ao, co, rfl, _⟩ := hd.opn.form
  obtain ⟨Ab, cb, rfl, _⟩ := hd.blks.form'
  obtain ⟨At, ct, rfl, _⟩ := hd.txs.form
  obtain ⟨p, hp⟩ : ∃ p, p = w0.heap.size := ⟨_, rfl⟩
  obtain ⟨w, hw⟩ : ∃ x, x = w0.alloc (.cells #[.int .i64 L.next, .slice Ao L.opn.length co, .slice Ab L.blks.length cb, .slice At L.txs.length ct] 29) := ⟨_, rfl⟩
  have bc := Blk.new w0 [.int .i64 L.next, .slice Ao L.opn.length co, .slice Ab L.blks.length cb, .slice At L.txs.length ct] 29
  have t0 := (Turns.refl [] w0).alloc (.cells #[.int .i64 L.next, .slice Ao L.opn.length co, .slice Ab L.blks.length cb, .slice At L.txs.length ct] 29)
  have hs0 : w.heap.size = w0.heap.size + 1 := by rw [hw]; simp
  rw [show w0.alloc (.cells [.int .i64 L.next, .slice Ao L.opn.length co, .slice Ab L.blks.length cb, .slice At L.txs.length ct].toArray 29) = w from hw.symm, ← hp] at bc
  rw [← hw] at t0
  obtain ⟨q, hq⟩ : ∃ p, p = w.heap.size := ⟨_, rfl⟩
  obtain ⟨w1, hw1⟩ : ∃ x, x = w.alloc (.cells #[.int .i64 0, .slice none 0 0, .slice none 0 0, .slice none 0 0] 29) := ⟨_, rfl⟩
  have bq := Blk.new w [.int .i64 0, .slice none 0 0, .slice none 0 0, .slice none 0 0] 29
  have t1 := (Turns.refl [] w).alloc (.cells #[.int .i64 0, .slice none 0 0, .slice none 0 0, .slice none 0 0] 29)
  have hs1 : w1.heap.size = w.heap.size + 1 := by rw [hw1]; simp
  rw [show w.alloc (.cells [.int .i64 0, .slice none 0 0, .slice none 0 0, .slice none 0 0].toArray 29) = w1 from hw1.symm, ← hq] at bq
  rw [← hw1] at t1
  obtain ⟨nT, hnT⟩ : ∃ n, n = L.txs.length := ⟨_, rfl⟩
  have hnT1 : nT ≤ 100000 := by rw [hnT]; exact hL.txs
  obtain ⟨Y, hY⟩ : ∃ q, q = w1.drew := ⟨_, rfl⟩
  have tY : Turns [] w1 Y := by rw [hY]; exact (Turns.refl _ _).drew
  have t01 := t0.trans t1 (by simp)
  have bY := (bc.turns t1 (by simp)).turns tY (by simp)
  have C0 := bY.cell 0
  have C1 := bY.cell 1
  have C2 := bY.cell 2
  have C3 := bY.cell 3
  simp only [List.getElem?_cons_zero, List.getElem?_cons_succ] at C0 C1 C2 C3
  rw [← hnT] at C3
  have HYY := Lib.hid hY
  have tw := t01.trans tY (by simp)
  have HD := Lib.hid (And.intro (hd.keep (tw.keeps0 S)) (And.intro hL hd))
  have HT0 := Lib.hid (And.intro tw t01)
  have HW := Lib.hid (And.intro hw hw1)
  have HP := Lib.hid (And.intro hp (show p + 1 = q by omega))
  have HNT := Lib.hid hnT
  have HQB := Lib.hid (And.intro bq (And.intro tY (show w0.heap.size ≤ q ∧ q < w1.heap.size by omega)))
  have HPB := Lib.hid (bc.turns t1 (by simp))
  clear bc t0 hw hw1 hp hq hs0 hs1 hL hd bq t1 tY t01 bY hY tw hnT
  rw [← HNT.out] at HW HPB
  have S0 : Turns [] Y Y := Turns.refl _ _
  go_enter Tryz.func31, Tryz.ntmps31
  go_upto_region 1 with fail
  rw [← HNT.out, ← HW.out.1, ← HW.out.2, ← HP.out.1, HP.out.2]
  go_cut [3] (fun u wx => ∃ (p3 gO gT : Nat) (bv : Value), u = .pointer (some ⟨p3, 0, none⟩) ∧ OwnC w1.heap.size wx p3 gT (.slice (some ⟨gO, 0, none⟩) L.opn.length L.opn.length) bv L nT 0 ∧ Turns [] w1 wx)
  case first =>
    refine rk0 (fun W => True) (fun W => Turns [] Y W) 14 15 ?_
    rw [← HYY.out]
    refine rkA 0 6 1 (v := ?_) ?_ (.mk' trivial S0) ?_
    rotate_left
    · intro W hS; go_simp; all_goals with_reducible rfl
    try simp only [sI, sS, sZ]
    refine rkT 1 7 3 (v := ?_) ?_ (.mk' trivial S0) ?_
    rotate_left
    · rintro W ⟨-, hS⟩; have c0 := cellL hS C0 (by simp); go_simp; all_goals with_reducible rfl
    try simp only [sI, sS, sZ]
    refine rkA 2 8 7 (v := ?_) ?_ (.mk' trivial S0) ?_
    rotate_left
    · intro W hS; go_simp; all_goals with_reducible rfl
    try simp only [sI, sS, sZ]
    refine rkT 3 9 15 (v := ?_) ?_ (.mk' trivial S0) ?_
    rotate_left
    · rintro W ⟨-, hS⟩; have c0 := cellL hS C1 (by simp); go_simp; all_goals with_reducible rfl
    try simp only [sI, sS, sZ]
    refine rkA 5 11 47 (v := ?_) ?_ (.mk' trivial S0) ?_
    rotate_left
    · intro W hS; go_simp; all_goals with_reducible rfl
    try simp only [sI, sS, sZ]
    refine rkT 6 12 111 (v := ?_) ?_ (.mk' trivial S0) ?_
    rotate_left
    · rintro W ⟨-, hS⟩; have c0 := cellL hS C2 (by simp); go_simp; all_goals with_reducible rfl
    try simp only [sI, sS, sZ]
    refine rkA 8 14 367 (v := ?_) ?_ (.mk' trivial S0) ?_
    rotate_left
    · intro W hS; go_simp; all_goals with_reducible rfl
    try simp only [sI, sS, sZ]
    refine rkT 9 15 879 (v := ?_) ?_ (.mk' trivial S0) ?_
    rotate_left
    · rintro W ⟨-, hS⟩; have c0 := cellL hS C3 (by simp); go_simp; all_goals with_reducible rfl
    try simp only [sI, sS, sZ]
    refine rkA 10 16 1903 (v := ?_) ?_ (.mk' trivial S0) ?_
    rotate_left
    · intro W hS; go_simp; all_goals with_reducible rfl
    try simp only [sI, sS, sZ]
    refine rk3 4 11 13 1919 3951 10095 (fun K hK => ?_) (fun K hK => ?_) (fun K hK => ?_)
    · go_simp
      refine (ownTxs_any L.opn HD.out.2.1.opn HD.out.2.1.otx _ S Y (HD.out.1.opn.keep TxR.lasts ((Turns.refl [] Y).keeps0 S))).mono ?_
      rintro e X10 ⟨g10, rfl, O10, D10⟩
      have B10 := Lib.hid (And.intro (O10.lt g10 rfl) D10.size)
      refine hK _ _ (.mk' trivial ((Turns.refl [] Y).trans D10 (by simp))) ?_
      clear hK K
      try simp only [sI, sS, sZ]
      refine rk3 7 11 13 2047 3967 10111 (fun K hK => ?_) (fun K hK => ?_) (fun K hK => ?_)
      · go_simp
        refine (CloneBlo_any _ L.blks.length (bloCells L.blks) (bloCells_one _) X10 ((((Turns.refl [] Y).trans D10 (by simp)).slice HD.out.1.blks.sl (Nat.le_refl _) (by simp)).more ((Turns.refl [] Y).trans D10 (by simp)).size) HD.out.2.1.blks).mono ?_
        rintro e X13 ⟨v13, rfl, o13, D13⟩
        obtain ⟨A13, c13, rfl⟩ := own_formV o13
        have B13 := Lib.hid (And.intro (fun k hk => o13.lt k hk) D13.size)
        refine hK _ _ (.mk' trivial (((Turns.refl [] Y).trans D10 (by simp)).trans D13 (by simp))) ?_
        clear hK K
        try simp only [sI, sS, sZ]
        refine rk2 11 13 4095 10239 (fun K hK => ?_) (fun K hK => ?_)
        · have hmk := run_make_ty TTxs nT (by omega) (by omega) X13
          have f17 : Fill TxsR (X13.alloc (.cells (madeCells (Value.slice none 0 0).cells (nT * 1)) 25)) (fun b => False) 1 X13.heap.size 25 nT 0 L.txs := Fill.start _ _ _ (size_madeCells _ _)
          have D17 : Turns [] X13 (X13.alloc (.cells (madeCells (Value.slice none 0 0).cells (nT * 1)) 25)) := (Turns.refl _ _).alloc _
          have Z17 : (X13.alloc (.cells (madeCells (Value.slice none 0 0).cells (nT * 1)) 25)).heap.size = X13.heap.size + 1 := by simp
          generalize X13.alloc (.cells (madeCells (Value.slice none 0 0).cells (nT * 1)) 25) = X17 at hmk f17 D17 Z17
          obtain ⟨g17, hg17⟩ : ∃ g, g = X13.heap.size := ⟨_, rfl⟩
          rw [← hg17] at hmk f17
          have B17 := Lib.hid (And.intro hg17 Z17)
          clear hg17 Z17
          go_simp
          clear hmk
          refine hK _ _ (.mk' trivial ((((Turns.refl [] Y).trans D10 (by simp)).trans D13 (by simp)).trans D17 (by simp))) ?_
          clear hK K
          try simp only [sI, sS, sZ]
          refine rkA 12 18 8191 (v := ?_) ?_ (.mk' trivial ((((Turns.refl [] Y).trans D10 (by simp)).trans D13 (by simp)).trans D17 (by simp))) ?_
          rotate_left
          · intro W hS; go_simp; all_goals with_reducible rfl
          try simp only [sI, sS, sZ]
          refine rk1 13 16383 (fun K hK => ?_)
          go_simp
          have b3 : Blk (X17.alloc (.cells #[.int .i64 0, .slice none 0 0, .slice none 0 0, .slice none 0 0] 29)) X17.heap.size [.int .i64 0, .slice none 0 0, .slice none 0 0, .slice none 0 0] 29 := Blk.new X17 [.int .i64 0, .slice none 0 0, .slice none 0 0, .slice none 0 0] _
          have D3 : Turns [] X17 (X17.alloc (.cells #[.int .i64 0, .slice none 0 0, .slice none 0 0, .slice none 0 0] 29)) := (Turns.refl _ _).alloc _
          have Z3 : (X17.alloc (.cells #[.int .i64 0, .slice none 0 0, .slice none 0 0, .slice none 0 0] 29)).heap.size = X17.heap.size + 1 := by simp
          obtain ⟨p3, hp3⟩ : ∃ g, g = X17.heap.size := ⟨_, rfl⟩
          rw [← hp3] at b3 ⊢
          generalize X17.alloc (.cells #[.int .i64 0, .slice none 0 0, .slice none 0 0, .slice none 0 0] 29) = X3 at b3 D3 Z3 ⊢
          have B3 := Lib.hid (And.intro hp3 Z3)
          clear hp3 Z3
          refine hK _ _ (.mk' trivial (((((Turns.refl [] Y).trans D10 (by simp)).trans D13 (by simp)).trans D17 (by simp)).trans D3 (by simp))) ?_
          clear hK K
          try simp only [sI, sS, sZ]
          refine rk1 14 32767 (fun K hK => ?_)
          refine wp_store_blk 29 _ _ (by rfl) p3 (by rfl) [.int .i64 L.next, .slice (some ⟨g10, 0, none⟩) L.opn.length L.opn.length, .slice A13 L.blks.length c13, .slice (some ⟨g17, 0, none⟩) nT nT] [.int .i64 0, .slice none 0 0, .slice none 0 0, .slice none 0 0] 29 (by rfl) (b3.turns (Turns.refl [] X3) (by simp)) rfl (size_led _ _ _ _) (by intro u hu; simp at hu; rcases hu with rfl | rfl | rfl | rfl <;> rfl) (fun X14 hb14 ht14 => ?_)
          have hyz := HQB.out.2.1.size
          obtain ⟨z1, z2⟩ := B10.out
          obtain ⟨z3, z4⟩ := B13.out
          obtain ⟨z5, z6⟩ := B17.out
          obtain ⟨z7, z8⟩ := B3.out
          have OC := ownC_mk (B := w1.heap.size) (L := L) (((O10.mono TxR.lasts (S' := fun b => g10 < b ∧ b < X10.heap.size) (fun k hk hk' => ⟨hk', hk⟩) (Nat.le_refl _)).keep TxR.lasts ((((Turns.refl [] X10).trans D13 (by simp)).trans D17 (by simp)).trans D3 (by simp)) (by simp) (by simp))) (own_v0 o13 (((Turns.refl [] X13).trans D17 (by simp)).trans D3 (by simp))) z3 (f17.on TxsR.lasts ((Turns.refl [] X17).trans D3 (by simp)) (by simp) (by simp)) hb14 ht14 (by omega) (by omega)
          have TT : Turns [] w1 X14 := (HQB.out.2.1.trans (((((Turns.refl [] Y).trans D10 (by simp)).trans D13 (by simp)).trans D17 (by simp)).trans D3 (by simp)) (by simp)).trans ht14 (by intro x hx; simp at hx; exact .inr (by omega))
          refine hK _ _ (.p trivial) ?_
          clear hK K
          try simp only [sI, sS, sZ]
          refine rkZ ?_
          have HFX := Lib.hid (And.intro OC TT)
          go_wp2_with fail
          go_meet
          exact ⟨p3, g10, g17, _, rfl, HFX.out.1, HFX.out.2⟩
        · go_simp
          have b3 : Blk (X13.alloc (.cells #[.int .i64 0, .slice none 0 0, .slice none 0 0, .slice none 0 0] 29)) X13.heap.size [.int .i64 0, .slice none 0 0, .slice none 0 0, .slice none 0 0] 29 := Blk.new X13 [.int .i64 0, .slice none 0 0, .slice none 0 0, .slice none 0 0] _
          have D3 : Turns [] X13 (X13.alloc (.cells #[.int .i64 0, .slice none 0 0, .slice none 0 0, .slice none 0 0] 29)) := (Turns.refl _ _).alloc _
          have Z3 : (X13.alloc (.cells #[.int .i64 0, .slice none 0 0, .slice none 0 0, .slice none 0 0] 29)).heap.size = X13.heap.size + 1 := by simp
          obtain ⟨p3, hp3⟩ : ∃ g, g = X13.heap.size := ⟨_, rfl⟩
          rw [← hp3] at b3 ⊢
          generalize X13.alloc (.cells #[.int .i64 0, .slice none 0 0, .slice none 0 0, .slice none 0 0] 29) = X3 at b3 D3 Z3 ⊢
          have B3 := Lib.hid (And.intro hp3 Z3)
          clear hp3 Z3
          refine hK _ _ (.mk' trivial ((((Turns.refl [] Y).trans D10 (by simp)).trans D13 (by simp)).trans D3 (by simp))) ?_
          clear hK K
          try simp only [sI, sS, sZ]
          refine rk1 11 12287 (fun K hK => ?_)
          have hmk := run_make_ty TTxs nT (by omega) (by omega) X3
          have f17 : Fill TxsR (X3.alloc (.cells (madeCells (Value.slice none 0 0).cells (nT * 1)) 25)) (fun b => False) 1 X3.heap.size 25 nT 0 L.txs := Fill.start _ _ _ (size_madeCells _ _)
          have D17 : Turns [] X3 (X3.alloc (.cells (madeCells (Value.slice none 0 0).cells (nT * 1)) 25)) := (Turns.refl _ _).alloc _
          have Z17 : (X3.alloc (.cells (madeCells (Value.slice none 0 0).cells (nT * 1)) 25)).heap.size = X3.heap.size + 1 := by simp
          generalize X3.alloc (.cells (madeCells (Value.slice none 0 0).cells (nT * 1)) 25) = X17 at hmk f17 D17 Z17
          obtain ⟨g17, hg17⟩ : ∃ g, g = X3.heap.size := ⟨_, rfl⟩
          rw [← hg17] at hmk f17
          have B17 := Lib.hid (And.intro hg17 Z17)
          clear hg17 Z17
          go_simp
          clear hmk
          refine hK _ _ (.mk' trivial (((((Turns.refl [] Y).trans D10 (by simp)).trans D13 (by simp)).trans D3 (by simp)).trans D17 (by simp))) ?_
          clear hK K
          try simp only [sI, sS, sZ]
          refine rkA 12 18 16383 (v := ?_) ?_ (.mk' trivial (((((Turns.refl [] Y).trans D10 (by simp)).trans D13 (by simp)).trans D3 (by simp)).trans D17 (by simp))) ?_
          rotate_left
          · intro W hS; go_simp; all_goals with_reducible rfl
          try simp only [sI, sS, sZ]
          refine rk1 14 32767 (fun K hK => ?_)
          refine wp_store_blk 29 _ _ (by rfl) p3 (by rfl) [.int .i64 L.next, .slice (some ⟨g10, 0, none⟩) L.opn.length L.opn.length, .slice A13 L.blks.length c13, .slice (some ⟨g17, 0, none⟩) nT nT] [.int .i64 0, .slice none 0 0, .slice none 0 0, .slice none 0 0] 29 (by rfl) (b3.turns ((Turns.refl [] X3).trans D17 (by simp)) (by simp)) rfl (size_led _ _ _ _) (by intro u hu; simp at hu; rcases hu with rfl | rfl | rfl | rfl <;> rfl) (fun X14 hb14 ht14 => ?_)
          have hyz := HQB.out.2.1.size
          obtain ⟨z1, z2⟩ := B10.out
          obtain ⟨z3, z4⟩ := B13.out
          obtain ⟨z5, z6⟩ := B17.out
          obtain ⟨z7, z8⟩ := B3.out
          have OC := ownC_mk (B := w1.heap.size) (L := L) (((O10.mono TxR.lasts (S' := fun b => g10 < b ∧ b < X10.heap.size) (fun k hk hk' => ⟨hk', hk⟩) (Nat.le_refl _)).keep TxR.lasts ((((Turns.refl [] X10).trans D13 (by simp)).trans D3 (by simp)).trans D17 (by simp)) (by simp) (by simp))) (own_v0 o13 (((Turns.refl [] X13).trans D3 (by simp)).trans D17 (by simp))) z3 (f17.on TxsR.lasts (Turns.refl [] X17) (by simp) (by simp)) hb14 ht14 (by omega) (by omega)
          have TT : Turns [] w1 X14 := (HQB.out.2.1.trans (((((Turns.refl [] Y).trans D10 (by simp)).trans D13 (by simp)).trans D3 (by simp)).trans D17 (by simp)) (by simp)).trans ht14 (by intro x hx; simp at hx; exact .inr (by omega))
          refine hK _ _ (.p trivial) ?_
          clear hK K
          try simp only [sI, sS, sZ]
          refine rkZ ?_
          have HFX := Lib.hid (And.intro OC TT)
          go_wp2_with fail
          go_meet
          exact ⟨p3, g10, g17, _, rfl, HFX.out.1, HFX.out.2⟩
      · have hmk := run_make_ty TTxs nT (by omega) (by omega) X10
        have f17 : Fill TxsR (X10.alloc (.cells (madeCells (Value.slice none 0 0).cells (nT * 1)) 25)) (fun b => False) 1 X10.heap.size 25 nT 0 L.txs := Fill.start _ _ _ (size_madeCells _ _)
        have D17 : Turns [] X10 (X10.alloc (.cells (madeCells (Value.slice none 0 0).cells (nT * 1)) 25)) := (Turns.refl _ _).alloc _
        have Z17 : (X10.alloc (.cells (madeCells (Value.slice none 0 0).cells (nT * 1)) 25)).heap.size = X10.heap.size + 1 := by simp
        generalize X10.alloc (.cells (madeCells (Value.slice none 0 0).cells (nT * 1)) 25) = X17 at hmk f17 D17 Z17
        obtain ⟨g17, hg17⟩ : ∃ g, g = X10.heap.size := ⟨_, rfl⟩
        rw [← hg17] at hmk f17
        have B17 := Lib.hid (And.intro hg17 Z17)
        clear hg17 Z17
        go_simp
        clear hmk
        refine hK _ _ (.mk' trivial (((Turns.refl [] Y).trans D10 (by simp)).trans D17 (by simp))) ?_
        clear hK K
        try simp only [sI, sS, sZ]
        refine rk2 7 13 4095 12159 (fun K hK => ?_) (fun K hK => ?_)
        · go_simp
          refine (CloneBlo_any _ L.blks.length (bloCells L.blks) (bloCells_one _) X17 (((((Turns.refl [] Y).trans D10 (by simp)).trans D17 (by simp)).slice HD.out.1.blks.sl (Nat.le_refl _) (by simp)).more (((Turns.refl [] Y).trans D10 (by simp)).trans D17 (by simp)).size) HD.out.2.1.blks).mono ?_
          rintro e X13 ⟨v13, rfl, o13, D13⟩
          obtain ⟨A13, c13, rfl⟩ := own_formV o13
          have B13 := Lib.hid (And.intro (fun k hk => o13.lt k hk) D13.size)
          refine hK _ _ (.mk' trivial ((((Turns.refl [] Y).trans D10 (by simp)).trans D17 (by simp)).trans D13 (by simp))) ?_
          clear hK K
          try simp only [sI, sS, sZ]
          refine rkA 12 18 8191 (v := ?_) ?_ (.mk' trivial ((((Turns.refl [] Y).trans D10 (by simp)).trans D17 (by simp)).trans D13 (by simp))) ?_
          rotate_left
          · intro W hS; go_simp; all_goals with_reducible rfl
          try simp only [sI, sS, sZ]
          refine rk1 13 16383 (fun K hK => ?_)
          go_simp
          have b3 : Blk (X13.alloc (.cells #[.int .i64 0, .slice none 0 0, .slice none 0 0, .slice none 0 0] 29)) X13.heap.size [.int .i64 0, .slice none 0 0, .slice none 0 0, .slice none 0 0] 29 := Blk.new X13 [.int .i64 0, .slice none 0 0, .slice none 0 0, .slice none 0 0] _
          have D3 : Turns [] X13 (X13.alloc (.cells #[.int .i64 0, .slice none 0 0, .slice none 0 0, .slice none 0 0] 29)) := (Turns.refl _ _).alloc _
          have Z3 : (X13.alloc (.cells #[.int .i64 0, .slice none 0 0, .slice none 0 0, .slice none 0 0] 29)).heap.size = X13.heap.size + 1 := by simp
          obtain ⟨p3, hp3⟩ : ∃ g, g = X13.heap.size := ⟨_, rfl⟩
          rw [← hp3] at b3 ⊢
          generalize X13.alloc (.cells #[.int .i64 0, .slice none 0 0, .slice none 0 0, .slice none 0 0] 29) = X3 at b3 D3 Z3 ⊢
          have B3 := Lib.hid (And.intro hp3 Z3)
          clear hp3 Z3
          refine hK _ _ (.mk' trivial (((((Turns.refl [] Y).trans D10 (by simp)).trans D17 (by simp)).trans D13 (by simp)).trans D3 (by simp))) ?_
          clear hK K
          try simp only [sI, sS, sZ]
          refine rk1 14 32767 (fun K hK => ?_)
          refine wp_store_blk 29 _ _ (by rfl) p3 (by rfl) [.int .i64 L.next, .slice (some ⟨g10, 0, none⟩) L.opn.length L.opn.length, .slice A13 L.blks.length c13, .slice (some ⟨g17, 0, none⟩) nT nT] [.int .i64 0, .slice none 0 0, .slice none 0 0, .slice none 0 0] 29 (by rfl) (b3.turns (Turns.refl [] X3) (by simp)) rfl (size_led _ _ _ _) (by intro u hu; simp at hu; rcases hu with rfl | rfl | rfl | rfl <;> rfl) (fun X14 hb14 ht14 => ?_)
          have hyz := HQB.out.2.1.size
          obtain ⟨z1, z2⟩ := B10.out
          obtain ⟨z3, z4⟩ := B13.out
          obtain ⟨z5, z6⟩ := B17.out
          obtain ⟨z7, z8⟩ := B3.out
          have OC := ownC_mk (B := w1.heap.size) (L := L) (((O10.mono TxR.lasts (S' := fun b => g10 < b ∧ b < X10.heap.size) (fun k hk hk' => ⟨hk', hk⟩) (Nat.le_refl _)).keep TxR.lasts ((((Turns.refl [] X10).trans D17 (by simp)).trans D13 (by simp)).trans D3 (by simp)) (by simp) (by simp))) (own_v0 o13 ((Turns.refl [] X13).trans D3 (by simp))) z3 (f17.on TxsR.lasts (((Turns.refl [] X17).trans D13 (by simp)).trans D3 (by simp)) (by simp) (by simp)) hb14 ht14 (by omega) (by omega)
          have TT : Turns [] w1 X14 := (HQB.out.2.1.trans (((((Turns.refl [] Y).trans D10 (by simp)).trans D17 (by simp)).trans D13 (by simp)).trans D3 (by simp)) (by simp)).trans ht14 (by intro x hx; simp at hx; exact .inr (by omega))
          refine hK _ _ (.p trivial) ?_
          clear hK K
          try simp only [sI, sS, sZ]
          refine rkZ ?_
          have HFX := Lib.hid (And.intro OC TT)
          go_wp2_with fail
          go_meet
          exact ⟨p3, g10, g17, _, rfl, HFX.out.1, HFX.out.2⟩
        · go_simp
          have b3 : Blk (X17.alloc (.cells #[.int .i64 0, .slice none 0 0, .slice none 0 0, .slice none 0 0] 29)) X17.heap.size [.int .i64 0, .slice none 0 0, .slice none 0 0, .slice none 0 0] 29 := Blk.new X17 [.int .i64 0, .slice none 0 0, .slice none 0 0, .slice none 0 0] _
          have D3 : Turns [] X17 (X17.alloc (.cells #[.int .i64 0, .slice none 0 0, .slice none 0 0, .slice none 0 0] 29)) := (Turns.refl _ _).alloc _
          have Z3 : (X17.alloc (.cells #[.int .i64 0, .slice none 0 0, .slice none 0 0, .slice none 0 0] 29)).heap.size = X17.heap.size + 1 := by simp
          obtain ⟨p3, hp3⟩ : ∃ g, g = X17.heap.size := ⟨_, rfl⟩
          rw [← hp3] at b3 ⊢
          generalize X17.alloc (.cells #[.int .i64 0, .slice none 0 0, .slice none 0 0, .slice none 0 0] 29) = X3 at b3 D3 Z3 ⊢
          have B3 := Lib.hid (And.intro hp3 Z3)
          clear hp3 Z3
          refine hK _ _ (.mk' trivial ((((Turns.refl [] Y).trans D10 (by simp)).trans D17 (by simp)).trans D3 (by simp))) ?_
          clear hK K
          try simp only [sI, sS, sZ]
          refine rk1 7 12287 (fun K hK => ?_)
          go_simp
          refine (CloneBlo_any _ L.blks.length (bloCells L.blks) (bloCells_one _) X3 ((((((Turns.refl [] Y).trans D10 (by simp)).trans D17 (by simp)).trans D3 (by simp)).slice HD.out.1.blks.sl (Nat.le_refl _) (by simp)).more ((((Turns.refl [] Y).trans D10 (by simp)).trans D17 (by simp)).trans D3 (by simp)).size) HD.out.2.1.blks).mono ?_
          rintro e X13 ⟨v13, rfl, o13, D13⟩
          obtain ⟨A13, c13, rfl⟩ := own_formV o13
          have B13 := Lib.hid (And.intro (fun k hk => o13.lt k hk) D13.size)
          refine hK _ _ (.mk' trivial (((((Turns.refl [] Y).trans D10 (by simp)).trans D17 (by simp)).trans D3 (by simp)).trans D13 (by simp))) ?_
          clear hK K
          try simp only [sI, sS, sZ]
          refine rkA 12 18 16383 (v := ?_) ?_ (.mk' trivial (((((Turns.refl [] Y).trans D10 (by simp)).trans D17 (by simp)).trans D3 (by simp)).trans D13 (by simp))) ?_
          rotate_left
          · intro W hS; go_simp; all_goals with_reducible rfl
          try simp only [sI, sS, sZ]
          refine rk1 14 32767 (fun K hK => ?_)
          refine wp_store_blk 29 _ _ (by rfl) p3 (by rfl) [.int .i64 L.next, .slice (some ⟨g10, 0, none⟩) L.opn.length L.opn.length, .slice A13 L.blks.length c13, .slice (some ⟨g17, 0, none⟩) nT nT] [.int .i64 0, .slice none 0 0, .slice none 0 0, .slice none 0 0] 29 (by rfl) (b3.turns ((Turns.refl [] X3).trans D13 (by simp)) (by simp)) rfl (size_led _ _ _ _) (by intro u hu; simp at hu; rcases hu with rfl | rfl | rfl | rfl <;> rfl) (fun X14 hb14 ht14 => ?_)
          have hyz := HQB.out.2.1.size
          obtain ⟨z1, z2⟩ := B10.out
          obtain ⟨z3, z4⟩ := B13.out
          obtain ⟨z5, z6⟩ := B17.out
          obtain ⟨z7, z8⟩ := B3.out
          have OC := ownC_mk (B := w1.heap.size) (L := L) (((O10.mono TxR.lasts (S' := fun b => g10 < b ∧ b < X10.heap.size) (fun k hk hk' => ⟨hk', hk⟩) (Nat.le_refl _)).keep TxR.lasts ((((Turns.refl [] X10).trans D17 (by simp)).trans D3 (by simp)).trans D13 (by simp)) (by simp) (by simp))) (own_v0 o13 (Turns.refl [] X13)) z3 (f17.on TxsR.lasts (((Turns.refl [] X17).trans D3 (by simp)).trans D13 (by simp)) (by simp) (by simp)) hb14 ht14 (by omega) (by omega)
          have TT : Turns [] w1 X14 := (HQB.out.2.1.trans (((((Turns.refl [] Y).trans D10 (by simp)).trans D17 (by simp)).trans D3 (by simp)).trans D13 (by simp)) (by simp)).trans ht14 (by intro x hx; simp at hx; exact .inr (by omega))
          refine hK _ _ (.p trivial) ?_
          clear hK K
          try simp only [sI, sS, sZ]
          refine rkZ ?_
          have HFX := Lib.hid (And.intro OC TT)
          go_wp2_with fail
          go_meet
          exact ⟨p3, g10, g17, _, rfl, HFX.out.1, HFX.out.2⟩
      · go_simp
        have b3 : Blk (X10.alloc (.cells #[.int .i64 0, .slice none 0 0, .slice none 0 0, .slice none 0 0] 29)) X10.heap.size [.int .i64 0, .slice none 0 0, .slice none 0 0, .slice none 0 0] 29 := Blk.new X10 [.int .i64 0, .slice none 0 0, .slice none 0 0, .slice none 0 0] _
        have D3 : Turns [] X10 (X10.alloc (.cells #[.int .i64 0, .slice none 0 0, .slice none 0 0, .slice none 0 0] 29)) := (Turns.refl _ _).alloc _
        have Z3 : (X10.alloc (.cells #[.int .i64 0, .slice none 0 0, .slice none 0 0, .slice none 0 0] 29)).heap.size = X10.heap.size + 1 := by simp
        obtain ⟨p3, hp3⟩ : ∃ g, g = X10.heap.size := ⟨_, rfl⟩
        rw [← hp3] at b3 ⊢
        generalize X10.alloc (.cells #[.int .i64 0, .slice none 0 0, .slice none 0 0, .slice none 0 0] 29) = X3 at b3 D3 Z3 ⊢
        have B3 := Lib.hid (And.intro hp3 Z3)
        clear hp3 Z3
        refine hK _ _ (.mk' trivial (((Turns.refl [] Y).trans D10 (by simp)).trans D3 (by simp))) ?_
        clear hK K
        try simp only [sI, sS, sZ]
        refine rk2 7 11 10239 12159 (fun K hK => ?_) (fun K hK => ?_)
        · go_simp
          refine (CloneBlo_any _ L.blks.length (bloCells L.blks) (bloCells_one _) X3 (((((Turns.refl [] Y).trans D10 (by simp)).trans D3 (by simp)).slice HD.out.1.blks.sl (Nat.le_refl _) (by simp)).more (((Turns.refl [] Y).trans D10 (by simp)).trans D3 (by simp)).size) HD.out.2.1.blks).mono ?_
          rintro e X13 ⟨v13, rfl, o13, D13⟩
          obtain ⟨A13, c13, rfl⟩ := own_formV o13
          have B13 := Lib.hid (And.intro (fun k hk => o13.lt k hk) D13.size)
          refine hK _ _ (.mk' trivial ((((Turns.refl [] Y).trans D10 (by simp)).trans D3 (by simp)).trans D13 (by simp))) ?_
          clear hK K
          try simp only [sI, sS, sZ]
          refine rk1 11 12287 (fun K hK => ?_)
          have hmk := run_make_ty TTxs nT (by omega) (by omega) X13
          have f17 : Fill TxsR (X13.alloc (.cells (madeCells (Value.slice none 0 0).cells (nT * 1)) 25)) (fun b => False) 1 X13.heap.size 25 nT 0 L.txs := Fill.start _ _ _ (size_madeCells _ _)
          have D17 : Turns [] X13 (X13.alloc (.cells (madeCells (Value.slice none 0 0).cells (nT * 1)) 25)) := (Turns.refl _ _).alloc _
          have Z17 : (X13.alloc (.cells (madeCells (Value.slice none 0 0).cells (nT * 1)) 25)).heap.size = X13.heap.size + 1 := by simp
          generalize X13.alloc (.cells (madeCells (Value.slice none 0 0).cells (nT * 1)) 25) = X17 at hmk f17 D17 Z17
          obtain ⟨g17, hg17⟩ : ∃ g, g = X13.heap.size := ⟨_, rfl⟩
          rw [← hg17] at hmk f17
          have B17 := Lib.hid (And.intro hg17 Z17)
          clear hg17 Z17
          go_simp
          clear hmk
          refine hK _ _ (.mk' trivial (((((Turns.refl [] Y).trans D10 (by simp)).trans D3 (by simp)).trans D13 (by simp)).trans D17 (by simp))) ?_
          clear hK K
          try simp only [sI, sS, sZ]
          refine rkA 12 18 16383 (v := ?_) ?_ (.mk' trivial (((((Turns.refl [] Y).trans D10 (by simp)).trans D3 (by simp)).trans D13 (by simp)).trans D17 (by simp))) ?_
          rotate_left
          · intro W hS; go_simp; all_goals with_reducible rfl
          try simp only [sI, sS, sZ]
          refine rk1 14 32767 (fun K hK => ?_)
          refine wp_store_blk 29 _ _ (by rfl) p3 (by rfl) [.int .i64 L.next, .slice (some ⟨g10, 0, none⟩) L.opn.length L.opn.length, .slice A13 L.blks.length c13, .slice (some ⟨g17, 0, none⟩) nT nT] [.int .i64 0, .slice none 0 0, .slice none 0 0, .slice none 0 0] 29 (by rfl) (b3.turns (((Turns.refl [] X3).trans D13 (by simp)).trans D17 (by simp)) (by simp)) rfl (size_led _ _ _ _) (by intro u hu; simp at hu; rcases hu with rfl | rfl | rfl | rfl <;> rfl) (fun X14 hb14 ht14 => ?_)
          have hyz := HQB.out.2.1.size
          obtain ⟨z1, z2⟩ := B10.out
          obtain ⟨z3, z4⟩ := B13.out
          obtain ⟨z5, z6⟩ := B17.out
          obtain ⟨z7, z8⟩ := B3.out
          have OC := ownC_mk (B := w1.heap.size) (L := L) (((O10.mono TxR.lasts (S' := fun b => g10 < b ∧ b < X10.heap.size) (fun k hk hk' => ⟨hk', hk⟩) (Nat.le_refl _)).keep TxR.lasts ((((Turns.refl [] X10).trans D3 (by simp)).trans D13 (by simp)).trans D17 (by simp)) (by simp) (by simp))) (own_v0 o13 ((Turns.refl [] X13).trans D17 (by simp))) z3 (f17.on TxsR.lasts (Turns.refl [] X17) (by simp) (by simp)) hb14 ht14 (by omega) (by omega)
          have TT : Turns [] w1 X14 := (HQB.out.2.1.trans (((((Turns.refl [] Y).trans D10 (by simp)).trans D3 (by simp)).trans D13 (by simp)).trans D17 (by simp)) (by simp)).trans ht14 (by intro x hx; simp at hx; exact .inr (by omega))
          refine hK _ _ (.p trivial) ?_
          clear hK K
          try simp only [sI, sS, sZ]
          refine rkZ ?_
          have HFX := Lib.hid (And.intro OC TT)
          go_wp2_with fail
          go_meet
          exact ⟨p3, g10, g17, _, rfl, HFX.out.1, HFX.out.2⟩
        · have hmk := run_make_ty TTxs nT (by omega) (by omega) X3
          have f17 : Fill TxsR (X3.alloc (.cells (madeCells (Value.slice none 0 0).cells (nT * 1)) 25)) (fun b => False) 1 X3.heap.size 25 nT 0 L.txs := Fill.start _ _ _ (size_madeCells _ _)
          have D17 : Turns [] X3 (X3.alloc (.cells (madeCells (Value.slice none 0 0).cells (nT * 1)) 25)) := (Turns.refl _ _).alloc _
          have Z17 : (X3.alloc (.cells (madeCells (Value.slice none 0 0).cells (nT * 1)) 25)).heap.size = X3.heap.size + 1 := by simp
          generalize X3.alloc (.cells (madeCells (Value.slice none 0 0).cells (nT * 1)) 25) = X17 at hmk f17 D17 Z17
          obtain ⟨g17, hg17⟩ : ∃ g, g = X3.heap.size := ⟨_, rfl⟩
          rw [← hg17] at hmk f17
          have B17 := Lib.hid (And.intro hg17 Z17)
          clear hg17 Z17
          go_simp
          clear hmk
          refine hK _ _ (.mk' trivial ((((Turns.refl [] Y).trans D10 (by simp)).trans D3 (by simp)).trans D17 (by simp))) ?_
          clear hK K
          try simp only [sI, sS, sZ]
          refine rk1 7 12287 (fun K hK => ?_)
          go_simp
          refine (CloneBlo_any _ L.blks.length (bloCells L.blks) (bloCells_one _) X17 ((((((Turns.refl [] Y).trans D10 (by simp)).trans D3 (by simp)).trans D17 (by simp)).slice HD.out.1.blks.sl (Nat.le_refl _) (by simp)).more ((((Turns.refl [] Y).trans D10 (by simp)).trans D3 (by simp)).trans D17 (by simp)).size) HD.out.2.1.blks).mono ?_
          rintro e X13 ⟨v13, rfl, o13, D13⟩
          obtain ⟨A13, c13, rfl⟩ := own_formV o13
          have B13 := Lib.hid (And.intro (fun k hk => o13.lt k hk) D13.size)
          refine hK _ _ (.mk' trivial (((((Turns.refl [] Y).trans D10 (by simp)).trans D3 (by simp)).trans D17 (by simp)).trans D13 (by simp))) ?_
          clear hK K
          try simp only [sI, sS, sZ]
          refine rkA 12 18 16383 (v := ?_) ?_ (.mk' trivial (((((Turns.refl [] Y).trans D10 (by simp)).trans D3 (by simp)).trans D17 (by simp)).trans D13 (by simp))) ?_
          rotate_left
          · intro W hS; go_simp; all_goals with_reducible rfl
          try simp only [sI, sS, sZ]
          refine rk1 14 32767 (fun K hK => ?_)
          refine wp_store_blk 29 _ _ (by rfl) p3 (by rfl) [.int .i64 L.next, .slice (some ⟨g10, 0, none⟩) L.opn.length L.opn.length, .slice A13 L.blks.length c13, .slice (some ⟨g17, 0, none⟩) nT nT] [.int .i64 0, .slice none 0 0, .slice none 0 0, .slice none 0 0] 29 (by rfl) (b3.turns (((Turns.refl [] X3).trans D17 (by simp)).trans D13 (by simp)) (by simp)) rfl (size_led _ _ _ _) (by intro u hu; simp at hu; rcases hu with rfl | rfl | rfl | rfl <;> rfl) (fun X14 hb14 ht14 => ?_)
          have hyz := HQB.out.2.1.size
          obtain ⟨z1, z2⟩ := B10.out
          obtain ⟨z3, z4⟩ := B13.out
          obtain ⟨z5, z6⟩ := B17.out
          obtain ⟨z7, z8⟩ := B3.out
          have OC := ownC_mk (B := w1.heap.size) (L := L) (((O10.mono TxR.lasts (S' := fun b => g10 < b ∧ b < X10.heap.size) (fun k hk hk' => ⟨hk', hk⟩) (Nat.le_refl _)).keep TxR.lasts ((((Turns.refl [] X10).trans D3 (by simp)).trans D17 (by simp)).trans D13 (by simp)) (by simp) (by simp))) (own_v0 o13 (Turns.refl [] X13)) z3 (f17.on TxsR.lasts ((Turns.refl [] X17).trans D13 (by simp)) (by simp) (by simp)) hb14 ht14 (by omega) (by omega)
          have TT : Turns [] w1 X14 := (HQB.out.2.1.trans (((((Turns.refl [] Y).trans D10 (by simp)).trans D3 (by simp)).trans D17 (by simp)).trans D13 (by simp)) (by simp)).trans ht14 (by intro x hx; simp at hx; exact .inr (by omega))
          refine hK _ _ (.p trivial) ?_
          clear hK K
          try simp only [sI, sS, sZ]
          refine rkZ ?_
          have HFX := Lib.hid (And.intro OC TT)
          go_wp2_with fail
          go_meet
          exact ⟨p3, g10, g17, _, rfl, HFX.out.1, HFX.out.2⟩
    · have hmk := run_make_ty TTxs nT (by omega) (by omega) Y
      have f17 : Fill TxsR (Y.alloc (.cells (madeCells (Value.slice none 0 0).cells (nT * 1)) 25)) (fun b => False) 1 Y.heap.size 25 nT 0 L.txs := Fill.start _ _ _ (size_madeCells _ _)
      have D17 : Turns [] Y (Y.alloc (.cells (madeCells (Value.slice none 0 0).cells (nT * 1)) 25)) := (Turns.refl _ _).alloc _
      have Z17 : (Y.alloc (.cells (madeCells (Value.slice none 0 0).cells (nT * 1)) 25)).heap.size = Y.heap.size + 1 := by simp
      generalize Y.alloc (.cells (madeCells (Value.slice none 0 0).cells (nT * 1)) 25) = X17 at hmk f17 D17 Z17
      obtain ⟨g17, hg17⟩ : ∃ g, g = Y.heap.size := ⟨_, rfl⟩
      rw [← hg17] at hmk f17
      have B17 := Lib.hid (And.intro hg17 Z17)
      clear hg17 Z17
      go_simp
      clear hmk
      refine hK _ _ (.mk' trivial ((Turns.refl [] Y).trans D17 (by simp))) ?_
      clear hK K
      try simp only [sI, sS, sZ]
      refine rk2 4 13 3967 12143 (fun K hK => ?_) (fun K hK => ?_)
      · go_simp
        refine (ownTxs_any L.opn HD.out.2.1.opn HD.out.2.1.otx _ S X17 (HD.out.1.opn.keep TxR.lasts (((Turns.refl [] Y).trans D17 (by simp)).keeps0 S))).mono ?_
        rintro e X10 ⟨g10, rfl, O10, D10⟩
        have B10 := Lib.hid (And.intro (O10.lt g10 rfl) D10.size)
        refine hK _ _ (.mk' trivial (((Turns.refl [] Y).trans D17 (by simp)).trans D10 (by simp))) ?_
        clear hK K
        try simp only [sI, sS, sZ]
        refine rk2 7 13 4095 12159 (fun K hK => ?_) (fun K hK => ?_)
        · go_simp
          refine (CloneBlo_any _ L.blks.length (bloCells L.blks) (bloCells_one _) X10 (((((Turns.refl [] Y).trans D17 (by simp)).trans D10 (by simp)).slice HD.out.1.blks.sl (Nat.le_refl _) (by simp)).more (((Turns.refl [] Y).trans D17 (by simp)).trans D10 (by simp)).size) HD.out.2.1.blks).mono ?_
          rintro e X13 ⟨v13, rfl, o13, D13⟩
          obtain ⟨A13, c13, rfl⟩ := own_formV o13
          have B13 := Lib.hid (And.intro (fun k hk => o13.lt k hk) D13.size)
          refine hK _ _ (.mk' trivial ((((Turns.refl [] Y).trans D17 (by simp)).trans D10 (by simp)).trans D13 (by simp))) ?_
          clear hK K
          try simp only [sI, sS, sZ]
          refine rkA 12 18 8191 (v := ?_) ?_ (.mk' trivial ((((Turns.refl [] Y).trans D17 (by simp)).trans D10 (by simp)).trans D13 (by simp))) ?_
          rotate_left
          · intro W hS; go_simp; all_goals with_reducible rfl
          try simp only [sI, sS, sZ]
          refine rk1 13 16383 (fun K hK => ?_)
          go_simp
          have b3 : Blk (X13.alloc (.cells #[.int .i64 0, .slice none 0 0, .slice none 0 0, .slice none 0 0] 29)) X13.heap.size [.int .i64 0, .slice none 0 0, .slice none 0 0, .slice none 0 0] 29 := Blk.new X13 [.int .i64 0, .slice none 0 0, .slice none 0 0, .slice none 0 0] _
          have D3 : Turns [] X13 (X13.alloc (.cells #[.int .i64 0, .slice none 0 0, .slice none 0 0, .slice none 0 0] 29)) := (Turns.refl _ _).alloc _
          have Z3 : (X13.alloc (.cells #[.int .i64 0, .slice none 0 0, .slice none 0 0, .slice none 0 0] 29)).heap.size = X13.heap.size + 1 := by simp
          obtain ⟨p3, hp3⟩ : ∃ g, g = X13.heap.size := ⟨_, rfl⟩
          rw [← hp3] at b3 ⊢
          generalize X13.alloc (.cells #[.int .i64 0, .slice none 0 0, .slice none 0 0, .slice none 0 0] 29) = X3 at b3 D3 Z3 ⊢
          have B3 := Lib.hid (And.intro hp3 Z3)
          clear hp3 Z3
          refine hK _ _ (.mk' trivial (((((Turns.refl [] Y).trans D17 (by simp)).trans D10 (by simp)).trans D13 (by simp)).trans D3 (by simp))) ?_
          clear hK K
          try simp only [sI, sS, sZ]
          refine rk1 14 32767 (fun K hK => ?_)
          refine wp_store_blk 29 _ _ (by rfl) p3 (by rfl) [.int .i64 L.next, .slice (some ⟨g10, 0, none⟩) L.opn.length L.opn.length, .slice A13 L.blks.length c13, .slice (some ⟨g17, 0, none⟩) nT nT] [.int .i64 0, .slice none 0 0, .slice none 0 0, .slice none 0 0] 29 (by rfl) (b3.turns (Turns.refl [] X3) (by simp)) rfl (size_led _ _ _ _) (by intro u hu; simp at hu; rcases hu with rfl | rfl | rfl | rfl <;> rfl) (fun X14 hb14 ht14 => ?_)
          have hyz := HQB.out.2.1.size
          obtain ⟨z1, z2⟩ := B10.out
          obtain ⟨z3, z4⟩ := B13.out
          obtain ⟨z5, z6⟩ := B17.out
          obtain ⟨z7, z8⟩ := B3.out
          have OC := ownC_mk (B := w1.heap.size) (L := L) (((O10.mono TxR.lasts (S' := fun b => g10 < b ∧ b < X10.heap.size) (fun k hk hk' => ⟨hk', hk⟩) (Nat.le_refl _)).keep TxR.lasts (((Turns.refl [] X10).trans D13 (by simp)).trans D3 (by simp)) (by simp) (by simp))) (own_v0 o13 ((Turns.refl [] X13).trans D3 (by simp))) z3 (f17.on TxsR.lasts ((((Turns.refl [] X17).trans D10 (by simp)).trans D13 (by simp)).trans D3 (by simp)) (by simp) (by simp)) hb14 ht14 (by omega) (by omega)
          have TT : Turns [] w1 X14 := (HQB.out.2.1.trans (((((Turns.refl [] Y).trans D17 (by simp)).trans D10 (by simp)).trans D13 (by simp)).trans D3 (by simp)) (by simp)).trans ht14 (by intro x hx; simp at hx; exact .inr (by omega))
          refine hK _ _ (.p trivial) ?_
          clear hK K
          try simp only [sI, sS, sZ]
          refine rkZ ?_
          have HFX := Lib.hid (And.intro OC TT)
          go_wp2_with fail
          go_meet
          exact ⟨p3, g10, g17, _, rfl, HFX.out.1, HFX.out.2⟩
        · go_simp
          have b3 : Blk (X10.alloc (.cells #[.int .i64 0, .slice none 0 0, .slice none 0 0, .slice none 0 0] 29)) X10.heap.size [.int .i64 0, .slice none 0 0, .slice none 0 0, .slice none 0 0] 29 := Blk.new X10 [.int .i64 0, .slice none 0 0, .slice none 0 0, .slice none 0 0] _
          have D3 : Turns [] X10 (X10.alloc (.cells #[.int .i64 0, .slice none 0 0, .slice none 0 0, .slice none 0 0] 29)) := (Turns.refl _ _).alloc _
          have Z3 : (X10.alloc (.cells #[.int .i64 0, .slice none 0 0, .slice none 0 0, .slice none 0 0] 29)).heap.size = X10.heap.size + 1 := by simp
          obtain ⟨p3, hp3⟩ : ∃ g, g = X10.heap.size := ⟨_, rfl⟩
          rw [← hp3] at b3 ⊢
          generalize X10.alloc (.cells #[.int .i64 0, .slice none 0 0, .slice none 0 0, .slice none 0 0] 29) = X3 at b3 D3 Z3 ⊢
          have B3 := Lib.hid (And.intro hp3 Z3)
          clear hp3 Z3
          refine hK _ _ (.mk' trivial ((((Turns.refl [] Y).trans D17 (by simp)).trans D10 (by simp)).trans D3 (by simp))) ?_
          clear hK K
          try simp only [sI, sS, sZ]
          refine rk1 7 12287 (fun K hK => ?_)
          go_simp
          refine (CloneBlo_any _ L.blks.length (bloCells L.blks) (bloCells_one _) X3 ((((((Turns.refl [] Y).trans D17 (by simp)).trans D10 (by simp)).trans D3 (by simp)).slice HD.out.1.blks.sl (Nat.le_refl _) (by simp)).more ((((Turns.refl [] Y).trans D17 (by simp)).trans D10 (by simp)).trans D3 (by simp)).size) HD.out.2.1.blks).mono ?_
          rintro e X13 ⟨v13, rfl, o13, D13⟩
          obtain ⟨A13, c13, rfl⟩ := own_formV o13
          have B13 := Lib.hid (And.intro (fun k hk => o13.lt k hk) D13.size)
          refine hK _ _ (.mk' trivial (((((Turns.refl [] Y).trans D17 (by simp)).trans D10 (by simp)).trans D3 (by simp)).trans D13 (by simp))) ?_
          clear hK K
          try simp only [sI, sS, sZ]
          refine rkA 12 18 16383 (v := ?_) ?_ (.mk' trivial (((((Turns.refl [] Y).trans D17 (by simp)).trans D10 (by simp)).trans D3 (by simp)).trans D13 (by simp))) ?_
          rotate_left
          · intro W hS; go_simp; all_goals with_reducible rfl
          try simp only [sI, sS, sZ]
          refine rk1 14 32767 (fun K hK => ?_)
          refine wp_store_blk 29 _ _ (by rfl) p3 (by rfl) [.int .i64 L.next, .slice (some ⟨g10, 0, none⟩) L.opn.length L.opn.length, .slice A13 L.blks.length c13, .slice (some ⟨g17, 0, none⟩) nT nT] [.int .i64 0, .slice none 0 0, .slice none 0 0, .slice none 0 0] 29 (by rfl) (b3.turns ((Turns.refl [] X3).trans D13 (by simp)) (by simp)) rfl (size_led _ _ _ _) (by intro u hu; simp at hu; rcases hu with rfl | rfl | rfl | rfl <;> rfl) (fun X14 hb14 ht14 => ?_)
          have hyz := HQB.out.2.1.size
          obtain ⟨z1, z2⟩ := B10.out
          obtain ⟨z3, z4⟩ := B13.out
          obtain ⟨z5, z6⟩ := B17.out
          obtain ⟨z7, z8⟩ := B3.out
          have OC := ownC_mk (B := w1.heap.size) (L := L) (((O10.mono TxR.lasts (S' := fun b => g10 < b ∧ b < X10.heap.size) (fun k hk hk' => ⟨hk', hk⟩) (Nat.le_refl _)).keep TxR.lasts (((Turns.refl [] X10).trans D3 (by simp)).trans D13 (by simp)) (by simp) (by simp))) (own_v0 o13 (Turns.refl [] X13)) z3 (f17.on TxsR.lasts ((((Turns.refl [] X17).trans D10 (by simp)).trans D3 (by simp)).trans D13 (by simp)) (by simp) (by simp)) hb14 ht14 (by omega) (by omega)
          have TT : Turns [] w1 X14 := (HQB.out.2.1.trans (((((Turns.refl [] Y).trans D17 (by simp)).trans D10 (by simp)).trans D3 (by simp)).trans D13 (by simp)) (by simp)).trans ht14 (by intro x hx; simp at hx; exact .inr (by omega))
          refine hK _ _ (.p trivial) ?_
          clear hK K
          try simp only [sI, sS, sZ]
          refine rkZ ?_
          have HFX := Lib.hid (And.intro OC TT)
          go_wp2_with fail
          go_meet
          exact ⟨p3, g10, g17, _, rfl, HFX.out.1, HFX.out.2⟩
      · go_simp
        have b3 : Blk (X17.alloc (.cells #[.int .i64 0, .slice none 0 0, .slice none 0 0, .slice none 0 0] 29)) X17.heap.size [.int .i64 0, .slice none 0 0, .slice none 0 0, .slice none 0 0] 29 := Blk.new X17 [.int .i64 0, .slice none 0 0, .slice none 0 0, .slice none 0 0] _
        have D3 : Turns [] X17 (X17.alloc (.cells #[.int .i64 0, .slice none 0 0, .slice none 0 0, .slice none 0 0] 29)) := (Turns.refl _ _).alloc _
        have Z3 : (X17.alloc (.cells #[.int .i64 0, .slice none 0 0, .slice none 0 0, .slice none 0 0] 29)).heap.size = X17.heap.size + 1 := by simp
        obtain ⟨p3, hp3⟩ : ∃ g, g = X17.heap.size := ⟨_, rfl⟩
        rw [← hp3] at b3 ⊢
        generalize X17.alloc (.cells #[.int .i64 0, .slice none 0 0, .slice none 0 0, .slice none 0 0] 29) = X3 at b3 D3 Z3 ⊢
        have B3 := Lib.hid (And.intro hp3 Z3)
        clear hp3 Z3
        refine hK _ _ (.mk' trivial (((Turns.refl [] Y).trans D17 (by simp)).trans D3 (by simp))) ?_
        clear hK K
        try simp only [sI, sS, sZ]
        refine rk1 4 12159 (fun K hK => ?_)
        go_simp
        refine (ownTxs_any L.opn HD.out.2.1.opn HD.out.2.1.otx _ S X3 (HD.out.1.opn.keep TxR.lasts ((((Turns.refl [] Y).trans D17 (by simp)).trans D3 (by simp)).keeps0 S))).mono ?_
        rintro e X10 ⟨g10, rfl, O10, D10⟩
        have B10 := Lib.hid (And.intro (O10.lt g10 rfl) D10.size)
        refine hK _ _ (.mk' trivial ((((Turns.refl [] Y).trans D17 (by simp)).trans D3 (by simp)).trans D10 (by simp))) ?_
        clear hK K
        try simp only [sI, sS, sZ]
        refine rk1 7 12287 (fun K hK => ?_)
        go_simp
        refine (CloneBlo_any _ L.blks.length (bloCells L.blks) (bloCells_one _) X10 ((((((Turns.refl [] Y).trans D17 (by simp)).trans D3 (by simp)).trans D10 (by simp)).slice HD.out.1.blks.sl (Nat.le_refl _) (by simp)).more ((((Turns.refl [] Y).trans D17 (by simp)).trans D3 (by simp)).trans D10 (by simp)).size) HD.out.2.1.blks).mono ?_
        rintro e X13 ⟨v13, rfl, o13, D13⟩
        obtain ⟨A13, c13, rfl⟩ := own_formV o13
        have B13 := Lib.hid (And.intro (fun k hk => o13.lt k hk) D13.size)
        refine hK _ _ (.mk' trivial (((((Turns.refl [] Y).trans D17 (by simp)).trans D3 (by simp)).trans D10 (by simp)).trans D13 (by simp))) ?_
        clear hK K
        try simp only [sI, sS, sZ]
        refine rkA 12 18 16383 (v := ?_) ?_ (.mk' trivial (((((Turns.refl [] Y).trans D17 (by simp)).trans D3 (by simp)).trans D10 (by simp)).trans D13 (by simp))) ?_
        rotate_left
        · intro W hS; go_simp; all_goals with_reducible rfl
        try simp only [sI, sS, sZ]
        refine rk1 14 32767 (fun K hK => ?_)
        refine wp_store_blk 29 _ _ (by rfl) p3 (by rfl) [.int .i64 L.next, .slice (some ⟨g10, 0, none⟩) L.opn.length L.opn.length, .slice A13 L.blks.length c13, .slice (some ⟨g17, 0, none⟩) nT nT] [.int .i64 0, .slice none 0 0, .slice none 0 0, .slice none 0 0] 29 (by rfl) (b3.turns (((Turns.refl [] X3).trans D10 (by simp)).trans D13 (by simp)) (by simp)) rfl (size_led _ _ _ _) (by intro u hu; simp at hu; rcases hu with rfl | rfl | rfl | rfl <;> rfl) (fun X14 hb14 ht14 => ?_)
        have hyz := HQB.out.2.1.size
        obtain ⟨z1, z2⟩ := B10.out
        obtain ⟨z3, z4⟩ := B13.out
        obtain ⟨z5, z6⟩ := B17.out
        obtain ⟨z7, z8⟩ := B3.out
        have OC := ownC_mk (B := w1.heap.size) (L := L) (((O10.mono TxR.lasts (S' := fun b => g10 < b ∧ b < X10.heap.size) (fun k hk hk' => ⟨hk', hk⟩) (Nat.le_refl _)).keep TxR.lasts ((Turns.refl [] X10).trans D13 (by simp)) (by simp) (by simp))) (own_v0 o13 (Turns.refl [] X13)) z3 (f17.on TxsR.lasts ((((Turns.refl [] X17).trans D3 (by simp)).trans D10 (by simp)).trans D13 (by simp)) (by simp) (by simp)) hb14 ht14 (by omega) (by omega)
        have TT : Turns [] w1 X14 := (HQB.out.2.1.trans (((((Turns.refl [] Y).trans D17 (by simp)).trans D3 (by simp)).trans D10 (by simp)).trans D13 (by simp)) (by simp)).trans ht14 (by intro x hx; simp at hx; exact .inr (by omega))
        refine hK _ _ (.p trivial) ?_
        clear hK K
        try simp only [sI, sS, sZ]
        refine rkZ ?_
        have HFX := Lib.hid (And.intro OC TT)
        go_wp2_with fail
        go_meet
        exact ⟨p3, g10, g17, _, rfl, HFX.out.1, HFX.out.2⟩
    · go_simp
      have b3 : Blk (Y.alloc (.cells #[.int .i64 0, .slice none 0 0, .slice none 0 0, .slice none 0 0] 29)) Y.heap.size [.int .i64 0, .slice none 0 0, .slice none 0 0, .slice none 0 0] 29 := Blk.new Y [.int .i64 0, .slice none 0 0, .slice none 0 0, .slice none 0 0] _
      have D3 : Turns [] Y (Y.alloc (.cells #[.int .i64 0, .slice none 0 0, .slice none 0 0, .slice none 0 0] 29)) := (Turns.refl _ _).alloc _
      have Z3 : (Y.alloc (.cells #[.int .i64 0, .slice none 0 0, .slice none 0 0, .slice none 0 0] 29)).heap.size = Y.heap.size + 1 := by simp
      obtain ⟨p3, hp3⟩ : ∃ g, g = Y.heap.size := ⟨_, rfl⟩
      rw [← hp3] at b3 ⊢
      generalize Y.alloc (.cells #[.int .i64 0, .slice none 0 0, .slice none 0 0, .slice none 0 0] 29) = X3 at b3 D3 Z3 ⊢
      have B3 := Lib.hid (And.intro hp3 Z3)
      clear hp3 Z3
      refine hK _ _ (.mk' trivial ((Turns.refl [] Y).trans D3 (by simp))) ?_
      clear hK K
      try simp only [sI, sS, sZ]
      refine rk2 4 11 10111 12143 (fun K hK => ?_) (fun K hK => ?_)
      · go_simp
        refine (ownTxs_any L.opn HD.out.2.1.opn HD.out.2.1.otx _ S X3 (HD.out.1.opn.keep TxR.lasts (((Turns.refl [] Y).trans D3 (by simp)).keeps0 S))).mono ?_
        rintro e X10 ⟨g10, rfl, O10, D10⟩
        have B10 := Lib.hid (And.intro (O10.lt g10 rfl) D10.size)
        refine hK _ _ (.mk' trivial (((Turns.refl [] Y).trans D3 (by simp)).trans D10 (by simp))) ?_
        clear hK K
        try simp only [sI, sS, sZ]
        refine rk2 7 11 10239 12159 (fun K hK => ?_) (fun K hK => ?_)
        · go_simp
          refine (CloneBlo_any _ L.blks.length (bloCells L.blks) (bloCells_one _) X10 (((((Turns.refl [] Y).trans D3 (by simp)).trans D10 (by simp)).slice HD.out.1.blks.sl (Nat.le_refl _) (by simp)).more (((Turns.refl [] Y).trans D3 (by simp)).trans D10 (by simp)).size) HD.out.2.1.blks).mono ?_
          rintro e X13 ⟨v13, rfl, o13, D13⟩
          obtain ⟨A13, c13, rfl⟩ := own_formV o13
          have B13 := Lib.hid (And.intro (fun k hk => o13.lt k hk) D13.size)
          refine hK _ _ (.mk' trivial ((((Turns.refl [] Y).trans D3 (by simp)).trans D10 (by simp)).trans D13 (by simp))) ?_
          clear hK K
          try simp only [sI, sS, sZ]
          refine rk1 11 12287 (fun K hK => ?_)
          have hmk := run_make_ty TTxs nT (by omega) (by omega) X13
          have f17 : Fill TxsR (X13.alloc (.cells (madeCells (Value.slice none 0 0).cells (nT * 1)) 25)) (fun b => False) 1 X13.heap.size 25 nT 0 L.txs := Fill.start _ _ _ (size_madeCells _ _)
          have D17 : Turns [] X13 (X13.alloc (.cells (madeCells (Value.slice none 0 0).cells (nT * 1)) 25)) := (Turns.refl _ _).alloc _
          have Z17 : (X13.alloc (.cells (madeCells (Value.slice none 0 0).cells (nT * 1)) 25)).heap.size = X13.heap.size + 1 := by simp
          generalize X13.alloc (.cells (madeCells (Value.slice none 0 0).cells (nT * 1)) 25) = X17 at hmk f17 D17 Z17
          obtain ⟨g17, hg17⟩ : ∃ g, g = X13.heap.size := ⟨_, rfl⟩
          rw [← hg17] at hmk f17
          have B17 := Lib.hid (And.intro hg17 Z17)
          clear hg17 Z17
          go_simp
          clear hmk
          refine hK _ _ (.mk' trivial (((((Turns.refl [] Y).trans D3 (by simp)).trans D10 (by simp)).trans D13 (by simp)).trans D17 (by simp))) ?_
          clear hK K
          try simp only [sI, sS, sZ]
          refine rkA 12 18 16383 (v := ?_) ?_ (.mk' trivial (((((Turns.refl [] Y).trans D3 (by simp)).trans D10 (by simp)).trans D13 (by simp)).trans D17 (by simp))) ?_
          rotate_left
          · intro W hS; go_simp; all_goals with_reducible rfl
          try simp only [sI, sS, sZ]
          refine rk1 14 32767 (fun K hK => ?_)
          refine wp_store_blk 29 _ _ (by rfl) p3 (by rfl) [.int .i64 L.next, .slice (some ⟨g10, 0, none⟩) L.opn.length L.opn.length, .slice A13 L.blks.length c13, .slice (some ⟨g17, 0, none⟩) nT nT] [.int .i64 0, .slice none 0 0, .slice none 0 0, .slice none 0 0] 29 (by rfl) (b3.turns ((((Turns.refl [] X3).trans D10 (by simp)).trans D13 (by simp)).trans D17 (by simp)) (by simp)) rfl (size_led _ _ _ _) (by intro u hu; simp at hu; rcases hu with rfl | rfl | rfl | rfl <;> rfl) (fun X14 hb14 ht14 => ?_)
          have hyz := HQB.out.2.1.size
          obtain ⟨z1, z2⟩ := B10.out
          obtain ⟨z3, z4⟩ := B13.out
          obtain ⟨z5, z6⟩ := B17.out
          obtain ⟨z7, z8⟩ := B3.out
          have OC := ownC_mk (B := w1.heap.size) (L := L) (((O10.mono TxR.lasts (S' := fun b => g10 < b ∧ b < X10.heap.size) (fun k hk hk' => ⟨hk', hk⟩) (Nat.le_refl _)).keep TxR.lasts (((Turns.refl [] X10).trans D13 (by simp)).trans D17 (by simp)) (by simp) (by simp))) (own_v0 o13 ((Turns.refl [] X13).trans D17 (by simp))) z3 (f17.on TxsR.lasts (Turns.refl [] X17) (by simp) (by simp)) hb14 ht14 (by omega) (by omega)
          have TT : Turns [] w1 X14 := (HQB.out.2.1.trans (((((Turns.refl [] Y).trans D3 (by simp)).trans D10 (by simp)).trans D13 (by simp)).trans D17 (by simp)) (by simp)).trans ht14 (by intro x hx; simp at hx; exact .inr (by omega))
          refine hK _ _ (.p trivial) ?_
          clear hK K
          try simp only [sI, sS, sZ]
          refine rkZ ?_
          have HFX := Lib.hid (And.intro OC TT)
          go_wp2_with fail
          go_meet
          exact ⟨p3, g10, g17, _, rfl, HFX.out.1, HFX.out.2⟩
        · have hmk := run_make_ty TTxs nT (by omega) (by omega) X10
          have f17 : Fill TxsR (X10.alloc (.cells (madeCells (Value.slice none 0 0).cells (nT * 1)) 25)) (fun b => False) 1 X10.heap.size 25 nT 0 L.txs := Fill.start _ _ _ (size_madeCells _ _)
          have D17 : Turns [] X10 (X10.alloc (.cells (madeCells (Value.slice none 0 0).cells (nT * 1)) 25)) := (Turns.refl _ _).alloc _
          have Z17 : (X10.alloc (.cells (madeCells (Value.slice none 0 0).cells (nT * 1)) 25)).heap.size = X10.heap.size + 1 := by simp
          generalize X10.alloc (.cells (madeCells (Value.slice none 0 0).cells (nT * 1)) 25) = X17 at hmk f17 D17 Z17
          obtain ⟨g17, hg17⟩ : ∃ g, g = X10.heap.size := ⟨_, rfl⟩
          rw [← hg17] at hmk f17
          have B17 := Lib.hid (And.intro hg17 Z17)
          clear hg17 Z17
          go_simp
          clear hmk
          refine hK _ _ (.mk' trivial ((((Turns.refl [] Y).trans D3 (by simp)).trans D10 (by simp)).trans D17 (by simp))) ?_
          clear hK K
          try simp only [sI, sS, sZ]
          refine rk1 7 12287 (fun K hK => ?_)
          go_simp
          refine (CloneBlo_any _ L.blks.length (bloCells L.blks) (bloCells_one _) X17 ((((((Turns.refl [] Y).trans D3 (by simp)).trans D10 (by simp)).trans D17 (by simp)).slice HD.out.1.blks.sl (Nat.le_refl _) (by simp)).more ((((Turns.refl [] Y).trans D3 (by simp)).trans D10 (by simp)).trans D17 (by simp)).size) HD.out.2.1.blks).mono ?_
          rintro e X13 ⟨v13, rfl, o13, D13⟩
          obtain ⟨A13, c13, rfl⟩ := own_formV o13
          have B13 := Lib.hid (And.intro (fun k hk => o13.lt k hk) D13.size)
          refine hK _ _ (.mk' trivial (((((Turns.refl [] Y).trans D3 (by simp)).trans D10 (by simp)).trans D17 (by simp)).trans D13 (by simp))) ?_
          clear hK K
          try simp only [sI, sS, sZ]
          refine rkA 12 18 16383 (v := ?_) ?_ (.mk' trivial (((((Turns.refl [] Y).trans D3 (by simp)).trans D10 (by simp)).trans D17 (by simp)).trans D13 (by simp))) ?_
          rotate_left
          · intro W hS; go_simp; all_goals with_reducible rfl
          try simp only [sI, sS, sZ]
          refine rk1 14 32767 (fun K hK => ?_)
          refine wp_store_blk 29 _ _ (by rfl) p3 (by rfl) [.int .i64 L.next, .slice (some ⟨g10, 0, none⟩) L.opn.length L.opn.length, .slice A13 L.blks.length c13, .slice (some ⟨g17, 0, none⟩) nT nT] [.int .i64 0, .slice none 0 0, .slice none 0 0, .slice none 0 0] 29 (by rfl) (b3.turns ((((Turns.refl [] X3).trans D10 (by simp)).trans D17 (by simp)).trans D13 (by simp)) (by simp)) rfl (size_led _ _ _ _) (by intro u hu; simp at hu; rcases hu with rfl | rfl | rfl | rfl <;> rfl) (fun X14 hb14 ht14 => ?_)
          have hyz := HQB.out.2.1.size
          obtain ⟨z1, z2⟩ := B10.out
          obtain ⟨z3, z4⟩ := B13.out
          obtain ⟨z5, z6⟩ := B17.out
          obtain ⟨z7, z8⟩ := B3.out
          have OC := ownC_mk (B := w1.heap.size) (L := L) (((O10.mono TxR.lasts (S' := fun b => g10 < b ∧ b < X10.heap.size) (fun k hk hk' => ⟨hk', hk⟩) (Nat.le_refl _)).keep TxR.lasts (((Turns.refl [] X10).trans D17 (by simp)).trans D13 (by simp)) (by simp) (by simp))) (own_v0 o13 (Turns.refl [] X13)) z3 (f17.on TxsR.lasts ((Turns.refl [] X17).trans D13 (by simp)) (by simp) (by simp)) hb14 ht14 (by omega) (by omega)
          have TT : Turns [] w1 X14 := (HQB.out.2.1.trans (((((Turns.refl [] Y).trans D3 (by simp)).trans D10 (by simp)).trans D17 (by simp)).trans D13 (by simp)) (by simp)).trans ht14 (by intro x hx; simp at hx; exact .inr (by omega))
          refine hK _ _ (.p trivial) ?_
          clear hK K
          try simp only [sI, sS, sZ]
          refine rkZ ?_
          have HFX := Lib.hid (And.intro OC TT)
          go_wp2_with fail
          go_meet
          exact ⟨p3, g10, g17, _, rfl, HFX.out.1, HFX.out.2⟩
      · have hmk := run_make_ty TTxs nT (by omega) (by omega) X3
        have f17 : Fill TxsR (X3.alloc (.cells (madeCells (Value.slice none 0 0).cells (nT * 1)) 25)) (fun b => False) 1 X3.heap.size 25 nT 0 L.txs := Fill.start _ _ _ (size_madeCells _ _)
        have D17 : Turns [] X3 (X3.alloc (.cells (madeCells (Value.slice none 0 0).cells (nT * 1)) 25)) := (Turns.refl _ _).alloc _
        have Z17 : (X3.alloc (.cells (madeCells (Value.slice none 0 0).cells (nT * 1)) 25)).heap.size = X3.heap.size + 1 := by simp
        generalize X3.alloc (.cells (madeCells (Value.slice none 0 0).cells (nT * 1)) 25) = X17 at hmk f17 D17 Z17
        obtain ⟨g17, hg17⟩ : ∃ g, g = X3.heap.size := ⟨_, rfl⟩
        rw [← hg17] at hmk f17
        have B17 := Lib.hid (And.intro hg17 Z17)
        clear hg17 Z17
        go_simp
        clear hmk
        refine hK _ _ (.mk' trivial (((Turns.refl [] Y).trans D3 (by simp)).trans D17 (by simp))) ?_
        clear hK K
        try simp only [sI, sS, sZ]
        refine rk1 4 12159 (fun K hK => ?_)
        go_simp
        refine (ownTxs_any L.opn HD.out.2.1.opn HD.out.2.1.otx _ S X17 (HD.out.1.opn.keep TxR.lasts ((((Turns.refl [] Y).trans D3 (by simp)).trans D17 (by simp)).keeps0 S))).mono ?_
        rintro e X10 ⟨g10, rfl, O10, D10⟩
        have B10 := Lib.hid (And.intro (O10.lt g10 rfl) D10.size)
        refine hK _ _ (.mk' trivial ((((Turns.refl [] Y).trans D3 (by simp)).trans D17 (by simp)).trans D10 (by simp))) ?_
        clear hK K
        try simp only [sI, sS, sZ]
        refine rk1 7 12287 (fun K hK => ?_)
        go_simp
        refine (CloneBlo_any _ L.blks.length (bloCells L.blks) (bloCells_one _) X10 ((((((Turns.refl [] Y).trans D3 (by simp)).trans D17 (by simp)).trans D10 (by simp)).slice HD.out.1.blks.sl (Nat.le_refl _) (by simp)).more ((((Turns.refl [] Y).trans D3 (by simp)).trans D17 (by simp)).trans D10 (by simp)).size) HD.out.2.1.blks).mono ?_
        rintro e X13 ⟨v13, rfl, o13, D13⟩
        obtain ⟨A13, c13, rfl⟩ := own_formV o13
        have B13 := Lib.hid (And.intro (fun k hk => o13.lt k hk) D13.size)
        refine hK _ _ (.mk' trivial (((((Turns.refl [] Y).trans D3 (by simp)).trans D17 (by simp)).trans D10 (by simp)).trans D13 (by simp))) ?_
        clear hK K
        try simp only [sI, sS, sZ]
        refine rkA 12 18 16383 (v := ?_) ?_ (.mk' trivial (((((Turns.refl [] Y).trans D3 (by simp)).trans D17 (by simp)).trans D10 (by simp)).trans D13 (by simp))) ?_
        rotate_left
        · intro W hS; go_simp; all_goals with_reducible rfl
        try simp only [sI, sS, sZ]
        refine rk1 14 32767 (fun K hK => ?_)
        refine wp_store_blk 29 _ _ (by rfl) p3 (by rfl) [.int .i64 L.next, .slice (some ⟨g10, 0, none⟩) L.opn.length L.opn.length, .slice A13 L.blks.length c13, .slice (some ⟨g17, 0, none⟩) nT nT] [.int .i64 0, .slice none 0 0, .slice none 0 0, .slice none 0 0] 29 (by rfl) (b3.turns ((((Turns.refl [] X3).trans D17 (by simp)).trans D10 (by simp)).trans D13 (by simp)) (by simp)) rfl (size_led _ _ _ _) (by intro u hu; simp at hu; rcases hu with rfl | rfl | rfl | rfl <;> rfl) (fun X14 hb14 ht14 => ?_)
        have hyz := HQB.out.2.1.size
        obtain ⟨z1, z2⟩ := B10.out
        obtain ⟨z3, z4⟩ := B13.out
        obtain ⟨z5, z6⟩ := B17.out
        obtain ⟨z7, z8⟩ := B3.out
        have OC := ownC_mk (B := w1.heap.size) (L := L) (((O10.mono TxR.lasts (S' := fun b => g10 < b ∧ b < X10.heap.size) (fun k hk hk' => ⟨hk', hk⟩) (Nat.le_refl _)).keep TxR.lasts ((Turns.refl [] X10).trans D13 (by simp)) (by simp) (by simp))) (own_v0 o13 (Turns.refl [] X13)) z3 (f17.on TxsR.lasts (((Turns.refl [] X17).trans D10 (by simp)).trans D13 (by simp)) (by simp) (by simp)) hb14 ht14 (by omega) (by omega)
        have TT : Turns [] w1 X14 := (HQB.out.2.1.trans (((((Turns.refl [] Y).trans D3 (by simp)).trans D17 (by simp)).trans D10 (by simp)).trans D13 (by simp)) (by simp)).trans ht14 (by intro x hx; simp at hx; exact .inr (by omega))
        refine hK _ _ (.p trivial) ?_
        clear hK K
        try simp only [sI, sS, sZ]
        refine rkZ ?_
        have HFX := Lib.hid (And.intro OC TT)
        go_wp2_with fail
        go_meet
        exact ⟨p3, g10, g17, _, rfl, HFX.out.1, HFX.out.2⟩
  case rest =>
    obtain ⟨p3, gO, gT, bv, rfl, oc, tx⟩ := hcut
    clear C0 C1 C2 C3 S0
    have c3 := (HPB.out.turns tx (by simp)).cell 3
    simp only [List.getElem?_cons_zero, List.getElem?_cons_succ] at c3
    have HX := Lib.hid tx
    have HOC := Lib.hid oc
    clear tx oc
    go_wp2_with fail
    go_loopw [4, 5, 22] (fun j y i wr => ∃ k : Nat, k ≤ nT ∧ i = .int .i64 k ∧ OwnC w1.heap.size wr p3 gT (.slice (some ⟨gO, 0, none⟩) L.opn.length L.opn.length) bv L nT k ∧ Turns [] w1 wr) (fun _ _ i _ => nT - (intOf i).toNat)
    case atStart => exact ⟨0, by omega, rfl, HOC.out, HX.out⟩
    case round =>
      obtain ⟨k, hk, rfl, oc, tx⟩ := hrel
      have tw : Turns [] w0 wr := HT0.out.2.trans tx (by simp)
      by_cases hlt : k < nT
      · have hki : (k : Int) < (nT : Int) := by omega
        have hkl : k < L.txs.length := by have := HNT.out; omega
        obtain ⟨b, off, cc, cs, hv, hS, hb, hcl, rg0, hR0⟩ := HD.out.2.2.txs.at_ (by omega) k hkl
        injection hv with e1 e2 e3
        subst e1 e3
        clear e2
        obtain ⟨xv, rfl, hx0⟩ := hR0
        obtain ⟨Ax, cx, rfl, _⟩ := hx0.form
        have c1 := (rangeV tw rg0) 0 _ rfl
        rw [Nat.mul_one, Nat.add_zero] at c1
        obtain ⟨Z, hZ⟩ : ∃ q, q = wr.drew := ⟨_, rfl⟩
        have tZ : Turns [] wr Z := by rw [hZ]; exact (Turns.refl _ _).drew
        have HZZ := Lib.hid hZ
        have oz := oc.on tZ
        have tzw := tx.trans tZ (by simp)
        have HHZ := Lib.hid (And.intro oz tzw)
        have HXV := Lib.hid (hx0.keep TxR.lasts ((HT0.out.2.trans tzw (by simp)).keeps0 S))
        have K3 := oz.v.cell 3
        simp only [List.getElem?_cons_zero, List.getElem?_cons_succ] at K3
        have S0 : Turns [] Z Z := Turns.refl _ _
        clear oc tx tw hb hcl rg0 hx0 hZ tZ oz tzw
        go_upto_region 5 with fail
        refine rk0 (fun _ => True) (fun W => Turns [] Z W) 6 7 ?_
        rw [← HZZ.out]
        refine rkA 0 27 1 (v := ?_) ?_ (.mk' trivial S0) ?_
        rotate_left
        · intro W hS; go_simp; all_goals with_reducible rfl
        try simp only [sI, sS, sZ]
        refine rkT 1 28 3 (v := ?_) ?_ (.mk' trivial S0) ?_
        rotate_left
        · rintro W ⟨-, hS⟩; have c0 := cellL hS K3 (by simp); go_simp; all_goals with_reducible rfl
        try simp only [sI, sS, sZ]
        refine rkA 2 29 7 (v := ?_) ?_ (.mk' trivial S0) ?_
        rotate_left
        · intro W hS; go_simp; all_goals with_reducible rfl
        try simp only [sI, sS, sZ]
        refine rkA 3 30 15 (v := ?_) ?_ (.mk' trivial S0) ?_
        rotate_left
        · intro W hS; go_simp; all_goals with_reducible rfl
        try simp only [sI, sS, sZ]
        refine rk1 4 31 (fun K hK => ?_)
        go_simp
        refine (ownTxs_any L.txs[k] (HD.out.2.1.tl _ (List.getElem_mem hkl)) (HD.out.2.1.tt _ (List.getElem_mem hkl)) _ S Z HXV.out).mono ?_
        rintro e X31 ⟨g31, rfl, O31, D31⟩
        have B31 := O31.lt g31 rfl
        have oz := HHZ.out.1
        have hz1 := fun j hj => oz.opn.lt j hj
        have hz2 := fun j hj => oz.blks.lt j hj
        have hz3 := oz.txs.lt
        have hz4 := oz.v.lt
        have hzs := HHZ.out.2.size
        have on := oz.on D31
        have th := on.txs.there hlt
        rw [Nat.mul_one] at th
        obtain ⟨kc, kz⟩ := th 0 (by omega)
        rw [Nat.add_zero] at kc kz
        obtain ⟨uo, kc⟩ := Option.isSome_iff_exists.1 kc
        have f9 := on.put (c := Z.heap.size) (x := .slice (some ⟨g31, 0, none⟩) L.txs[k].length L.txs[k].length) hlt hkl (O31.deep TxR.lasts (fun j _ hj => by omega) (fun j hj => (O31.lt j hj).1)) (fun j hj => (hz1 j hj).2) (fun j hj => (hz2 j hj).2) hz3 hz4 hzs
        have t9 : Turns [] w1 (X31.setCell ⟨gT, k, none⟩ (.slice (some ⟨g31, 0, none⟩) L.txs[k].length L.txs[k].length)) := (HHZ.out.2.trans D31 (by simp)).setCell (.inr oz.ne.2.1) _
        have HFIN := Lib.hid (And.intro f9 t9)
        clear f9 t9 on hz1 hz2 hz3 hz4 hzs oz O31 B31 th
        refine hK _ _ (.mk' trivial D31) ?_
        clear hK K
        try simp only [sI, sS, sZ]
        refine rkA 5 32 63 (v := ?_) ?_ (.mk' trivial D31) ?_
        rotate_left
        · intro W hS; go_simp; all_goals with_reducible rfl
        try simp only [sI, sS, sZ]
        refine rk1 6 127 (fun K hK => ?_)
        go_simp
        refine hK _ _ (.p trivial) ?_
        clear hK K
        try simp only [sI, sS, sZ]
        refine rkZ ?_
        clear K3 S0 c1
        go_wp2_with fail
        go_roundw
        case rel => exact ⟨k + 1, by omega, by go_num, HFIN.out.1, HFIN.out.2⟩
        case measure => (simp [intOf] <;> omega)
      · obtain rfl : k = nT := by omega
        have r3 := oc.v.all
        have hz3 := size_led (.int .i64 L.next) (.slice (some ⟨gO, 0, none⟩) L.opn.length L.opn.length) bv (.slice (some ⟨gT, 0, none⟩) k k)
        obtain ⟨Ab2, cb2, rfl⟩ := own_formV oc.blks
        have HOX := Lib.hid (And.intro (oc.done HNT.out (by simp only [maxLen]; omega)) (And.intro oc.ne tw))
        have HBQ := Lib.hid (HQB.out.1.turns tx (by simp))
        have hQR := Lib.hid HQB.out.2.2
        clear oc tx tw c3
        go_wp2_with (first
          | (refine wpList_load_mid rfl 29 (.tmp 3) rfl p3 0 rfl _ _ r3 Tryz.underlying29 rfl hz3 ?_)
          | (refine wpList_store_blk rfl 29 (.tmp 2) (.tmp 34) rfl q (by kernel_rfl) [.int .i64 L.next, .slice (some ⟨gO, 0, none⟩) L.opn.length L.opn.length, .slice Ab2 L.blks.length cb2, .slice (some ⟨gT, 0, none⟩) k k] [.int .i64 0, .slice none 0 0, .slice none 0 0, .slice none 0 0] 29 (by kernel_rfl) HBQ.out rfl hz3 (by intro u hu; simp at hu; rcases hu with rfl | rfl | rfl | rfl <;> rfl) (fun w9 hb9 ht9 hs9 => ?_); have HQ9 := Lib.hid (And.intro hb9 ht9); clear hb9 ht9 hs9)
          | fail)
        refine bodyPost_ret (results_cell_row rfl _ _ q _ _ _ _ (by kernel_rfl) HQ9.out.1 Tryz.underlying29 rfl (by rw [List.size_toArray]; exact hz3)) rfl ?_
        exact ⟨_, _, _, rfl, (HOX.out.1.low HQ9.out.2 (by intro x hx; simp at hx; have := hQR.out; omega)).weak (by have := hQR.out; omega) HQ9.out.2.size, HOX.out.2.2.trans HQ9.out.2 (by intro x hx; simp at hx; exact .inr (by have := hQR.out; omega))⟩
end Go.Proofs.YtoahnhphfabajaaGreat
