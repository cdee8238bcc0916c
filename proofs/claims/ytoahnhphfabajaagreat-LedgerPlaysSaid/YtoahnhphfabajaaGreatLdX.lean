/- The document's Add, walked. -/
import Derived.Test.YtoahnhphfabajaaGreatLdW
namespace Go.Proofs.YtoahnhphfabajaaGreat
open Go.RowKit
set_option linter.unusedVariables false
set_option maxRecDepth 10000
set_option linter.unusedSimpArgs false
set_option linter.unnecessarySimpa false

theorem one_of {α : Type} {R : World → (Nat → Prop) → List Value → α → Prop} {w : World} {S : Nat → Prop} {l : List α} {css : List (List Value)} (h1 : css.length = l.length) (h3 : ∀ i (h : i < l.length) (h' : i < css.length), R w S css[i] l[i]) (hR : ∀ c y, R w S c y → ∀ u ∈ c, u.oneCell' = true) : ∀ u ∈ css.flatten, u.oneCell' = true := by
  intro u hu
  obtain ⟨c, hc, hu⟩ := List.mem_flatten.1 hu
  obtain ⟨i, hi, rfl⟩ := List.mem_iff_getElem.1 hc
  exact hR _ _ (h3 i (by omega) hi) u hu
theorem ChgR.one {w : World} {S : Nat → Prop} : ∀ c y, ChgR w S c y → ∀ u ∈ c, u.oneCell' = true := by
  rintro c y ⟨v, rfl, h⟩ u hu
  obtain ⟨A, cc, rfl, _⟩ := h.form'
  simp at hu
  rcases hu with rfl | rfl | rfl <;> rfl
theorem TxR.one {w : World} {S : Nat → Prop} : ∀ c y, TxR w S c y → ∀ u ∈ c, u.oneCell' = true := by
  rintro c y ⟨v, rfl, h⟩ u hu
  obtain ⟨A, cc, rfl, _⟩ := h.form
  simp at hu
  rcases hu with rfl | rfl <;> rfl
/-- What stands behind the test. -/
def RAddC (w0 w1 : World) (S : Nat → Prop) (p p6 : Nat) (L : Led) (c : List Chg) (cv : Value) (w : World) : Prop :=
  ∃ ov bv tv, Blk w p [.int .i64 (addLed L c).next, ov, bv, tv] 32 ∧ LedR w (fun b => (S b ∧ b < w0.heap.size) ∨ w1.heap.size ≤ b) ov bv tv (addLed L c) ∧
    Blk w p6 [.int .i64 L.next, cv] 45 ∧ Deep ChgR w (fun b => (S b ∧ b < w0.heap.size) ∨ w1.heap.size ≤ b) 3 cv c ∧ Turns [p] w1 w

set_option maxRecDepth 100000 in
set_option maxHeartbeats 16000000 in
theorem RAdd_any (L : Led) (hL : L.ok) (hroom : L.next < 100000 ∧ L.opn.length ≤ 3 ∧ L.blks.length < 100000 ∧ L.txs.length < 100000) (c : List Chg) (hc : c.length ≤ 1000 ∧ ∀ x ∈ c, x.ok) (ov bv tv cv : Value) (S : Nat → Prop) (w0 : World) (hd : LedR w0 S ov bv tv L) (hcv : Deep ChgR w0 S 3 cv c) :
    Calls Tryz.prog 14 #[.agg #[.int .i64 L.next, ov, bv, tv], cv] w0 fun e w' => ∃ ov' bv' tv' cv', e = .returned (.tuple #[.agg #[.int .i64 (addLed L c).next, ov', bv', tv'], .agg #[.int .i64 L.next, cv']]) ∧ LedR w' (fun b => S b ∨ w0.heap.size ≤ b) ov' bv' tv' (addLed L c) ∧ Deep ChgR w' (fun b => S b ∨ w0.heap.size ≤ b) 3 cv' c ∧ Turns [] w0 w' := by
  obtain ⟨Ao, co, rfl, _⟩ := hd.opn.form
  obtain ⟨Ab, cb, rfl, _⟩ := hd.blks.form'
  obtain ⟨At, ct, rfl, _⟩ := hd.txs.form
  obtain ⟨Ac, cc, rfl, _⟩ := hcv.form
  obtain ⟨nb, hnb⟩ : ∃ n, n = L.blks.length := ⟨_, rfl⟩
  obtain ⟨nO, hnO⟩ : ∃ n, n = L.opn.length := ⟨_, rfl⟩
  obtain ⟨nT, hnT⟩ : ∃ n, n = L.txs.length := ⟨_, rfl⟩
  obtain ⟨nC, hnC⟩ : ∃ n, n = c.length := ⟨_, rfl⟩
  have hb1 : nb ≤ 100000 := by rw [hnb]; exact hL.blks
  have hb2 : nO ≤ 1000 := by rw [hnO]; exact hL.opn
  have hb3 : nT ≤ 100000 := by rw [hnT]; exact hL.txs
  have hb4 : nC ≤ 1000 := by rw [hnC]; exact hc.1
  have HNN := Lib.hid (And.intro hnb (And.intro hnO (And.intro hnT hnC)))
  have HD := Lib.hid (And.intro hd hcv)
  rw [← hnb, ← hnO, ← hnT, ← hnC]
  obtain ⟨p, hp⟩ : ∃ p, p = w0.heap.size := ⟨_, rfl⟩
  obtain ⟨w, hw⟩ : ∃ x, x = w0.alloc (.cells #[.int .i64 L.next, .slice Ao nO co, .slice Ab nb cb, .slice At nT ct] 32) := ⟨_, rfl⟩
  have bc := Blk.new w0 [.int .i64 L.next, .slice Ao nO co, .slice Ab nb cb, .slice At nT ct] 32
  have t0 := (Turns.refl [] w0).alloc (.cells #[.int .i64 L.next, .slice Ao nO co, .slice Ab nb cb, .slice At nT ct] 32)
  have hs0 : w.heap.size = w0.heap.size + 1 := by rw [hw]; simp
  rw [show w0.alloc (.cells [.int .i64 L.next, .slice Ao nO co, .slice Ab nb cb, .slice At nT ct].toArray 32) = w from hw.symm, ← hp] at bc
  rw [← hw] at t0
  obtain ⟨q, hq⟩ : ∃ p, p = w.heap.size := ⟨_, rfl⟩
  obtain ⟨w2, hw2⟩ : ∃ x, x = w.alloc (.cells #[.int .i64 0, .slice none 0 0, .slice none 0 0, .slice none 0 0] 32) := ⟨_, rfl⟩
  have bq := Blk.new w [.int .i64 0, .slice none 0 0, .slice none 0 0, .slice none 0 0] 32
  have t1 := (Turns.refl [] w).alloc (.cells #[.int .i64 0, .slice none 0 0, .slice none 0 0, .slice none 0 0] 32)
  have hs1 : w2.heap.size = w.heap.size + 1 := by rw [hw2]; simp
  rw [show w.alloc (.cells [.int .i64 0, .slice none 0 0, .slice none 0 0, .slice none 0 0].toArray 32) = w2 from hw2.symm, ← hq] at bq
  rw [← hw2] at t1
  obtain ⟨q5, hq5⟩ : ∃ p, p = w2.heap.size := ⟨_, rfl⟩
  obtain ⟨w1, hw1⟩ : ∃ x, x = w2.alloc (.cells #[.int .i64 0, .slice none 0 0] 45) := ⟨_, rfl⟩
  have bq5 := Blk.new w2 [.int .i64 0, .slice none 0 0] 45
  have t1b := (Turns.refl [] w2).alloc (.cells #[.int .i64 0, .slice none 0 0] 45)
  have hs2 : w1.heap.size = w2.heap.size + 1 := by rw [hw1]; simp
  rw [show w2.alloc (.cells [.int .i64 0, .slice none 0 0].toArray 45) = w1 from hw1.symm, ← hq5] at bq5
  rw [← hw1] at t1b
  have bp1 := (bc.turns t1 (by simp)).turns t1b (by simp)
  have HPB := Lib.hid bp1
  have HT0 := Lib.hid ((t0.trans t1 (by simp)).trans t1b (by simp))
  have HW := Lib.hid (And.intro hw (And.intro hw2 hw1))
  have HP := Lib.hid (And.intro hp (And.intro (show p + 1 = q by omega) (show p + 1 + 1 = q5 by omega)))
  have HQB := Lib.hid (And.intro (bq.turns t1b (by simp)) (And.intro bq5 (show w0.heap.size ≤ p ∧ p < q ∧ q < q5 ∧ q5 < w1.heap.size by omega)))
  have HL := Lib.hid (And.intro hL (And.intro hroom hc))
  clear bc t0 hw hw2 hw1 hp hq hq5 hs0 hs1 hs2 hd bq bq5 t1 t1b bp1 hL hroom hc hcv hnb hnO hnT hnC
  obtain ⟨Y, hY⟩ : ∃ q, q = w1.drew := ⟨_, rfl⟩
  have tY : Turns [] w1 Y := by rw [hY]; exact (Turns.refl _ _).drew
  have HYY := Lib.hid hY
  have bY := HPB.out.turns tY (by simp)
  have C0 := bY.cell 0
  simp only [List.getElem?_cons_zero, List.getElem?_cons_succ] at C0
  obtain ⟨css, h1, h2, h3, slx0⟩ := HD.out.2.sl'
  have t0Y := HT0.out.trans tY (by simp)
  have hone := one_of h1 h3 ChgR.one
  have slx := (t0Y.slice slx0 (Nat.le_refl _) (by simp)).more t0Y.size
  rw [← HNN.out.2.2.2] at slx
  have HCSS := Lib.hid (And.intro h1 (And.intro h2 h3))
  have HS := Lib.hid (And.intro slx (And.intro hone tY))
  have S0 : Turns [] Y Y := Turns.refl _ _
  clear h1 h2 h3 slx0 t0Y hone slx hY tY bY
  go_enter Tryz.func14, Tryz.ntmps14
  go_upto_region 1 with fail
  rw [← HW.out.1, ← HW.out.2.1, ← HW.out.2.2, ← HP.out.1, HP.out.2.2, HP.out.2.1]
  go_cut [6] (fun u wx => ∃ (p6 : Nat) (A : Option Addr) (c6 : Nat), u = .pointer (some ⟨p6, 0, none⟩) ∧ Blk wx p6 [.int .i64 L.next, .slice A nC c6] 45 ∧ wx.ownsRow w1.heap.size 67 3 (.slice A nC c6) nC css.flatten ∧ (Value.slice A nC c6).ownBlock ≠ some p6 ∧ w1.heap.size ≤ p6 ∧ Turns [] w1 wx)
  case first =>
    refine rk0 (fun _ => True) (fun W => Turns [] Y W) 7 8 ?_
    rw [← HYY.out]
    refine rkA 0 7 1 (v := ?_) ?_ (.mk' trivial S0) ?_
    rotate_left
    · intro W hS; go_simp; all_goals with_reducible rfl
    try simp only [sI, sS, sZ]
    refine rkT 1 8 3 (v := ?_) ?_ (.mk' trivial S0) ?_
    rotate_left
    · rintro W ⟨-, hS⟩; have c0 := cellL hS C0 (by simp); go_simp; all_goals with_reducible rfl
    try simp only [sI, sS, sZ]
    refine rkA 3 10 11 (v := ?_) ?_ (.mk' trivial S0) ?_
    rotate_left
    · intro W hS; go_simp; all_goals with_reducible rfl
    try simp only [sI, sS, sZ]
    refine rk2 2 6 15 75 (fun K hK => ?_) (fun K hK => ?_)
    · go_simp
      have oA := own_empty Y 67 3
      have DA : Turns [] Y (Y.alloc (.cells #[] 67)) := (Turns.refl _ _).alloc _
      have TZ9 : Turns [] Y (Y.alloc (.cells #[] 67)) := (Turns.refl [] Y).trans DA (by simp)
      obtain ⟨gA, hgA⟩ : ∃ g, g = Y.heap.size := ⟨_, rfl⟩
      rw [← hgA] at oA ⊢
      have zz : Y.heap.size ≤ gA := by rw [hgA]; exact (Turns.refl [] Y).size
      have ylt : gA < (Y.alloc (.cells #[] 67)).heap.size := by rw [hgA]; simp
      generalize Y.alloc (.cells #[] 67) = X9 at oA DA TZ9 ylt ⊢
      have BA := Lib.hid (And.intro hgA (And.intro zz ylt))
      clear hgA zz ylt
      refine hK _ _ (.mk' trivial TZ9) ?_
      clear hK K
      try simp only [sI, sS, sZ]
      refine rk2 4 6 31 79 (fun K hK => ?_) (fun K hK => ?_)
      · obtain ⟨AB, cB, X11, hrB, oB, tB, lB⟩ := own_app TChg (own_more (base := Y.heap.size) (oA) (by have := BA.out; omega)) ((TZ9.slice HS.out.1 (Nat.le_refl _) (by simp))) HS.out.2.1 TZ9.size (by omega) (by omega) (by omega) 43
        rw [Nat.zero_add] at hrB oB lB
        rw [List.nil_append] at oB
        have TZ11 : Turns [] Y X11 := TZ9.trans tB (by intro x hx; simp [Value.ownBlock] at hx; exact .inr (by have := BA.out; omega))
        refine wp_append_run (P := Tryz.prog) (w := X9) (.tmp 9) (.tmp 10) (by rfl) (vs := _) (vx := _) (by rfl) (by rfl) (R := fun v w' => Value.slice AB nC cB = v ∧ X11 = w') ⟨_, _, hrB, rfl, rfl⟩ ?_
        rintro _ _ ⟨rfl, rfl⟩
        refine hK _ _ (.mk' trivial TZ11) ?_
        clear hK K
        try simp only [sI, sS, sZ]
        refine rkA 5 12 63 (v := ?_) ?_ (.mk' trivial TZ11) ?_
        rotate_left
        · intro W hS; go_simp; all_goals with_reducible rfl
        try simp only [sI, sS, sZ]
        refine rk1 6 127 (fun K hK => ?_)
        go_simp
        have b6 : Blk (X11.alloc (.cells #[.int .i64 0, .slice none 0 0] 45)) X11.heap.size [.int .i64 0, .slice none 0 0] 45 := Blk.new X11 [.int .i64 0, .slice none 0 0] _
        have D6 : Turns [] X11 (X11.alloc (.cells #[.int .i64 0, .slice none 0 0] 45)) := (Turns.refl _ _).alloc _
        have TZ6 : Turns [] Y (X11.alloc (.cells #[.int .i64 0, .slice none 0 0] 45)) := TZ11.trans D6 (by simp)
        obtain ⟨p6, hp6⟩ : ∃ g, g = X11.heap.size := ⟨_, rfl⟩
        rw [← hp6] at b6 ⊢
        have zz : Y.heap.size ≤ p6 := by rw [hp6]; exact TZ11.size
        have ylt : p6 < (X11.alloc (.cells #[.int .i64 0, .slice none 0 0] 45)).heap.size := by rw [hp6]; simp
        generalize X11.alloc (.cells #[.int .i64 0, .slice none 0 0] 45) = X6 at b6 D6 TZ6 ylt ⊢
        have B6 := Lib.hid (And.intro hp6 (And.intro zz ylt))
        clear hp6 zz ylt
        refine hK _ _ (.mk' trivial TZ6) ?_
        clear hK K
        try simp only [sI, sS, sZ]
        refine rk1 7 255 (fun K hK => ?_)
        have hne6 : (Value.slice AB nC cB).ownBlock ≠ some p6 := by
          intro e
          have h1 := lB p6 e
          have h2 := oB.lt p6 e
          have h3 := BA.out
          have h4 := B6.out
          rcases h1 with h1 | h1
          · simp [Value.ownBlock] at h1; omega
          · omega
        refine wp_store_blk 45 _ _ (by rfl) p6 (by rfl) [.int .i64 L.next, .slice AB nC cB] _ 45 (by rfl) b6 rfl (size_tx _ _) (by intro u hu; simp at hu; rcases hu with rfl | rfl <;> rfl) (fun X7 hb7 ht7 => ?_)
        have HFX := Lib.hid (And.intro hb7 (And.intro (own_more (own_vL (own_v0 oB D6) ht7 (by intro x hx e; simp at hx; exact hne6 (by rw [← hx]; exact e))) HS.out.2.2.size) (And.intro hne6 (And.intro (show w1.heap.size ≤ p6 by have := B6.out; have := HS.out.2.2.size; omega) ((HS.out.2.2.trans TZ6 (by simp)).trans ht7 (by intro x hx; simp at hx; have := B6.out; have := HS.out.2.2.size; exact .inr (by omega)))))))
        refine hK _ _ (.p trivial) ?_
        clear hK K
        try simp only [sI, sS, sZ]
        refine rkZ ?_
        go_wp2_with fail
        go_meet
        exact ⟨p6, _, _, rfl, HFX.out.1, HFX.out.2.1, HFX.out.2.2.1, HFX.out.2.2.2.1, HFX.out.2.2.2.2⟩
      · go_simp
        have b6 : Blk (X9.alloc (.cells #[.int .i64 0, .slice none 0 0] 45)) X9.heap.size [.int .i64 0, .slice none 0 0] 45 := Blk.new X9 [.int .i64 0, .slice none 0 0] _
        have D6 : Turns [] X9 (X9.alloc (.cells #[.int .i64 0, .slice none 0 0] 45)) := (Turns.refl _ _).alloc _
        have TZ6 : Turns [] Y (X9.alloc (.cells #[.int .i64 0, .slice none 0 0] 45)) := TZ9.trans D6 (by simp)
        obtain ⟨p6, hp6⟩ : ∃ g, g = X9.heap.size := ⟨_, rfl⟩
        rw [← hp6] at b6 ⊢
        have zz : Y.heap.size ≤ p6 := by rw [hp6]; exact TZ9.size
        have ylt : p6 < (X9.alloc (.cells #[.int .i64 0, .slice none 0 0] 45)).heap.size := by rw [hp6]; simp
        generalize X9.alloc (.cells #[.int .i64 0, .slice none 0 0] 45) = X6 at b6 D6 TZ6 ylt ⊢
        have B6 := Lib.hid (And.intro hp6 (And.intro zz ylt))
        clear hp6 zz ylt
        refine hK _ _ (.mk' trivial TZ6) ?_
        clear hK K
        try simp only [sI, sS, sZ]
        refine rk1 4 95 (fun K hK => ?_)
        obtain ⟨AB, cB, X11, hrB, oB, tB, lB⟩ := own_app TChg (own_more (base := Y.heap.size) (own_v0 oA D6) (by have := BA.out; omega)) ((TZ6.slice HS.out.1 (Nat.le_refl _) (by simp))) HS.out.2.1 TZ6.size (by omega) (by omega) (by omega) 43
        rw [Nat.zero_add] at hrB oB lB
        rw [List.nil_append] at oB
        have TZ11 : Turns [] Y X11 := TZ6.trans tB (by intro x hx; simp [Value.ownBlock] at hx; exact .inr (by have := BA.out; omega))
        refine wp_append_run (P := Tryz.prog) (w := X6) (.tmp 9) (.tmp 10) (by rfl) (vs := _) (vx := _) (by rfl) (by rfl) (R := fun v w' => Value.slice AB nC cB = v ∧ X11 = w') ⟨_, _, hrB, rfl, rfl⟩ ?_
        rintro _ _ ⟨rfl, rfl⟩
        refine hK _ _ (.mk' trivial TZ11) ?_
        clear hK K
        try simp only [sI, sS, sZ]
        refine rkA 5 12 127 (v := ?_) ?_ (.mk' trivial TZ11) ?_
        rotate_left
        · intro W hS; go_simp; all_goals with_reducible rfl
        try simp only [sI, sS, sZ]
        refine rk1 7 255 (fun K hK => ?_)
        have hne6 : (Value.slice AB nC cB).ownBlock ≠ some p6 := by
          intro e
          have h1 := lB p6 e
          have h2 := oB.lt p6 e
          have h3 := BA.out
          have h4 := B6.out
          rcases h1 with h1 | h1
          · simp [Value.ownBlock] at h1; omega
          · omega
        refine wp_store_blk 45 _ _ (by rfl) p6 (by rfl) [.int .i64 L.next, .slice AB nC cB] _ 45 (by rfl) (b6.turns tB (by simp [Value.ownBlock]; have := BA.out; have := B6.out; omega)) rfl (size_tx _ _) (by intro u hu; simp at hu; rcases hu with rfl | rfl <;> rfl) (fun X7 hb7 ht7 => ?_)
        have HFX := Lib.hid (And.intro hb7 (And.intro (own_more (own_vL oB ht7 (by intro x hx e; simp at hx; exact hne6 (by rw [← hx]; exact e))) HS.out.2.2.size) (And.intro hne6 (And.intro (show w1.heap.size ≤ p6 by have := B6.out; have := HS.out.2.2.size; omega) ((HS.out.2.2.trans TZ11 (by simp)).trans ht7 (by intro x hx; simp at hx; have := B6.out; have := HS.out.2.2.size; exact .inr (by omega)))))))
        refine hK _ _ (.p trivial) ?_
        clear hK K
        try simp only [sI, sS, sZ]
        refine rkZ ?_
        go_wp2_with fail
        go_meet
        exact ⟨p6, _, _, rfl, HFX.out.1, HFX.out.2.1, HFX.out.2.2.1, HFX.out.2.2.2.1, HFX.out.2.2.2.2⟩
    · go_simp
      have b6 : Blk (Y.alloc (.cells #[.int .i64 0, .slice none 0 0] 45)) Y.heap.size [.int .i64 0, .slice none 0 0] 45 := Blk.new Y [.int .i64 0, .slice none 0 0] _
      have D6 : Turns [] Y (Y.alloc (.cells #[.int .i64 0, .slice none 0 0] 45)) := (Turns.refl _ _).alloc _
      have TZ6 : Turns [] Y (Y.alloc (.cells #[.int .i64 0, .slice none 0 0] 45)) := (Turns.refl [] Y).trans D6 (by simp)
      obtain ⟨p6, hp6⟩ : ∃ g, g = Y.heap.size := ⟨_, rfl⟩
      rw [← hp6] at b6 ⊢
      have zz : Y.heap.size ≤ p6 := by rw [hp6]; exact (Turns.refl [] Y).size
      have ylt : p6 < (Y.alloc (.cells #[.int .i64 0, .slice none 0 0] 45)).heap.size := by rw [hp6]; simp
      generalize Y.alloc (.cells #[.int .i64 0, .slice none 0 0] 45) = X6 at b6 D6 TZ6 ylt ⊢
      have B6 := Lib.hid (And.intro hp6 (And.intro zz ylt))
      clear hp6 zz ylt
      refine hK _ _ (.mk' trivial TZ6) ?_
      clear hK K
      try simp only [sI, sS, sZ]
      refine rk1 2 79 (fun K hK => ?_)
      go_simp
      have oA := own_empty X6 67 3
      have DA : Turns [] X6 (X6.alloc (.cells #[] 67)) := (Turns.refl _ _).alloc _
      have TZ9 : Turns [] Y (X6.alloc (.cells #[] 67)) := TZ6.trans DA (by simp)
      obtain ⟨gA, hgA⟩ : ∃ g, g = X6.heap.size := ⟨_, rfl⟩
      rw [← hgA] at oA ⊢
      have zz : Y.heap.size ≤ gA := by rw [hgA]; exact TZ6.size
      have ylt : gA < (X6.alloc (.cells #[] 67)).heap.size := by rw [hgA]; simp
      generalize X6.alloc (.cells #[] 67) = X9 at oA DA TZ9 ylt ⊢
      have BA := Lib.hid (And.intro hgA (And.intro zz ylt))
      clear hgA zz ylt
      refine hK _ _ (.mk' trivial TZ9) ?_
      clear hK K
      try simp only [sI, sS, sZ]
      refine rk1 4 95 (fun K hK => ?_)
      obtain ⟨AB, cB, X11, hrB, oB, tB, lB⟩ := own_app TChg (own_more (base := Y.heap.size) (oA) (by have := BA.out; omega)) ((TZ9.slice HS.out.1 (Nat.le_refl _) (by simp))) HS.out.2.1 TZ9.size (by omega) (by omega) (by omega) 43
      rw [Nat.zero_add] at hrB oB lB
      rw [List.nil_append] at oB
      have TZ11 : Turns [] Y X11 := TZ9.trans tB (by intro x hx; simp [Value.ownBlock] at hx; exact .inr (by have := BA.out; omega))
      refine wp_append_run (P := Tryz.prog) (w := X9) (.tmp 9) (.tmp 10) (by rfl) (vs := _) (vx := _) (by rfl) (by rfl) (R := fun v w' => Value.slice AB nC cB = v ∧ X11 = w') ⟨_, _, hrB, rfl, rfl⟩ ?_
      rintro _ _ ⟨rfl, rfl⟩
      refine hK _ _ (.mk' trivial TZ11) ?_
      clear hK K
      try simp only [sI, sS, sZ]
      refine rkA 5 12 127 (v := ?_) ?_ (.mk' trivial TZ11) ?_
      rotate_left
      · intro W hS; go_simp; all_goals with_reducible rfl
      try simp only [sI, sS, sZ]
      refine rk1 7 255 (fun K hK => ?_)
      have hne6 : (Value.slice AB nC cB).ownBlock ≠ some p6 := by
        intro e
        have h1 := lB p6 e
        have h2 := oB.lt p6 e
        have h3 := BA.out
        have h4 := B6.out
        rcases h1 with h1 | h1
        · simp [Value.ownBlock] at h1; omega
        · omega
      refine wp_store_blk 45 _ _ (by rfl) p6 (by rfl) [.int .i64 L.next, .slice AB nC cB] _ 45 (by rfl) ((b6.turns DA (by simp)).turns tB (by simp [Value.ownBlock]; have := BA.out; have := B6.out; omega)) rfl (size_tx _ _) (by intro u hu; simp at hu; rcases hu with rfl | rfl <;> rfl) (fun X7 hb7 ht7 => ?_)
      have HFX := Lib.hid (And.intro hb7 (And.intro (own_more (own_vL oB ht7 (by intro x hx e; simp at hx; exact hne6 (by rw [← hx]; exact e))) HS.out.2.2.size) (And.intro hne6 (And.intro (show w1.heap.size ≤ p6 by have := B6.out; have := HS.out.2.2.size; omega) ((HS.out.2.2.trans TZ11 (by simp)).trans ht7 (by intro x hx; simp at hx; have := B6.out; have := HS.out.2.2.size; exact .inr (by omega)))))))
      refine hK _ _ (.p trivial) ?_
      clear hK K
      try simp only [sI, sS, sZ]
      refine rkZ ?_
      go_wp2_with fail
      go_meet
      exact ⟨p6, _, _, rfl, HFX.out.1, HFX.out.2.1, HFX.out.2.2.1, HFX.out.2.2.2.1, HFX.out.2.2.2.2⟩
  case rest =>
    generalize wc = wx at *
    obtain ⟨p6, A6, c6, rfl, b6, o6, hn6, hp6, tx⟩ := hcut
    clear C0 S0
    have bpx := HPB.out.turns tx (by simp)
    have k0 := bpx.cell 0
    have z0 := bpx.free 0
    simp only [List.getElem?_cons_zero, List.getElem?_cons_succ] at k0
    have hwn : IntKind.i64.wrap (L.next + 1) = L.next + 1 := IntWalk.i64_in _ (by have := HL.out.1.next; omega)
    obtain ⟨x2, hx2⟩ : ∃ x, x = wx.setCell ⟨p, 0, none⟩ (.int .i64 (L.next + 1)) := ⟨_, rfl⟩
    have bp2 : Blk x2 p [.int .i64 (L.next + 1), .slice Ao nO co, .slice Ab nb cb, .slice At nT ct] 32 := by rw [hx2]; exact bpx.set 0 _
    have t2 : Turns [p] wx x2 := by rw [hx2]; exact (Turns.refl _ _).setCell (.inl (by simp)) _
    obtain ⟨V, hV⟩ : ∃ q, q = x2.drew := ⟨_, rfl⟩
    have tV : Turns [] x2 V := by rw [hV]; exact (Turns.refl _ _).drew
    have HVV := Lib.hid hV
    have HX2 := Lib.hid hx2
    have hpw := HQB.out.2.2
    have twV : Turns [p] w1 V := ((tx.mono (by simp)).trans t2 (fun x hx => .inl hx)).trans tV (by simp)
    have t2V := t2.trans tV (by simp)
    have b6V := b6.turns t2V (by simp; omega)
    have o6V := own_vL o6 t2V (by intro x hx e; simp at hx; have := (o6.lt x e).1; omega)
    have bpV := bp2.turns tV (by simp)
    have C1 := bpV.cell 1
    simp only [List.getElem?_cons_zero, List.getElem?_cons_succ] at C1
    have R6 := b6V.all
    have hz6 := size_tx L.next (.slice A6 nC c6)
    have t0V : Turns [] w0 V := HT0.out.trans twV (by intro x hx; simp at hx; exact .inr (by omega))
    obtain ⟨cso, g1, g2, g3, slo0⟩ := HD.out.1.opn.sl'
    have hone := one_of g1 g3 TxR.one
    have slo := (t0V.slice slo0 (Nat.le_refl _) (by simp)).more t0V.size
    rw [← HNN.out.2.1] at slo
    have HCSO := Lib.hid (And.intro g1 (And.intro g2 g3))
    have HV := Lib.hid (And.intro bpV (And.intro slo (And.intro hone (And.intro o6V (And.intro twV (And.intro b6V (And.intro hn6 hp6)))))))
    have S0 : Turns [] V V := Turns.refl _ _
    clear b6 o6 hn6 hp6 tx bpx hx2 bp2 t2 hV tV twV t2V b6V o6V bpV t0V g1 g2 g3 slo0 hone slo hpw
    go_upto_region 3 with fail
    rw [← HX2.out]
    clear k0 z0
    go_cut [] (fun wv => ∃ A c3, Blk wv p [.int .i64 (L.next + 1), .slice A (nO + 1) c3, .slice Ab nb cb, .slice At nT ct] 32 ∧ wv.ownsRow w1.heap.size 45 2 (.slice A (nO + 1) c3) (nO + 1) (cso.flatten ++ [.int .i64 L.next, .slice A6 nC c6]) ∧ Turns [p] V wv)
    case first =>
      refine rk0 (fun _ => True) (fun W => Turns [] V W) 8 9 ?_
      rw [← HVV.out]
      refine rkA 1 18 2 (v := ?_) ?_ (.mk' trivial S0) ?_
      rotate_left
      · intro W hS; go_simp; all_goals with_reducible rfl
      try simp only [sI, sS, sZ]
      refine rkT 2 19 6 (v := ?_) ?_ (.mk' trivial S0) ?_
      rotate_left
      · rintro W ⟨-, hS⟩; have c0 := cellL hS C1 (by simp); go_simp; all_goals with_reducible rfl
      try simp only [sI, sS, sZ]
      refine rkW 4 21 22 rfl (yieldsIf_load_mid (by rfl) _ _ rfl p6 0 (by rfl) _ _ (fun W hS => rangeV hS.2 R6) Tryz.underlying45 rfl hz6) (.mk' trivial S0) ?_
      try simp only [sI, sS, sZ]
      refine rk2 0 5 23 54 (fun K hK => ?_) (fun K hK => ?_)
      · go_simp
        have oA := own_empty V 45 2
        have DA : Turns [] V (V.alloc (.cells #[] 45)) := (Turns.refl _ _).alloc _
        have TZ17 : Turns [] V (V.alloc (.cells #[] 45)) := (Turns.refl [] V).trans DA (by simp)
        obtain ⟨gA, hgA⟩ : ∃ g, g = V.heap.size := ⟨_, rfl⟩
        rw [← hgA] at oA ⊢
        have zz : V.heap.size ≤ gA := by rw [hgA]; exact (Turns.refl [] V).size
        have ylt : gA < (V.alloc (.cells #[] 45)).heap.size := by rw [hgA]; simp
        generalize V.alloc (.cells #[] 45) = X17 at oA DA TZ17 ylt ⊢
        have BA := Lib.hid (And.intro hgA (And.intro zz ylt))
        clear hgA zz ylt
        refine hK _ _ (.mk' trivial TZ17) ?_
        clear hK K
        try simp only [sI, sS, sZ]
        refine rk2 3 5 31 55 (fun K hK => ?_) (fun K hK => ?_)
        · obtain ⟨AB, cB, X20, hrB, oB, tB, lB⟩ := own_app TTx (own_more (base := V.heap.size) (oA) (by have := BA.out; omega)) (TZ17.slice HV.out.2.1 (Nat.le_refl _) (by simp)) HV.out.2.2.1 TZ17.size (by omega) (by omega) (by omega) 25
          rw [Nat.zero_add] at hrB oB lB
          rw [List.nil_append] at oB
          have TZ20 : Turns [] V X20 := TZ17.trans tB (by intro x hx; simp [Value.ownBlock] at hx; exact .inr (by have := BA.out; omega))
          refine wp_append_run (P := Tryz.prog) (w := X17) (.tmp 17) (.tmp 19) (by rfl) (vs := _) (vx := _) (by rfl) (by rfl) (R := fun v w' => Value.slice AB nO cB = v ∧ X20 = w') ⟨_, _, hrB, rfl, rfl⟩ ?_
          rintro _ _ ⟨rfl, rfl⟩
          refine hK _ _ (.mk' trivial TZ20) ?_
          clear hK K
          try simp only [sI, sS, sZ]
          refine rk1 5 63 (fun K hK => ?_)
          go_simp
          have LC : Sl (X20.alloc (.cells #[.int .i64 L.next, .slice A6 nC c6] 45)) (X20.alloc (.cells #[.int .i64 L.next, .slice A6 nC c6] 45)).heap.size 2 (.slice (some ⟨X20.heap.size, 0, none⟩) 1 1) 1 [.int .i64 L.next, .slice A6 nC c6] := by
            have := Sl.new X20 #[.int .i64 L.next, .slice A6 nC c6] 45 1 2 rfl (by simp [maxLen])
            exact this.more (by simp)
          have DC : Turns [] X20 (X20.alloc (.cells #[.int .i64 L.next, .slice A6 nC c6] 45)) := (Turns.refl _ _).alloc _
          have TZ22 : Turns [] V (X20.alloc (.cells #[.int .i64 L.next, .slice A6 nC c6] 45)) := TZ20.trans DC (by simp)
          obtain ⟨gC, hgC⟩ : ∃ g, g = X20.heap.size := ⟨_, rfl⟩
          rw [← hgC] at LC ⊢
          have ylt : gC < (X20.alloc (.cells #[.int .i64 L.next, .slice A6 nC c6] 45)).heap.size := by rw [hgC]; simp
          generalize X20.alloc (.cells #[.int .i64 L.next, .slice A6 nC c6] 45) = X22 at LC DC TZ22 ylt ⊢
          have BC := Lib.hid (And.intro hgC ylt)
          clear hgC ylt
          refine hK _ _ (.mk' trivial TZ22) ?_
          clear hK K
          try simp only [sI, sS, sZ]
          refine rk1 6 127 (fun K hK => ?_)
          obtain ⟨AD, cD, X23, hrD, oD, tD, lD⟩ := own_app TTx (own_v0 oB DC) LC (by intro u hu; simp at hu; rcases hu with rfl | rfl <;> rfl) TZ22.size (by omega) (by omega) (by omega) 25
          have TZ23 : Turns [] V X23 := TZ22.trans tD (by intro x hx; exact .inr ((own_v0 oB DC).lt x (by simpa using hx)).1)
          refine wp_append_run (P := Tryz.prog) (w := X22) (.tmp 20) (.tmp 22) (by rfl) (vs := _) (vx := _) (by rfl) (by rfl) (R := fun v w' => Value.slice AD (nO + 1) cD = v ∧ X23 = w') ⟨_, _, hrD, rfl, rfl⟩ ?_
          rintro _ _ ⟨rfl, rfl⟩
          have bD := HV.out.1.turns TZ23 (by simp)
          have kD := bD.cell 1
          have zD := bD.free 1
          simp only [List.getElem?_cons_zero, List.getElem?_cons_succ] at kD
          refine hK _ _ (.mk' trivial TZ23) ?_
          clear hK K
          try simp only [sI, sS, sZ]
          refine rkA 7 24 255 (v := ?_) ?_ (.mk' trivial TZ23) ?_
          rotate_left
          · intro W hS; go_simp; all_goals with_reducible rfl
          try simp only [sI, sS, sZ]
          refine rk1 8 511 (fun K hK => ?_)
          go_simp
          have HFX := Lib.hid (And.intro (bD.set 1 (.slice AD (nO + 1) cD)) (And.intro oD TZ23))
          refine hK _ _ (.p trivial) ?_
          clear hK K
          try simp only [sI, sS, sZ]
          refine rkZ ?_
          go_wp2_with fail
          go_meet
          have tp : Turns [p] X23 (X23.setCell ⟨p, 1, none⟩ (.slice AD (nO + 1) cD)) := (Turns.refl _ _).setCell (.inl (by simp)) _
          have hpb := HQB.out.2.2
          have hvs := HV.out.2.2.2.2.1.size
          exact ⟨_, _, HFX.out.1, own_more (own_vL HFX.out.2.1 tp (by intro x hx e; simp at hx; have h1 := (HFX.out.2.1.lt x e).1; omega)) hvs, (HFX.out.2.2.mono (by simp)).trans tp (fun x hx => .inl hx)⟩
        · go_simp
          have LC : Sl (X17.alloc (.cells #[.int .i64 L.next, .slice A6 nC c6] 45)) (X17.alloc (.cells #[.int .i64 L.next, .slice A6 nC c6] 45)).heap.size 2 (.slice (some ⟨X17.heap.size, 0, none⟩) 1 1) 1 [.int .i64 L.next, .slice A6 nC c6] := by
            have := Sl.new X17 #[.int .i64 L.next, .slice A6 nC c6] 45 1 2 rfl (by simp [maxLen])
            exact this.more (by simp)
          have DC : Turns [] X17 (X17.alloc (.cells #[.int .i64 L.next, .slice A6 nC c6] 45)) := (Turns.refl _ _).alloc _
          have TZ22 : Turns [] V (X17.alloc (.cells #[.int .i64 L.next, .slice A6 nC c6] 45)) := TZ17.trans DC (by simp)
          obtain ⟨gC, hgC⟩ : ∃ g, g = X17.heap.size := ⟨_, rfl⟩
          rw [← hgC] at LC ⊢
          have ylt : gC < (X17.alloc (.cells #[.int .i64 L.next, .slice A6 nC c6] 45)).heap.size := by rw [hgC]; simp
          generalize X17.alloc (.cells #[.int .i64 L.next, .slice A6 nC c6] 45) = X22 at LC DC TZ22 ylt ⊢
          have BC := Lib.hid (And.intro hgC ylt)
          clear hgC ylt
          refine hK _ _ (.mk' trivial TZ22) ?_
          clear hK K
          try simp only [sI, sS, sZ]
          refine rk1 3 63 (fun K hK => ?_)
          obtain ⟨AB, cB, X20, hrB, oB, tB, lB⟩ := own_app TTx (own_more (base := V.heap.size) (own_v0 oA DC) (by have := BA.out; omega)) (TZ22.slice HV.out.2.1 (Nat.le_refl _) (by simp)) HV.out.2.2.1 TZ22.size (by omega) (by omega) (by omega) 25
          rw [Nat.zero_add] at hrB oB lB
          rw [List.nil_append] at oB
          have TZ20 : Turns [] V X20 := TZ22.trans tB (by intro x hx; simp [Value.ownBlock] at hx; exact .inr (by have := BA.out; omega))
          refine wp_append_run (P := Tryz.prog) (w := X22) (.tmp 17) (.tmp 19) (by rfl) (vs := _) (vx := _) (by rfl) (by rfl) (R := fun v w' => Value.slice AB nO cB = v ∧ X20 = w') ⟨_, _, hrB, rfl, rfl⟩ ?_
          rintro _ _ ⟨rfl, rfl⟩
          refine hK _ _ (.mk' trivial TZ20) ?_
          clear hK K
          try simp only [sI, sS, sZ]
          refine rk1 6 127 (fun K hK => ?_)
          obtain ⟨AD, cD, X23, hrD, oD, tD, lD⟩ := own_app TTx (oB) (tB.slice LC (by first | exact Nat.le_refl _ | exact DA.size) (by intro x hx e; simp [Value.ownBlock] at hx e; have := BA.out; have := BC.out; omega)) (by intro u hu; simp at hu; rcases hu with rfl | rfl <;> rfl) TZ20.size (by omega) (by omega) (by omega) 25
          have TZ23 : Turns [] V X23 := TZ20.trans tD (by intro x hx; exact .inr ((oB).lt x (by simpa using hx)).1)
          refine wp_append_run (P := Tryz.prog) (w := X20) (.tmp 20) (.tmp 22) (by rfl) (vs := _) (vx := _) (by rfl) (by rfl) (R := fun v w' => Value.slice AD (nO + 1) cD = v ∧ X23 = w') ⟨_, _, hrD, rfl, rfl⟩ ?_
          rintro _ _ ⟨rfl, rfl⟩
          have bD := HV.out.1.turns TZ23 (by simp)
          have kD := bD.cell 1
          have zD := bD.free 1
          simp only [List.getElem?_cons_zero, List.getElem?_cons_succ] at kD
          refine hK _ _ (.mk' trivial TZ23) ?_
          clear hK K
          try simp only [sI, sS, sZ]
          refine rkA 7 24 255 (v := ?_) ?_ (.mk' trivial TZ23) ?_
          rotate_left
          · intro W hS; go_simp; all_goals with_reducible rfl
          try simp only [sI, sS, sZ]
          refine rk1 8 511 (fun K hK => ?_)
          go_simp
          have HFX := Lib.hid (And.intro (bD.set 1 (.slice AD (nO + 1) cD)) (And.intro oD TZ23))
          refine hK _ _ (.p trivial) ?_
          clear hK K
          try simp only [sI, sS, sZ]
          refine rkZ ?_
          go_wp2_with fail
          go_meet
          have tp : Turns [p] X23 (X23.setCell ⟨p, 1, none⟩ (.slice AD (nO + 1) cD)) := (Turns.refl _ _).setCell (.inl (by simp)) _
          have hpb := HQB.out.2.2
          have hvs := HV.out.2.2.2.2.1.size
          exact ⟨_, _, HFX.out.1, own_more (own_vL HFX.out.2.1 tp (by intro x hx e; simp at hx; have h1 := (HFX.out.2.1.lt x e).1; omega)) hvs, (HFX.out.2.2.mono (by simp)).trans tp (fun x hx => .inl hx)⟩
      · go_simp
        have LC : Sl (V.alloc (.cells #[.int .i64 L.next, .slice A6 nC c6] 45)) (V.alloc (.cells #[.int .i64 L.next, .slice A6 nC c6] 45)).heap.size 2 (.slice (some ⟨V.heap.size, 0, none⟩) 1 1) 1 [.int .i64 L.next, .slice A6 nC c6] := by
          have := Sl.new V #[.int .i64 L.next, .slice A6 nC c6] 45 1 2 rfl (by simp [maxLen])
          exact this.more (by simp)
        have DC : Turns [] V (V.alloc (.cells #[.int .i64 L.next, .slice A6 nC c6] 45)) := (Turns.refl _ _).alloc _
        have TZ22 : Turns [] V (V.alloc (.cells #[.int .i64 L.next, .slice A6 nC c6] 45)) := (Turns.refl [] V).trans DC (by simp)
        obtain ⟨gC, hgC⟩ : ∃ g, g = V.heap.size := ⟨_, rfl⟩
        rw [← hgC] at LC ⊢
        have ylt : gC < (V.alloc (.cells #[.int .i64 L.next, .slice A6 nC c6] 45)).heap.size := by rw [hgC]; simp
        generalize V.alloc (.cells #[.int .i64 L.next, .slice A6 nC c6] 45) = X22 at LC DC TZ22 ylt ⊢
        have BC := Lib.hid (And.intro hgC ylt)
        clear hgC ylt
        refine hK _ _ (.mk' trivial TZ22) ?_
        clear hK K
        try simp only [sI, sS, sZ]
        refine rk1 0 55 (fun K hK => ?_)
        go_simp
        have oA := own_empty X22 45 2
        have DA : Turns [] X22 (X22.alloc (.cells #[] 45)) := (Turns.refl _ _).alloc _
        have TZ17 : Turns [] V (X22.alloc (.cells #[] 45)) := TZ22.trans DA (by simp)
        obtain ⟨gA, hgA⟩ : ∃ g, g = X22.heap.size := ⟨_, rfl⟩
        rw [← hgA] at oA ⊢
        have zz : V.heap.size ≤ gA := by rw [hgA]; exact TZ22.size
        have ylt : gA < (X22.alloc (.cells #[] 45)).heap.size := by rw [hgA]; simp
        generalize X22.alloc (.cells #[] 45) = X17 at oA DA TZ17 ylt ⊢
        have BA := Lib.hid (And.intro hgA (And.intro zz ylt))
        clear hgA zz ylt
        refine hK _ _ (.mk' trivial TZ17) ?_
        clear hK K
        try simp only [sI, sS, sZ]
        refine rk1 3 63 (fun K hK => ?_)
        obtain ⟨AB, cB, X20, hrB, oB, tB, lB⟩ := own_app TTx (own_more (base := V.heap.size) (oA) (by have := BA.out; omega)) (TZ17.slice HV.out.2.1 (Nat.le_refl _) (by simp)) HV.out.2.2.1 TZ17.size (by omega) (by omega) (by omega) 25
        rw [Nat.zero_add] at hrB oB lB
        rw [List.nil_append] at oB
        have TZ20 : Turns [] V X20 := TZ17.trans tB (by intro x hx; simp [Value.ownBlock] at hx; exact .inr (by have := BA.out; omega))
        refine wp_append_run (P := Tryz.prog) (w := X17) (.tmp 17) (.tmp 19) (by rfl) (vs := _) (vx := _) (by rfl) (by rfl) (R := fun v w' => Value.slice AB nO cB = v ∧ X20 = w') ⟨_, _, hrB, rfl, rfl⟩ ?_
        rintro _ _ ⟨rfl, rfl⟩
        refine hK _ _ (.mk' trivial TZ20) ?_
        clear hK K
        try simp only [sI, sS, sZ]
        refine rk1 6 127 (fun K hK => ?_)
        obtain ⟨AD, cD, X23, hrD, oD, tD, lD⟩ := own_app TTx (oB) (tB.slice (DA.slice LC (Nat.le_refl _) (by simp)) (by first | exact Nat.le_refl _ | exact DA.size) (by intro x hx e; simp [Value.ownBlock] at hx e; have := BA.out; have := BC.out; omega)) (by intro u hu; simp at hu; rcases hu with rfl | rfl <;> rfl) TZ20.size (by omega) (by omega) (by omega) 25
        have TZ23 : Turns [] V X23 := TZ20.trans tD (by intro x hx; exact .inr ((oB).lt x (by simpa using hx)).1)
        refine wp_append_run (P := Tryz.prog) (w := X20) (.tmp 20) (.tmp 22) (by rfl) (vs := _) (vx := _) (by rfl) (by rfl) (R := fun v w' => Value.slice AD (nO + 1) cD = v ∧ X23 = w') ⟨_, _, hrD, rfl, rfl⟩ ?_
        rintro _ _ ⟨rfl, rfl⟩
        have bD := HV.out.1.turns TZ23 (by simp)
        have kD := bD.cell 1
        have zD := bD.free 1
        simp only [List.getElem?_cons_zero, List.getElem?_cons_succ] at kD
        refine hK _ _ (.mk' trivial TZ23) ?_
        clear hK K
        try simp only [sI, sS, sZ]
        refine rkA 7 24 255 (v := ?_) ?_ (.mk' trivial TZ23) ?_
        rotate_left
        · intro W hS; go_simp; all_goals with_reducible rfl
        try simp only [sI, sS, sZ]
        refine rk1 8 511 (fun K hK => ?_)
        go_simp
        have HFX := Lib.hid (And.intro (bD.set 1 (.slice AD (nO + 1) cD)) (And.intro oD TZ23))
        refine hK _ _ (.p trivial) ?_
        clear hK K
        try simp only [sI, sS, sZ]
        refine rkZ ?_
        go_wp2_with fail
        go_meet
        have tp : Turns [p] X23 (X23.setCell ⟨p, 1, none⟩ (.slice AD (nO + 1) cD)) := (Turns.refl _ _).setCell (.inl (by simp)) _
        have hpb := HQB.out.2.2
        have hvs := HV.out.2.2.2.2.1.size
        exact ⟨_, _, HFX.out.1, own_more (own_vL HFX.out.2.1 tp (by intro x hx e; simp at hx; have h1 := (HFX.out.2.1.lt x e).1; omega)) hvs, (HFX.out.2.2.mono (by simp)).trans tp (fun x hx => .inl hx)⟩
    case rest =>
      generalize wc = wv at *
      obtain ⟨A7, c7, bp, oo, tv⟩ := hcut
      clear C1 S0 R6
      have c1 := bp.cell 1
      simp only [List.getElem?_cons_zero, List.getElem?_cons_succ] at c1
      have hpw := HQB.out.2.2
      obtain ⟨hbpV, hslo, hone, o6V, twV, b6V, hn6, hp6⟩ := HV.out
      have t1v : Turns [p] w1 wv := twV.trans tv (fun x hx => .inl hx)
      have t0v : Turns [] w0 wv := HT0.out.trans t1v (by intro x hx; simp at hx; exact .inr (by omega))
      have o6v := own_vL o6V tv (by intro x hx e; simp at hx; have := (o6V.lt x e).1; omega)
      have b6v := b6V.turns tv (by simp; omega)
      -- the sets
      obtain ⟨SS, hSS⟩ : ∃ SS : Nat → Prop, SS = fun b => (S b ∧ b < w0.heap.size) ∨ w1.heap.size ≤ b := ⟨_, rfl⟩
      have hsub : ∀ k, k < w0.heap.size → S k → SS k := fun k hk hs => by rw [hSS]; exact .inl ⟨hs, hk⟩
      have hfre : ∀ k, w1.heap.size ≤ k → SS k := fun k hk => by rw [hSS]; exact .inr hk
      have keepL : LedR wv SS (.slice Ao L.opn.length co) (.slice Ab L.blks.length cb) (.slice At L.txs.length ct) L := (HD.out.1.mono hsub).keep (t0v.keeps0 SS)
      have dC : Deep ChgR wv SS 3 (.slice A6 nC c6) c := by
        obtain ⟨g1, g2, g3⟩ := HCSS.out
        have e : nC = c.length := HNN.out.2.2.2
        subst e
        exact Deep.mk' g1 g2 (fun i hi hi' => ChgR.lasts.keep (ChgR.lasts.mono (g3 i hi hi') hsub) (t0v.keeps0 SS)) (SlS.of_own o6v (fun k hk => hfre k (o6v.lt k hk).1))
      have dO : Deep TxR wv SS 2 (.slice A7 (nO + 1) c7) (L.opn ++ [⟨L.next, c⟩]) := by
        obtain ⟨g1, g2, g3⟩ := HCSO.out
        exact deep_more (base := w1.heap.size) (e := 45) TxR.lasts g1 g2 (fun i hi hi' => TxR.lasts.keep (TxR.lasts.mono (g3 i hi hi') hsub) (t0v.keeps0 SS)) ⟨_, rfl, dC⟩ rfl (by rw [← HNN.out.2.1]; exact oo) (fun k hk => hfre k (oo.lt k hk).1)
      have lP : LedR wv SS (.slice A7 (nO + 1) c7) (.slice Ab nb cb) (.slice At nT ct) (pushL L c) := by
        have e1 : nb = L.blks.length := HNN.out.1
        have e2 : nT = L.txs.length := HNN.out.2.2.1
        rw [e1, e2]
        exact ⟨dO, keepL.blks, keepL.txs⟩
      have HPL := Lib.hid (And.intro lP (And.intro bp (And.intro b6v (And.intro dC (And.intro t1v hSS)))))
      have hpok := pushL_ok HL.out.1 HL.out.2.2 HL.out.2.1.1 (by have := HL.out.2.1.2.1; omega)
      have HPK := Lib.hid hpok
      have hno : nO ≤ 3 := by have := HNN.out.2.1; have := HL.out.2.1.2.1; omega
      clear keepL dC dO lP hpok bp oo tv t1v t0v o6v b6v hsub hfre hSS hbpV hslo hone o6V twV b6V hn6 hp6
      go_upto_if 28 with fail
      go_cut [] (fun wz => RAddC w0 w1 S p p6 L c (.slice A6 nC c6) wz)
      case first =>
        by_cases h4 : nO + 1 = 4
        · have h4i : (((nO : Int) + 1) == 4) = true := beq_iff_eq.2 (by omega)
          have hpl : 4 ≤ (pushL L c).opn.length := by simp [pushL]; have := HNN.out.2.1; omega
          have hadd : addLed L c = closeL (pushL L c) := if_pos hpl
          have HADD := Lib.hid hadd
          have RC := Lib.hid (show Calls Tryz.prog 11 #[.agg #[.int .i64 (L.next + 1), .slice A7 (nO + 1) c7, .slice Ab nb cb, .slice At nT ct]] wv _ from RClose_any (pushL L c) HPK.out (by omega) _ _ _ SS wv HPL.out.1)
          have r1 := HPL.out.2.1.all
          have hz1 := size_rled (.int .i64 (L.next + 1)) (.slice A7 (nO + 1) c7) (.slice Ab nb cb) (.slice At nT ct)
          clear hpl hadd h4
          go_wp2_with (first
            | (refine wpList_load_mid rfl 32 (.tmp 2) rfl p 0 rfl _ _ r1 Tryz.underlying32 rfl hz1 ?_)
            | fail)
          refine RC.out.mono ?_
          rintro e x5 ⟨ov', bv', tv', rfl, l5, t5⟩
          obtain ⟨A8, c8, rfl, _⟩ := l5.opn.form
          obtain ⟨A9, c9, rfl, _⟩ := l5.blks.form'
          obtain ⟨A10, c10, rfl, _⟩ := l5.txs.form
          obtain ⟨L5, hL5⟩ : ∃ x, x = closeL (pushL L c) := ⟨_, rfl⟩
          rw [← hL5] at l5 HADD ⊢
          have hn5 : (pushL L c).next = L5.next := by rw [hL5]; rfl
          rw [hn5]
          have hz5 := size_rled (.int .i64 L5.next) (.slice A8 L5.opn.length c8) (.slice A9 L5.blks.length c9) (.slice A10 L5.txs.length c10)
          have HB5 := Lib.hid (And.intro (HPL.out.2.1.turns t5 (by simp)) (And.intro l5 t5))
          clear hL5 hn5 l5 t5 r1 hz1 RC
          go_wp2_with (first
            | (refine wpList_store_blk rfl 32 (.tmp 2) (.tmp 32) rfl p (by kernel_rfl) [.int .i64 L5.next, .slice A8 L5.opn.length c8, .slice A9 L5.blks.length c9, .slice A10 L5.txs.length c10] _ 32 (by kernel_rfl) HB5.out.1 rfl hz5 (by intro u hu; simp at hu; rcases hu with rfl | rfl | rfl | rfl <;> rfl) (fun w9 hb9 ht9 hs9 => ?_); have HQ9 := Lib.hid (And.intro hb9 ht9); clear hb9 ht9 hs9)
            | fail)
          have HFX := Lib.hid (show RAddC w0 w1 S p p6 L c (.slice A6 nC c6) w9 by
            obtain ⟨lP, bp, b6v, dC, t1v, hSS⟩ := HPL.out
            have hq := HQB.out.2.2
            have h1s := t1v.size
            have hno : ∀ k, SS k → k ≠ p := fun k hk e => by rw [hSS] at hk; rcases hk with h | h <;> omega
            have t59 : Turns [p] wv w9 := (HB5.out.2.2.mono (by simp)).trans HQ9.out.2 (fun x hx => .inl hx)
            have hp6 := HV.out.2.2.2.2.2.2.2
            refine ⟨_, _, _, by rw [HADD.out]; exact HQ9.out.1, ?_, b6v.turns t59 (by simp; omega), ?_, t1v.trans t59 (fun x hx => .inl hx)⟩
            · rw [HADD.out]
              refine (HB5.out.2.1.mono (S' := fun b => SS b ∧ b ≠ p) (fun k _ hk => ?_)).keep (HQ9.out.2.keepsB _ (by intro x hx _ h; simp at hx; exact h.2 hx)) |>.mono (fun k _ hk => by rw [hSS] at hk; exact hk.1)
              rcases hk with hk | hk
              · exact ⟨hk, hno k hk⟩
              · exact ⟨by rw [hSS]; exact .inr (by omega), by omega⟩
            · rw [← hSS]
              exact dC.keep ChgR.lasts (t59.keepsB _ (by intro x hx _ h; simp at hx; exact hno x h hx)))
          go_meet
          exact HFX.out
        · have h4i : (((nO : Int) + 1) == 4) = false := beq_eq_false_iff_ne.2 (by omega)
          have hadd : addLed L c = pushL L c := if_neg (by simp [pushL]; have := HNN.out.2.1; omega)
          have HFX := Lib.hid (show RAddC w0 w1 S p p6 L c (.slice A6 nC c6) wv from ⟨_, _, _, by rw [hadd]; exact HPL.out.2.1, by rw [hadd, ← HPL.out.2.2.2.2.2]; exact HPL.out.1, HPL.out.2.2.1, by rw [← HPL.out.2.2.2.2.2]; exact HPL.out.2.2.2.1, HPL.out.2.2.2.2.1⟩)
          clear hadd h4
          go_wp2_with fail
          go_meet
          exact HFX.out
      case rest =>
        generalize wc = wz at *
        obtain ⟨ov3, bv3, tv3, bp, l3, b6, d6, t1z⟩ := hcut
        obtain ⟨A20, c20, rfl, _⟩ := l3.opn.form
        obtain ⟨A21, c21, rfl, _⟩ := l3.blks.form'
        obtain ⟨A22, c22, rfl, _⟩ := l3.txs.form
        have hq := HQB.out.2.2
        have r1 := bp.all
        have r6 := b6.all
        have hz1 := size_rled (.int .i64 (addLed L c).next) (.slice A20 (addLed L c).opn.length c20) (.slice A21 (addLed L c).blks.length c21) (.slice A22 (addLed L c).txs.length c22)
        have hz6 := size_tx L.next (.slice A6 nC c6)
        obtain ⟨U, hU⟩ : ∃ q, q = wz.drew := ⟨_, rfl⟩
        have tU : Turns [] wz U := by rw [hU]; exact (Turns.refl _ _).drew
        have HUU := Lib.hid hU
        have R1 := rangeV tU r1
        have R6 := rangeV tU r6
        have t1U := t1z.trans tU (by simp)
        have HQQ := Lib.hid (And.intro (HQB.out.1.turns t1U (by simp; omega)) (HQB.out.2.1.turns t1U (by simp; omega)))
        have HL3 := Lib.hid (And.intro (l3.keep (tU.keeps0 _)) (And.intro (d6.keep ChgR.lasts (tU.keeps0 _)) t1U))
        have S0 : Turns [q] U U := Turns.refl _ _
        clear bp l3 b6 d6 t1z r1 r6 hU tU t1U c1
        go_upto_region 6 with fail
        refine rk0 (fun _ => True) (fun W => Turns [q] U W) 3 4 ?_
        rw [← HUU.out]
        refine rkW 0 34 1 rfl (yieldsIf_load_mid (by rfl) _ _ rfl p 0 (by rfl) _ _ (fun W hS => rangeT hS.2 R1 (by simp; omega)) Tryz.underlying32 rfl hz1) (.mk' trivial S0) ?_
        try simp only [sI, sS, sZ]
        refine rkW 1 35 3 rfl (yieldsIf_load_mid (by rfl) _ _ rfl p6 0 (by rfl) _ _ (fun W hS => rangeT hS.2 R6 (by have := HV.out.2.2.2.2.2.2.2; simp; omega)) Tryz.underlying45 rfl hz6) (.mk' trivial S0) ?_
        try simp only [sI, sS, sZ]
        refine rk1 2 7 (fun K hK => ?_)
        refine wp_store_blk 32 _ _ (by rfl) q (by rfl) [.int .i64 (addLed L c).next, .slice A20 (addLed L c).opn.length c20, .slice A21 (addLed L c).blks.length c21, .slice A22 (addLed L c).txs.length c22] _ 32 (by rfl) HQQ.out.1 rfl hz1 (by intro u hu; simp at hu; rcases hu with rfl | rfl | rfl | rfl <;> rfl) (fun X60 hb60 ht60 => ?_)
        refine hK _ _ (.mk' trivial ht60) ?_
        clear hK K
        try simp only [sI, sS, sZ]
        refine rk1 3 15 (fun K hK => ?_)
        refine wp_store_blk 45 _ _ (by rfl) q5 (by rfl) [.int .i64 L.next, .slice A6 nC c6] _ 45 (by rfl) (HQQ.out.2.turns ht60 (by simp; omega)) rfl hz6 (by intro u hu; simp at hu; rcases hu with rfl | rfl <;> rfl) (fun X61 hb61 ht61 => ?_)
        have HEND := Lib.hid (And.intro hb60 (And.intro hb61 (And.intro ht60 ht61)))
        refine hK _ _ (.p trivial) ?_
        clear hK K
        try simp only [sI, sS, sZ]
        refine rkZ ?_
        go_wp2_with fail
        refine bodyPost_ret (results_cells2 rfl _ _ q q5 _ _ _ _ _ _ (by kernel_rfl) (by kernel_rfl) (HEND.out.1.turns HEND.out.2.2.2 (by simp; omega)) HEND.out.2.1 Tryz.underlying32 rfl (by rw [List.size_toArray]; exact hz1) Tryz.underlying45 rfl (by rw [List.size_toArray]; exact hz6)) rfl ?_
        obtain ⟨_, _, t60, t61⟩ := HEND.out
        obtain ⟨l3, d6, t1U⟩ := HL3.out
        have hw01 := HT0.out.size
        have tUe : Turns [q, q5] U X61 := (t60.mono (by simp)).trans t61 (fun x hx => .inl (by simp at hx; simp [hx]))
        have hks : ∀ x ∈ [q, q5], ¬ ((S x ∧ x < w0.heap.size) ∨ w1.heap.size ≤ x) := by
          intro x hx h
          simp at hx
          rcases h with ⟨_, h⟩ | h <;> rcases hx with rfl | rfl <;> omega
        have hmono : ∀ k, ((S k ∧ k < w0.heap.size) ∨ w1.heap.size ≤ k) → (S k ∨ w0.heap.size ≤ k) := by
          intro k hk
          rcases hk with ⟨h, _⟩ | h
          · exact .inl h
          · exact .inr (by omega)
        exact ⟨_, _, _, _, rfl, (l3.keep (tUe.keepsB _ (fun x hx _ => hks x hx))).mono (fun k _ hk => hmono k hk), (d6.keep ChgR.lasts (tUe.keepsB _ (fun x hx _ => hks x hx))).mono ChgR.lasts (fun k _ hk => hmono k hk),
          (HT0.out.trans t1U (by intro x hx; simp at hx; exact .inr (by omega))).trans tUe (by intro x hx; simp at hx; rcases hx with rfl | rfl <;> exact .inr (by omega))⟩
end Go.Proofs.YtoahnhphfabajaaGreat
