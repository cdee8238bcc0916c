/- The document's Close, walked. -/
import Derived.Test.YtoahnhphfabajaaGreatLdS
namespace Go.Proofs.YtoahnhphfabajaaGreat
open Go.RowKit
set_option linter.unusedVariables false
set_option maxRecDepth 10000
set_option linter.unusedSimpArgs false
set_option linter.unnecessarySimpa false

theorem TRBlo : SliceTy Tryz.prog 30 75 (.agg blo0.cells.toArray) 66 80 := ⟨Tryz.underlying30, by kernel_rfl, rfl, by omega⟩
/-- An append onto a row of one's own. -/
theorem own_app {t e : TypeId} {z : Value} {size bytes base n m B : Nat} {X : World} {v x : Value} {xs ys : List Value} (T : SliceTy Tryz.prog t e z size bytes) (h : X.ownsRow base e size v n xs) (hx : Sl X B size x m ys) (h1 : ∀ u ∈ ys, u.oneCell' = true)
    (hb : base ≤ X.heap.size) (hn : n ≤ 1000000) (hm : m ≤ 1000000) (hbs : bytes ≤ 100) (ty : TypeId) :
    ∃ A' c' w', (Builtin.append_ #[t, t] ty #[v, x]).run Tryz.prog X = .ok (.slice A' (n + m) c') w' ∧ w'.ownsRow base e size (.slice A' (n + m) c') (n + m) (xs ++ ys) ∧ Turns v.ownBlock.toList X w' ∧
      (∀ k, (Value.slice A' (n + m) c').ownBlock = some k → v.ownBlock = some k ∨ X.heap.size ≤ k) := by
  obtain ⟨v', w', hr, ap⟩ := run_append_rd (P := Tryz.prog) _ T ty h hx h1 (by simp only [maxLen]; omega) (by have := Nat.mul_le_mul (show n + m ≤ 2000000 by omega) hbs; omega) hb
  have hown := ap.own
  obtain ⟨A', c', rfl⟩ := own_formV hown
  refine ⟨A', c', w', hr, hown, Turns.of_grown ap.grown (by intro k hk; exact .inl (by simpa using hk)), fun k hk => ?_⟩
  rcases ap.lies with h | ⟨g, hg, hge⟩
  · exact .inl (by rw [← h]; exact hk)
  · rw [hg] at hk
    injection hk with hk
    subst hk
    exact .inr hge
/-- The empty literal. -/
theorem own_empty (w : World) (e : TypeId) (size : Nat) : (w.alloc (.cells #[] e)).ownsRow w.heap.size e size (.slice (some ⟨w.heap.size, 0, none⟩) 0 0) 0 [] := World.ownsRow_made w #[] 0 (Nat.le_refl _) (Nat.zero_le _) (by simp)
theorem Deep.sl' {α : Type} {R : World → (Nat → Prop) → List Value → α → Prop} {w : World} {S : Nat → Prop} {size : Nat} {v : Value} {l : List α} (h : Deep R w S size v l) : ∃ css : List (List Value), css.length = l.length ∧ (∀ c ∈ css, c.length = size) ∧ (∀ i (h : i < l.length) (h' : i < css.length), R w S css[i] l[i]) ∧ Sl w w.heap.size size v l.length css.flatten := by
  obtain ⟨css, h1, h2, h3, h4⟩ := h.css
  exact ⟨css, h1, h2, h3, h4.sl⟩
/-- A row's copy with one element more, the row's cells those. -/
theorem deep_more {α : Type} {R : World → (Nat → Prop) → List Value → α → Prop} (hR : Lasts R) {w : World} {S : Nat → Prop} {size base : Nat} {e : TypeId} {v : Value} {l : List α} {css : List (List Value)} {cs : List Value} {x : α}
    (h1 : css.length = l.length) (h2 : ∀ c ∈ css, c.length = size) (h3 : ∀ i (h : i < l.length) (h' : i < css.length), R w S css[i] l[i]) (hx : R w S cs x) (hcs : cs.length = size) (ho : w.ownsRow base e size v (l.length + 1) (css.flatten ++ cs)) (hv : ∀ k, v.ownBlock = some k → S k) :
    Deep R w S size v (l ++ [x]) := by
  refine Deep.mk' (css := css ++ [cs]) (by simp [h1]) (fun c hc => ?_) (fun i hi hi' => ?_) ?_
  · rcases List.mem_append.1 hc with hc | hc
    · exact h2 c hc
    · simp at hc; subst hc; exact hcs
  · by_cases hil : i < l.length
    · have e1 : (css ++ [cs])[i] = css[i]'(by omega) := List.getElem_append_left (by omega)
      have e2 : (l ++ [x])[i] = l[i] := List.getElem_append_left hil
      rw [e1, e2]
      exact h3 i hil (by omega)
    · obtain rfl : i = l.length := by simp at hi; omega
      have e1 : (css ++ [cs])[l.length]'hi' = cs := by rw [List.getElem_append_right (by omega)]; simp [h1]
      have e2 : (l ++ [x])[l.length]'hi = x := by simp
      rw [e1, e2]
      exact hx
  · have := SlS.of_own (S := S) ho hv
    simpa using this

theorem size_rled (a b c d : Value) : (Tryz.prog.info? 32).map (·.size) = some ([a, b, c, d] : List Value).length := by kernel_rfl
set_option maxRecDepth 100000 in
set_option maxHeartbeats 16000000 in
theorem RClose_any (L : Led) (hL : L.ok) (hne : 0 < L.opn.length) (ov bv tv : Value) (S : Nat → Prop) (w0 : World) (hd : LedR w0 S ov bv tv L) :
    Calls Tryz.prog 11 #[.agg #[.int .i64 L.next, ov, bv, tv]] w0 fun e w' => ∃ ov' bv' tv', e = .returned (.tuple #[.agg #[.int .i64 L.next, ov', bv', tv'], .int .i64 0]) ∧ LedR w' (fun b => S b ∨ w0.heap.size ≤ b) ov' bv' tv' (closeL L) ∧ Turns [] w0 w' := by
  obtain ⟨Ao, co, rfl, _⟩ := hd.opn.form
  obtain ⟨Ab, cb, rfl, _⟩ := hd.blks.form'
  obtain ⟨At, ct, rfl, _⟩ := hd.txs.form
  obtain ⟨nb, hnb⟩ : ∃ n, n = L.blks.length := ⟨_, rfl⟩
  obtain ⟨nO, hnO⟩ : ∃ n, n = L.opn.length := ⟨_, rfl⟩
  obtain ⟨nT, hnT⟩ : ∃ n, n = L.txs.length := ⟨_, rfl⟩
  have hb1 : nb ≤ 100000 := by rw [hnb]; exact hL.blks
  have hb2 : nO ≤ 1000 := by rw [hnO]; exact hL.opn
  have hb3 : nT ≤ 100000 := by rw [hnT]; exact hL.txs
  have HNN := Lib.hid (And.intro (show 0 < nO by omega) (And.intro hnb (And.intro hnO hnT)))
  have HD := Lib.hid (And.intro hd trivial)
  rw [← hnb, ← hnO, ← hnT]
  obtain ⟨p, hp⟩ : ∃ p, p = w0.heap.size := ⟨_, rfl⟩
  obtain ⟨w, hw⟩ : ∃ x, x = w0.alloc (.cells #[.int .i64 L.next, .slice Ao nO co, .slice Ab nb cb, .slice At nT ct] 32) := ⟨_, rfl⟩
  have bc := Blk.new w0 [.int .i64 L.next, .slice Ao nO co, .slice Ab nb cb, .slice At nT ct] 32
  have t0 := (Turns.refl [] w0).alloc (.cells #[.int .i64 L.next, .slice Ao nO co, .slice Ab nb cb, .slice At nT ct] 32)
  have hs0 : w.heap.size = w0.heap.size + 1 := by rw [hw]; simp
  rw [show w0.alloc (.cells [.int .i64 L.next, .slice Ao nO co, .slice Ab nb cb, .slice At nT ct].toArray 32) = w from hw.symm, ← hp] at bc
  rw [← hw] at t0
  obtain ⟨q, hq⟩ : ∃ p, p = w.heap.size := ⟨_, rfl⟩
  obtain ⟨w1, hw1⟩ : ∃ x, x = w.alloc (.cells #[.int .i64 0, .slice none 0 0, .slice none 0 0, .slice none 0 0] 32) := ⟨_, rfl⟩
  have bq := Blk.new w [.int .i64 0, .slice none 0 0, .slice none 0 0, .slice none 0 0] 32
  have t1 := (Turns.refl [] w).alloc (.cells #[.int .i64 0, .slice none 0 0, .slice none 0 0, .slice none 0 0] 32)
  have hs1 : w1.heap.size = w.heap.size + 1 := by rw [hw1]; simp
  rw [show w.alloc (.cells [.int .i64 0, .slice none 0 0, .slice none 0 0, .slice none 0 0].toArray 32) = w1 from hw1.symm, ← hq] at bq
  rw [← hw1] at t1
  have bp1 := bc.turns t1 (by simp)
  have c1 := bp1.cell 1
  have c2 := bp1.cell 2
  simp only [List.getElem?_cons_zero, List.getElem?_cons_succ] at c1 c2
  have HPB := Lib.hid bp1
  have HT0 := Lib.hid (t0.trans t1 (by simp))
  have HW := Lib.hid (And.intro hw hw1)
  have HP := Lib.hid (And.intro hp (show p + 1 = q by omega))
  have HQB := Lib.hid (And.intro bq (show w0.heap.size ≤ q ∧ q < w1.heap.size ∧ w0.heap.size ≤ p ∧ p < q by omega))
  have HL := Lib.hid hL
  clear bc t0 hw hw1 hp hq hs0 hs1 hd bq t1 bp1 hL hnb hnO hnT
  have hni : ((nO : Int) == 0) = false := beq_eq_false_iff_ne.2 (by have := HNN.out; omega)
  clear hne
  obtain ⟨Y, hY⟩ : ∃ q, q = w1.drew := ⟨_, rfl⟩
  have tY : Turns [] w1 Y := by rw [hY]; exact (Turns.refl _ _).drew
  have HYY := Lib.hid hY
  have HTY := Lib.hid tY
  have C2 := cellV tY c2
  have C1 := cellV tY c1
  have hrl := mroot_len _ (entries_all L.opn)
  obtain ⟨rr, hrr⟩ : ∃ r, r = mroot (L.opn.map entry) := ⟨_, rfl⟩
  have hr32 : rr.length = 32 := by rw [hrr]; exact hrl
  have HRR := Lib.hid (And.intro hrr hr32)
  have S0 : Turns [] Y Y := Turns.refl _ _
  clear hY tY hrl hrr hr32
  go_enter Tryz.func11, Tryz.ntmps11
  go_upto_region 1 with fail
  rw [← HW.out.1, ← HW.out.2, ← HP.out.1, HP.out.2]
  go_upto_region 3 with fail
  go_cut [4] (fun u wx => ∃ p4 : Nat, u = .pointer (some ⟨p4, 0, none⟩) ∧ w1.heap.size ≤ p4 ∧ Blk wx p4 (Blo.cells ⟨(nb : Int) + 1, zeros 32, rr, (nO : Int)⟩) 75 ∧ Turns [] w1 wx)
  case first =>
    refine rk0 (fun _ => True) (fun W => Turns [] Y W) 13 14 ?_
    rw [← HYY.out]
    refine rkA 0 10 1 (v := ?_) ?_ (.mk' trivial S0) ?_
    rotate_left
    · intro W hS; go_simp; all_goals with_reducible rfl
    try simp only [sI, sS, sZ]
    refine rkT 1 11 3 (v := ?_) ?_ (.mk' trivial S0) ?_
    rotate_left
    · rintro W ⟨-, hS⟩; have c0 := cellL hS C2 (by simp); go_simp; all_goals with_reducible rfl
    try simp only [sI, sS, sZ]
    refine rkA 2 12 7 (v := ?_) ?_ (.mk' trivial S0) ?_
    rotate_left
    · intro W hS; go_simp; all_goals with_reducible rfl
    try simp only [sI, sS, sZ]
    refine rkA 3 13 15 (v := ?_) ?_ (.mk' trivial S0) ?_
    rotate_left
    · intro W hS; go_simp; all_goals with_reducible rfl
    try simp only [sI, sS, sZ]
    refine rkA 4 14 31 (v := ?_) ?_ (.mk' trivial S0) ?_
    rotate_left
    · intro W hS; go_simp; all_goals with_reducible rfl
    try simp only [sI, sS, sZ]
    refine rkT 5 15 63 (v := ?_) ?_ (.mk' trivial S0) ?_
    rotate_left
    · rintro W ⟨-, hS⟩; have c0 := cellL hS C1 (by simp); go_simp; all_goals with_reducible rfl
    try simp only [sI, sS, sZ]
    refine rkA 8 18 319 (v := ?_) ?_ (.mk' trivial S0) ?_
    rotate_left
    · intro W hS; go_simp; all_goals with_reducible rfl
    try simp only [sI, sS, sZ]
    refine rkT 9 19 831 (v := ?_) ?_ (.mk' trivial S0) ?_
    rotate_left
    · rintro W ⟨-, hS⟩; have c0 := cellL hS C1 (by simp); go_simp; all_goals with_reducible rfl
    try simp only [sI, sS, sZ]
    refine rkA 10 20 1855 (v := ?_) ?_ (.mk' trivial S0) ?_
    rotate_left
    · intro W hS; go_simp; all_goals with_reducible rfl
    try simp only [sI, sS, sZ]
    refine rk2 6 12 1919 5951 (fun K hK => ?_) (fun K hK => ?_)
    · go_simp
      refine (by have h := Entries_any L.opn HL.out.opn HL.out.otx (.slice Ao L.opn.length co) S Y (HD.out.1.opn.keep TxR.lasts (((HT0.out.trans HTY.out (by simp)).trans (Turns.refl [] Y) (by simp)).keeps0 S)); rw [← HNN.out.2.2.1] at h; exact h : Calls Tryz.prog _ #[.slice Ao nO co] Y fun e w' => ∃ A' c', e = .returned (.slice A' nO c') ∧ HMine Y w' (.slice A' nO c') (L.opn.map entry)).mono ?_
      rintro e X16 ⟨A16, c16, rfl, m16⟩
      have D16 := m16.turns
      refine hK _ _ (.mk' trivial ((Turns.refl [] Y).trans D16 (by simp))) ?_
      clear hK K
      try simp only [sI, sS, sZ]
      refine rk2 7 12 2047 6015 (fun K hK => ?_) (fun K hK => ?_)
      · go_simp
        refine (refRoot_any nO (L.opn.map entry) nO (by rw [List.length_map]; exact HNN.out.2.2.1.symm) (Nat.le_refl _) (by omega) A16 c16 _ X16 ((m16.on (Turns.refl [] X16)).hs) (Nat.le_refl _)).mono ?_
        rintro e X17 ⟨rfl, D17⟩
        rw [← HRR.out.1]
        refine hK _ _ (.mk' trivial (((Turns.refl [] Y).trans D16 (by simp)).trans D17 (by simp))) ?_
        clear hK K
        try simp only [sI, sS, sZ]
        refine rkY 11 21 4095 rfl (yieldsIf_build (by rfl) 75 _ (by rfl) (Blo.cells ⟨(nb : Int) + 1, zeros 32, rr, (nO : Int)⟩).toArray (by have h := built_rblo ((nb : Int) + 1) (nO : Int) rr HRR.out.2; simpa [Act.eval, IntWalk.i64_in ((nb : Int) + 1) (by omega)] using h)) (.mk' trivial (((Turns.refl [] Y).trans D16 (by simp)).trans D17 (by simp))) ?_
        try simp only [sI, sS, sZ]
        refine rk1 12 8191 (fun K hK => ?_)
        refine wp_alloc_arr 75 (by rfl) blo0.cells.toArray zero_rblo ?_
        have b4 : Blk (X17.alloc (.cells blo0.cells.toArray 75)) X17.heap.size blo0.cells 75 := Blk.new _ _ _
        have D4 : Turns [] X17 (X17.alloc (.cells blo0.cells.toArray 75)) := (Turns.refl _ _).alloc _
        obtain ⟨p4, hp4⟩ : ∃ g, g = X17.heap.size := ⟨_, rfl⟩
        rw [← hp4] at b4 ⊢
        generalize X17.alloc (.cells blo0.cells.toArray 75) = X4 at b4 D4 ⊢
        have B4 := Lib.hid hp4
        clear hp4
        refine hK _ _ (.mk' trivial ((((Turns.refl [] Y).trans D16 (by simp)).trans D17 (by simp)).trans D4 (by simp))) ?_
        clear hK K
        try simp only [sI, sS, sZ]
        refine rk1 13 16383 (fun K hK => ?_)
        have b4 := b4.turns (Turns.refl [] X4) (by simp)
        refine wp_store_blk 75 _ _ (by rfl) p4 (by rfl) (Blo.cells ⟨(nb : Int) + 1, zeros 32, rr, (nO : Int)⟩) blo0.cells 75 (by rfl) b4 (by rw [Blo.cells_len blo0_ok, blo_len _ _ _ _ (zeros_length 32) HRR.out.2]) (size_rblo _ (blo_len _ _ _ _ (zeros_length 32) HRR.out.2)) (Blo.cells_one _) (fun X13 hb13 ht13 => ?_)
        have hlp : w1.heap.size ≤ p4 := by have h1 := HTY.out.size; have h2 := B4.out; have h3 := (((Turns.refl [] Y).trans D16 (by simp)).trans D17 (by simp)).size; omega
        have HFX := Lib.hid (And.intro hlp (And.intro hb13 ((HTY.out.trans ((((Turns.refl [] Y).trans D16 (by simp)).trans D17 (by simp)).trans D4 (by simp)) (by simp)).trans ht13 (by intro x hx; simp at hx; exact .inr (by omega)))))
        clear hlp
        refine hK _ _ (.p trivial) ?_
        clear hK K
        try simp only [sI, sS, sZ]
        refine rkZ ?_
        go_wp2_with fail
        go_meet
        exact ⟨p4, rfl, HFX.out.1, HFX.out.2.1, HFX.out.2.2⟩
      · refine wp_alloc_arr 75 (by rfl) blo0.cells.toArray zero_rblo ?_
        have b4 : Blk (X16.alloc (.cells blo0.cells.toArray 75)) X16.heap.size blo0.cells 75 := Blk.new _ _ _
        have D4 : Turns [] X16 (X16.alloc (.cells blo0.cells.toArray 75)) := (Turns.refl _ _).alloc _
        obtain ⟨p4, hp4⟩ : ∃ g, g = X16.heap.size := ⟨_, rfl⟩
        rw [← hp4] at b4 ⊢
        generalize X16.alloc (.cells blo0.cells.toArray 75) = X4 at b4 D4 ⊢
        have B4 := Lib.hid hp4
        clear hp4
        refine hK _ _ (.mk' trivial (((Turns.refl [] Y).trans D16 (by simp)).trans D4 (by simp))) ?_
        clear hK K
        try simp only [sI, sS, sZ]
        refine rk1 7 6143 (fun K hK => ?_)
        go_simp
        refine (refRoot_any nO (L.opn.map entry) nO (by rw [List.length_map]; exact HNN.out.2.2.1.symm) (Nat.le_refl _) (by omega) A16 c16 _ X4 ((m16.on ((Turns.refl [] X16).trans D4 (by simp))).hs) (Nat.le_refl _)).mono ?_
        rintro e X17 ⟨rfl, D17⟩
        rw [← HRR.out.1]
        refine hK _ _ (.mk' trivial ((((Turns.refl [] Y).trans D16 (by simp)).trans D4 (by simp)).trans D17 (by simp))) ?_
        clear hK K
        try simp only [sI, sS, sZ]
        refine rkY 11 21 8191 rfl (yieldsIf_build (by rfl) 75 _ (by rfl) (Blo.cells ⟨(nb : Int) + 1, zeros 32, rr, (nO : Int)⟩).toArray (by have h := built_rblo ((nb : Int) + 1) (nO : Int) rr HRR.out.2; simpa [Act.eval, IntWalk.i64_in ((nb : Int) + 1) (by omega)] using h)) (.mk' trivial ((((Turns.refl [] Y).trans D16 (by simp)).trans D4 (by simp)).trans D17 (by simp))) ?_
        try simp only [sI, sS, sZ]
        refine rk1 13 16383 (fun K hK => ?_)
        have b4 := b4.turns ((Turns.refl [] X4).trans D17 (by simp)) (by simp)
        refine wp_store_blk 75 _ _ (by rfl) p4 (by rfl) (Blo.cells ⟨(nb : Int) + 1, zeros 32, rr, (nO : Int)⟩) blo0.cells 75 (by rfl) b4 (by rw [Blo.cells_len blo0_ok, blo_len _ _ _ _ (zeros_length 32) HRR.out.2]) (size_rblo _ (blo_len _ _ _ _ (zeros_length 32) HRR.out.2)) (Blo.cells_one _) (fun X13 hb13 ht13 => ?_)
        have hlp : w1.heap.size ≤ p4 := by have h1 := HTY.out.size; have h2 := B4.out; have h3 := ((Turns.refl [] Y).trans D16 (by simp)).size; omega
        have HFX := Lib.hid (And.intro hlp (And.intro hb13 ((HTY.out.trans ((((Turns.refl [] Y).trans D16 (by simp)).trans D4 (by simp)).trans D17 (by simp)) (by simp)).trans ht13 (by intro x hx; simp at hx; exact .inr (by omega)))))
        clear hlp
        refine hK _ _ (.p trivial) ?_
        clear hK K
        try simp only [sI, sS, sZ]
        refine rkZ ?_
        go_wp2_with fail
        go_meet
        exact ⟨p4, rfl, HFX.out.1, HFX.out.2.1, HFX.out.2.2⟩
    · refine wp_alloc_arr 75 (by rfl) blo0.cells.toArray zero_rblo ?_
      have b4 : Blk (Y.alloc (.cells blo0.cells.toArray 75)) Y.heap.size blo0.cells 75 := Blk.new _ _ _
      have D4 : Turns [] Y (Y.alloc (.cells blo0.cells.toArray 75)) := (Turns.refl _ _).alloc _
      obtain ⟨p4, hp4⟩ : ∃ g, g = Y.heap.size := ⟨_, rfl⟩
      rw [← hp4] at b4 ⊢
      generalize Y.alloc (.cells blo0.cells.toArray 75) = X4 at b4 D4 ⊢
      have B4 := Lib.hid hp4
      clear hp4
      refine hK _ _ (.mk' trivial ((Turns.refl [] Y).trans D4 (by simp))) ?_
      clear hK K
      try simp only [sI, sS, sZ]
      refine rk1 6 6015 (fun K hK => ?_)
      go_simp
      refine (by have h := Entries_any L.opn HL.out.opn HL.out.otx (.slice Ao L.opn.length co) S X4 (HD.out.1.opn.keep TxR.lasts (((HT0.out.trans HTY.out (by simp)).trans ((Turns.refl [] Y).trans D4 (by simp)) (by simp)).keeps0 S)); rw [← HNN.out.2.2.1] at h; exact h : Calls Tryz.prog _ #[.slice Ao nO co] X4 fun e w' => ∃ A' c', e = .returned (.slice A' nO c') ∧ HMine X4 w' (.slice A' nO c') (L.opn.map entry)).mono ?_
      rintro e X16 ⟨A16, c16, rfl, m16⟩
      have D16 := m16.turns
      refine hK _ _ (.mk' trivial (((Turns.refl [] Y).trans D4 (by simp)).trans D16 (by simp))) ?_
      clear hK K
      try simp only [sI, sS, sZ]
      refine rk1 7 6143 (fun K hK => ?_)
      go_simp
      refine (refRoot_any nO (L.opn.map entry) nO (by rw [List.length_map]; exact HNN.out.2.2.1.symm) (Nat.le_refl _) (by omega) A16 c16 _ X16 ((m16.on (Turns.refl [] X16)).hs) (Nat.le_refl _)).mono ?_
      rintro e X17 ⟨rfl, D17⟩
      rw [← HRR.out.1]
      refine hK _ _ (.mk' trivial ((((Turns.refl [] Y).trans D4 (by simp)).trans D16 (by simp)).trans D17 (by simp))) ?_
      clear hK K
      try simp only [sI, sS, sZ]
      refine rkY 11 21 8191 rfl (yieldsIf_build (by rfl) 75 _ (by rfl) (Blo.cells ⟨(nb : Int) + 1, zeros 32, rr, (nO : Int)⟩).toArray (by have h := built_rblo ((nb : Int) + 1) (nO : Int) rr HRR.out.2; simpa [Act.eval, IntWalk.i64_in ((nb : Int) + 1) (by omega)] using h)) (.mk' trivial ((((Turns.refl [] Y).trans D4 (by simp)).trans D16 (by simp)).trans D17 (by simp))) ?_
      try simp only [sI, sS, sZ]
      refine rk1 13 16383 (fun K hK => ?_)
      have b4 := b4.turns (((Turns.refl [] X4).trans D16 (by simp)).trans D17 (by simp)) (by simp)
      refine wp_store_blk 75 _ _ (by rfl) p4 (by rfl) (Blo.cells ⟨(nb : Int) + 1, zeros 32, rr, (nO : Int)⟩) blo0.cells 75 (by rfl) b4 (by rw [Blo.cells_len blo0_ok, blo_len _ _ _ _ (zeros_length 32) HRR.out.2]) (size_rblo _ (blo_len _ _ _ _ (zeros_length 32) HRR.out.2)) (Blo.cells_one _) (fun X13 hb13 ht13 => ?_)
      have hlp : w1.heap.size ≤ p4 := by have h1 := HTY.out.size; have h2 := B4.out; have h3 := (Turns.refl [] Y).size; omega
      have HFX := Lib.hid (And.intro hlp (And.intro hb13 ((HTY.out.trans ((((Turns.refl [] Y).trans D4 (by simp)).trans D16 (by simp)).trans D17 (by simp)) (by simp)).trans ht13 (by intro x hx; simp at hx; exact .inr (by omega)))))
      clear hlp
      refine hK _ _ (.p trivial) ?_
      clear hK K
      try simp only [sI, sS, sZ]
      refine rkZ ?_
      go_wp2_with fail
      go_meet
      exact ⟨p4, rfl, HFX.out.1, HFX.out.2.1, HFX.out.2.2⟩
  case rest =>
    generalize wc = wx at *
    obtain ⟨p4, rfl, hp4, b4, tx⟩ := hcut
    clear C1 C2 S0
    have c2x := cellV tx c2
    have HX := Lib.hid (And.intro hp4 (And.intro b4 tx))
    clear hp4 b4 tx
    go_upto_if 25 with fail
    go_cut [] (fun wy => Blk wy p4 (newBlo L.blks L.opn).cells 75 ∧ Turns [] w1 wy)
    case first =>
      by_cases h0 : 0 < nb
      · have h0i : (0 : Int) < (nb : Int) := by omega
        have hbl : 0 < L.blks.length := by have := HNN.out; omega
        obtain ⟨b, off, cc, hv, _, hb, rg0⟩ := blo_at HD.out.1.blks HL.out.blo (L.blks.length - 1) (by omega)
        have rg := rangeV (HT0.out.trans HX.out.2.2 (by simp)) rg0
        clear rg0
        injection hv with e1 e2 e3
        subst e1 e3
        clear e2
        have hck := HL.out.blo _ (List.getElem_mem (show L.blks.length - 1 < L.blks.length by omega))
        have hlast := lastH_get L.blks hbl
        obtain ⟨bl, hbl'⟩ : ∃ c, c = L.blks[L.blks.length - 1]'(by omega) := ⟨_, rfl⟩
        rw [← hbl'] at rg hck hlast
        rw [← HNN.out.2.1] at rg
        obtain ⟨cs, hcs⟩ : ∃ c, c = bl.cells := ⟨_, rfl⟩
        rw [← hcs] at rg
        have hz1 := size_rblo cs (by rw [hcs]; exact Blo.cells_len hck)
        have CH := RHash_any bl hck wx
        rw [← hcs] at CH
        have HCH := Lib.hid CH
        have HLA := Lib.hid (And.intro hlast (bloH_len bl))
        have hw1 : IntKind.i64.wrap ((nb : Int) - 1) = ((nb - 1 : Nat) : Int) := by rw [IntWalk.i64_in _ (by omega)]; omega
        have hk1 : (((nb - 1 : Nat) : Int)) < (nb : Int) := by omega
        clear hck hlast hbl' hcs CH hb hbl
        go_wp2_with (first
          | (refine wpList_load_mid rfl 75 (.tmp 32) rfl b (off + (nb - 1) * 66) (by kernel_rfl) _ _ rg Tryz.underlying75 rfl hz1 ?_)
          | fail)
        refine HCH.out.mono ?_
        rintro e x2 ⟨rfl, t2⟩
        have b5 := HX.out.2.1.turns t2 (by simp)
        have th := b5.there 1 32 (by rw [blo_len _ _ _ _ (zeros_length 32) HRR.out.2]; omega)
        obtain ⟨hh, hhh⟩ : ∃ h, h = bvs (bloH bl) := ⟨_, rfl⟩
        have hhl : hh.length = 32 := by rw [hhh, bvs_length, HLA.out.2]
        have b6 := b5.setCells (bvs (bloH bl)) 1
        rw [spl_prev _ _ _ _ _ (zeros_length 32) HLA.out.2] at b6
        have heq : (⟨(nb : Int) + 1, bloH bl, rr, (nO : Int)⟩ : Blo) = newBlo L.blks L.opn := by
          unfold newBlo
          rw [HLA.out.1, ← HNN.out.2.1, ← HNN.out.2.2.1, HRR.out.1]
        rw [heq, ← hhh] at b6
        have t6 : Turns [] w1 (x2.setCells p4 1 hh) := (HX.out.2.2.trans t2 (by simp)).trans (Turns.setCells (L := [p4]) (.inl (by simp)) hh 1 (Turns.refl _ _)) (by intro x hx; simp at hx; exact .inr (by have := HX.out.1; omega))
        have HFX := Lib.hid (And.intro b6 t6)
        have hsz : (Tryz.prog.info? 53).map (·.size) = some hh.toArray.size := by rw [List.size_toArray, hhl]; exact size_hash
        have h1 : hh.toArray.all (·.oneCell') = true := all_oneCell_toArray (by rw [hhh]; exact bvs_one _)
        rw [← hhh]
        have th : x2.there p4 1 hh.toArray.size := by rw [List.size_toArray, hhl]; exact th
        clear b5 b6 t6 t2 heq hhh hhl rg
        go_wp2_with (first
          | (refine wpList_store_mid rfl 53 (.tmp 35) (.tmp 34) rfl p4 1 hh.toArray (by kernel_rfl) (by kernel_rfl) th hsz h1 ?_)
          | fail)
        go_meet
        exact ⟨HFX.out.1, HFX.out.2⟩
      · have h0i : ¬ (0 : Int) < (nb : Int) := by omega
        have heq : (⟨(nb : Int) + 1, zeros 32, rr, (nO : Int)⟩ : Blo) = newBlo L.blks L.opn := by
          have : L.blks = [] := List.eq_nil_of_length_eq_zero (by have := HNN.out; omega)
          unfold newBlo
          rw [this, lastH_nil, ← HNN.out.2.2.1, HRR.out.1]
          congr 1
          simp; omega
        have HFX := Lib.hid (show Blk wx p4 (newBlo L.blks L.opn).cells 75 by rw [← heq]; exact HX.out.2.1)
        clear heq
        go_wp2_with fail
        go_meet
        exact ⟨HFX.out, HX.out.2.2⟩
    case rest =>
      generalize wc = wy at *
      obtain ⟨b4, ty⟩ := hcut
      clear c2x
      obtain ⟨cs, hcs⟩ : ∃ c, c = (newBlo L.blks L.opn).cells := ⟨_, rfl⟩
      rw [← hcs] at b4
      have hcl : cs.length = 66 := by rw [hcs]; exact Blo.cells_len (newBlo_ok _ _)
      have hc1 : ∀ u ∈ cs, u.oneCell' = true := by rw [hcs]; exact Blo.cells_one _
      have HCS := Lib.hid (And.intro hcs (And.intro hcl hc1))
      have hz1 := size_rblo cs hcl
      obtain ⟨Z, hZ⟩ : ∃ q, q = wy.drew := ⟨_, rfl⟩
      have tZ : Turns [] wy Z := by rw [hZ]; exact (Turns.refl _ _).drew
      have HZZ := Lib.hid hZ
      have twZ := ty.trans tZ (by simp)
      have R4 := (b4.turns tZ (by simp)).all
      have bp := HPB.out.turns twZ (by simp)
      have C2 := bp.cell 2
      simp only [List.getElem?_cons_zero, List.getElem?_cons_succ] at C2
      have slb := HD.out.1.blks.keep ((HT0.out.trans twZ (by simp)).keeps0 S)
      rw [← HNN.out.2.1] at slb
      have HZ := Lib.hid (And.intro bp (And.intro slb.sl (And.intro twZ HX.out.1)))
      have S0 : Turns [] Z Z := Turns.refl _ _
      clear hcs hcl hc1 b4 ty hZ tZ twZ bp slb HX
      go_upto_region 6 with fail
      go_cut [] (fun wz => ∃ A c, Blk wz p [.int .i64 L.next, .slice Ao nO co, .slice A (nb + 1) c, .slice At nT ct] 32 ∧ wz.ownsRow w1.heap.size 75 66 (.slice A (nb + 1) c) (nb + 1) (bloCells L.blks ++ cs) ∧ Turns [p] w1 wz)
      case first =>
        refine rk0 (fun _ => True) (fun W => Turns [] Z W) 8 9 ?_
        rw [← HZZ.out]
        refine rkA 1 37 2 (v := ?_) ?_ (.mk' trivial S0) ?_
        rotate_left
        · intro W hS; go_simp; all_goals with_reducible rfl
        try simp only [sI, sS, sZ]
        refine rkT 2 38 6 (v := ?_) ?_ (.mk' trivial S0) ?_
        rotate_left
        · rintro W ⟨-, hS⟩; have c0 := cellL hS C2 (by simp); go_simp; all_goals with_reducible rfl
        try simp only [sI, sS, sZ]
        refine rkW 4 40 22 rfl (yieldsIf_load_mid (by rfl) _ _ rfl p4 0 (by rfl) cs _ (fun W hS => rangeV hS.2 R4) Tryz.underlying75 rfl hz1) (.mk' trivial S0) ?_
        try simp only [sI, sS, sZ]
        refine rk2 0 5 23 54 (fun K hK => ?_) (fun K hK => ?_)
        · go_simp
          have o36 := own_empty Z 75 66
          have D36 : Turns [] Z (Z.alloc (.cells #[] 75)) := (Turns.refl _ _).alloc _
          have TZ36 : Turns [] Z (Z.alloc (.cells #[] 75)) := (Turns.refl [] Z).trans D36 (by simp)
          obtain ⟨g36, hg36⟩ : ∃ g, g = Z.heap.size := ⟨_, rfl⟩
          rw [← hg36] at o36 ⊢
          have zz : Z.heap.size ≤ g36 := by rw [hg36]; exact (Turns.refl [] Z).size
          have ylt : g36 < (Z.alloc (.cells #[] 75)).heap.size := by rw [hg36]; simp
          generalize Z.alloc (.cells #[] 75) = X36 at o36 D36 TZ36 ylt ⊢
          have B36 := Lib.hid (And.intro hg36 (And.intro zz ylt))
          clear hg36 zz ylt
          refine hK _ _ (.mk' trivial TZ36) ?_
          clear hK K
          try simp only [sI, sS, sZ]
          refine rk2 3 5 31 55 (fun K hK => ?_) (fun K hK => ?_)
          · obtain ⟨A39, c39, X39, hr39, o39, t39, l39⟩ := own_app TRBlo (own_more (base := Z.heap.size) (o36) (by have := B36.out; omega)) ((TZ36.slice HZ.out.2.1 (Nat.le_refl _) (by simp))) (bloCells_one _) TZ36.size (by omega) (by omega) (by omega) 30
            rw [Nat.zero_add] at hr39 o39 l39
            rw [List.nil_append] at o39
            have TZ39 : Turns [] Z X39 := TZ36.trans t39 (by intro x hx; simp [Value.ownBlock] at hx; exact .inr (by have := B36.out; omega))
            refine wp_append_run (P := Tryz.prog) (w := X36) (.tmp 36) (.tmp 38) (by rfl) (vs := _) (vx := _) (by rfl) (by rfl) (R := fun v w' => Value.slice A39 nb c39 = v ∧ X39 = w') ⟨_, _, hr39, rfl, rfl⟩ ?_
            rintro _ _ ⟨rfl, rfl⟩
            refine hK _ _ (.mk' trivial TZ39) ?_
            clear hK K
            try simp only [sI, sS, sZ]
            refine rk1 5 63 (fun K hK => ?_)
            refine wp_build_one TRBlo (by omega) (by omega) cs HCS.out.2.1 (.tmp 40) (by rfl) (by rfl) ?_
            have L41 : Sl (X39.alloc (.cells cs.toArray 75)) (X39.alloc (.cells cs.toArray 75)).heap.size 66 (.slice (some ⟨X39.heap.size, 0, none⟩) 1 1) 1 cs := by
              have := Sl.new X39 cs.toArray 75 1 66 (by simp [HCS.out.2.1]) (by simp [maxLen])
              exact this.more (by simp)
            have D41 : Turns [] X39 (X39.alloc (.cells cs.toArray 75)) := (Turns.refl _ _).alloc _
            have TZ41 : Turns [] Z (X39.alloc (.cells cs.toArray 75)) := TZ39.trans D41 (by simp)
            obtain ⟨g41, hg41⟩ : ∃ g, g = X39.heap.size := ⟨_, rfl⟩
            rw [← hg41] at L41 ⊢
            have ylt : g41 < (X39.alloc (.cells cs.toArray 75)).heap.size := by rw [hg41]; simp
            generalize X39.alloc (.cells cs.toArray 75) = X41 at L41 D41 TZ41 ylt ⊢
            have B41 := Lib.hid (And.intro hg41 ylt)
            clear hg41 ylt
            refine hK _ _ (.mk' trivial TZ41) ?_
            clear hK K
            try simp only [sI, sS, sZ]
            refine rk1 6 127 (fun K hK => ?_)
            obtain ⟨A42, c42, X42, hr42, o42, t42, l42⟩ := own_app TRBlo (own_v0 o39 D41) L41 HCS.out.2.2 TZ41.size (by omega) (by omega) (by omega) 30
            have TZ42 : Turns [] Z X42 := TZ41.trans t42 (by intro x hx; exact .inr ((own_v0 o39 D41).lt x (by simpa using hx)).1)
            refine wp_append_run (P := Tryz.prog) (w := X41) (.tmp 39) (.tmp 41) (by rfl) (vs := _) (vx := _) (by rfl) (by rfl) (R := fun v w' => Value.slice A42 (nb + 1) c42 = v ∧ X42 = w') ⟨_, _, hr42, rfl, rfl⟩ ?_
            rintro _ _ ⟨rfl, rfl⟩
            have b42 := HZ.out.1.turns TZ42 (by simp)
            have k2 := b42.cell 2
            have z2 := b42.free 2
            simp only [List.getElem?_cons_zero, List.getElem?_cons_succ] at k2
            refine hK _ _ (.mk' trivial TZ42) ?_
            clear hK K
            try simp only [sI, sS, sZ]
            refine rkA 7 43 255 (v := ?_) ?_ (.mk' trivial TZ42) ?_
            rotate_left
            · intro W hS; go_simp; all_goals with_reducible rfl
            try simp only [sI, sS, sZ]
            refine rk1 8 511 (fun K hK => ?_)
            go_simp
            have HFX := Lib.hid (And.intro (b42.set 2 (.slice A42 (nb + 1) c42)) (And.intro o42 TZ42))
            refine hK _ _ (.p trivial) ?_
            clear hK K
            try simp only [sI, sS, sZ]
            refine rkZ ?_
            go_wp2_with fail
            go_meet
            have tp : Turns [p] X42 (X42.setCell ⟨p, 2, none⟩ (.slice A42 (nb + 1) c42)) := (Turns.refl _ _).setCell (.inl (by simp)) _
            have hpb : p < w1.heap.size := by have := HQB.out; omega
            exact ⟨_, _, HFX.out.1, own_more (own_vL HFX.out.2.1 tp (by intro x hx e; simp at hx; have h1 := (HFX.out.2.1.lt x e).1; have h2 := HZ.out.2.2.1.size; omega)) HZ.out.2.2.1.size, ((HZ.out.2.2.1.trans HFX.out.2.2 (by simp)).mono (by simp)).trans tp (fun x hx => .inl hx)⟩
          · refine wp_build_one TRBlo (by omega) (by omega) cs HCS.out.2.1 (.tmp 40) (by rfl) (by rfl) ?_
            have L41 : Sl (X36.alloc (.cells cs.toArray 75)) (X36.alloc (.cells cs.toArray 75)).heap.size 66 (.slice (some ⟨X36.heap.size, 0, none⟩) 1 1) 1 cs := by
              have := Sl.new X36 cs.toArray 75 1 66 (by simp [HCS.out.2.1]) (by simp [maxLen])
              exact this.more (by simp)
            have D41 : Turns [] X36 (X36.alloc (.cells cs.toArray 75)) := (Turns.refl _ _).alloc _
            have TZ41 : Turns [] Z (X36.alloc (.cells cs.toArray 75)) := TZ36.trans D41 (by simp)
            obtain ⟨g41, hg41⟩ : ∃ g, g = X36.heap.size := ⟨_, rfl⟩
            rw [← hg41] at L41 ⊢
            have ylt : g41 < (X36.alloc (.cells cs.toArray 75)).heap.size := by rw [hg41]; simp
            generalize X36.alloc (.cells cs.toArray 75) = X41 at L41 D41 TZ41 ylt ⊢
            have B41 := Lib.hid (And.intro hg41 ylt)
            clear hg41 ylt
            refine hK _ _ (.mk' trivial TZ41) ?_
            clear hK K
            try simp only [sI, sS, sZ]
            refine rk1 3 63 (fun K hK => ?_)
            obtain ⟨A39, c39, X39, hr39, o39, t39, l39⟩ := own_app TRBlo (own_more (base := Z.heap.size) (own_v0 o36 D41) (by have := B36.out; omega)) ((TZ41.slice HZ.out.2.1 (Nat.le_refl _) (by simp))) (bloCells_one _) TZ41.size (by omega) (by omega) (by omega) 30
            rw [Nat.zero_add] at hr39 o39 l39
            rw [List.nil_append] at o39
            have TZ39 : Turns [] Z X39 := TZ41.trans t39 (by intro x hx; simp [Value.ownBlock] at hx; exact .inr (by have := B36.out; omega))
            refine wp_append_run (P := Tryz.prog) (w := X41) (.tmp 36) (.tmp 38) (by rfl) (vs := _) (vx := _) (by rfl) (by rfl) (R := fun v w' => Value.slice A39 nb c39 = v ∧ X39 = w') ⟨_, _, hr39, rfl, rfl⟩ ?_
            rintro _ _ ⟨rfl, rfl⟩
            refine hK _ _ (.mk' trivial TZ39) ?_
            clear hK K
            try simp only [sI, sS, sZ]
            refine rk1 6 127 (fun K hK => ?_)
            obtain ⟨A42, c42, X42, hr42, o42, t42, l42⟩ := own_app TRBlo (o39) (t39.slice L41 (by first | exact Nat.le_refl _ | exact D36.size) (by intro x hx e; simp [Value.ownBlock] at hx e; have := B36.out; have := B41.out; omega)) HCS.out.2.2 TZ39.size (by omega) (by omega) (by omega) 30
            have TZ42 : Turns [] Z X42 := TZ39.trans t42 (by intro x hx; exact .inr ((o39).lt x (by simpa using hx)).1)
            refine wp_append_run (P := Tryz.prog) (w := X39) (.tmp 39) (.tmp 41) (by rfl) (vs := _) (vx := _) (by rfl) (by rfl) (R := fun v w' => Value.slice A42 (nb + 1) c42 = v ∧ X42 = w') ⟨_, _, hr42, rfl, rfl⟩ ?_
            rintro _ _ ⟨rfl, rfl⟩
            have b42 := HZ.out.1.turns TZ42 (by simp)
            have k2 := b42.cell 2
            have z2 := b42.free 2
            simp only [List.getElem?_cons_zero, List.getElem?_cons_succ] at k2
            refine hK _ _ (.mk' trivial TZ42) ?_
            clear hK K
            try simp only [sI, sS, sZ]
            refine rkA 7 43 255 (v := ?_) ?_ (.mk' trivial TZ42) ?_
            rotate_left
            · intro W hS; go_simp; all_goals with_reducible rfl
            try simp only [sI, sS, sZ]
            refine rk1 8 511 (fun K hK => ?_)
            go_simp
            have HFX := Lib.hid (And.intro (b42.set 2 (.slice A42 (nb + 1) c42)) (And.intro o42 TZ42))
            refine hK _ _ (.p trivial) ?_
            clear hK K
            try simp only [sI, sS, sZ]
            refine rkZ ?_
            go_wp2_with fail
            go_meet
            have tp : Turns [p] X42 (X42.setCell ⟨p, 2, none⟩ (.slice A42 (nb + 1) c42)) := (Turns.refl _ _).setCell (.inl (by simp)) _
            have hpb : p < w1.heap.size := by have := HQB.out; omega
            exact ⟨_, _, HFX.out.1, own_more (own_vL HFX.out.2.1 tp (by intro x hx e; simp at hx; have h1 := (HFX.out.2.1.lt x e).1; have h2 := HZ.out.2.2.1.size; omega)) HZ.out.2.2.1.size, ((HZ.out.2.2.1.trans HFX.out.2.2 (by simp)).mono (by simp)).trans tp (fun x hx => .inl hx)⟩
        · refine wp_build_one TRBlo (by omega) (by omega) cs HCS.out.2.1 (.tmp 40) (by rfl) (by rfl) ?_
          have L41 : Sl (Z.alloc (.cells cs.toArray 75)) (Z.alloc (.cells cs.toArray 75)).heap.size 66 (.slice (some ⟨Z.heap.size, 0, none⟩) 1 1) 1 cs := by
            have := Sl.new Z cs.toArray 75 1 66 (by simp [HCS.out.2.1]) (by simp [maxLen])
            exact this.more (by simp)
          have D41 : Turns [] Z (Z.alloc (.cells cs.toArray 75)) := (Turns.refl _ _).alloc _
          have TZ41 : Turns [] Z (Z.alloc (.cells cs.toArray 75)) := (Turns.refl [] Z).trans D41 (by simp)
          obtain ⟨g41, hg41⟩ : ∃ g, g = Z.heap.size := ⟨_, rfl⟩
          rw [← hg41] at L41 ⊢
          have ylt : g41 < (Z.alloc (.cells cs.toArray 75)).heap.size := by rw [hg41]; simp
          generalize Z.alloc (.cells cs.toArray 75) = X41 at L41 D41 TZ41 ylt ⊢
          have B41 := Lib.hid (And.intro hg41 ylt)
          clear hg41 ylt
          refine hK _ _ (.mk' trivial TZ41) ?_
          clear hK K
          try simp only [sI, sS, sZ]
          refine rk1 0 55 (fun K hK => ?_)
          go_simp
          have o36 := own_empty X41 75 66
          have D36 : Turns [] X41 (X41.alloc (.cells #[] 75)) := (Turns.refl _ _).alloc _
          have TZ36 : Turns [] Z (X41.alloc (.cells #[] 75)) := TZ41.trans D36 (by simp)
          obtain ⟨g36, hg36⟩ : ∃ g, g = X41.heap.size := ⟨_, rfl⟩
          rw [← hg36] at o36 ⊢
          have zz : Z.heap.size ≤ g36 := by rw [hg36]; exact TZ41.size
          have ylt : g36 < (X41.alloc (.cells #[] 75)).heap.size := by rw [hg36]; simp
          generalize X41.alloc (.cells #[] 75) = X36 at o36 D36 TZ36 ylt ⊢
          have B36 := Lib.hid (And.intro hg36 (And.intro zz ylt))
          clear hg36 zz ylt
          refine hK _ _ (.mk' trivial TZ36) ?_
          clear hK K
          try simp only [sI, sS, sZ]
          refine rk1 3 63 (fun K hK => ?_)
          obtain ⟨A39, c39, X39, hr39, o39, t39, l39⟩ := own_app TRBlo (own_more (base := Z.heap.size) (o36) (by have := B36.out; omega)) ((TZ36.slice HZ.out.2.1 (Nat.le_refl _) (by simp))) (bloCells_one _) TZ36.size (by omega) (by omega) (by omega) 30
          rw [Nat.zero_add] at hr39 o39 l39
          rw [List.nil_append] at o39
          have TZ39 : Turns [] Z X39 := TZ36.trans t39 (by intro x hx; simp [Value.ownBlock] at hx; exact .inr (by have := B36.out; omega))
          refine wp_append_run (P := Tryz.prog) (w := X36) (.tmp 36) (.tmp 38) (by rfl) (vs := _) (vx := _) (by rfl) (by rfl) (R := fun v w' => Value.slice A39 nb c39 = v ∧ X39 = w') ⟨_, _, hr39, rfl, rfl⟩ ?_
          rintro _ _ ⟨rfl, rfl⟩
          refine hK _ _ (.mk' trivial TZ39) ?_
          clear hK K
          try simp only [sI, sS, sZ]
          refine rk1 6 127 (fun K hK => ?_)
          obtain ⟨A42, c42, X42, hr42, o42, t42, l42⟩ := own_app TRBlo (o39) (t39.slice (D36.slice L41 (Nat.le_refl _) (by simp)) (by first | exact Nat.le_refl _ | exact D36.size) (by intro x hx e; simp [Value.ownBlock] at hx e; have := B36.out; have := B41.out; omega)) HCS.out.2.2 TZ39.size (by omega) (by omega) (by omega) 30
          have TZ42 : Turns [] Z X42 := TZ39.trans t42 (by intro x hx; exact .inr ((o39).lt x (by simpa using hx)).1)
          refine wp_append_run (P := Tryz.prog) (w := X39) (.tmp 39) (.tmp 41) (by rfl) (vs := _) (vx := _) (by rfl) (by rfl) (R := fun v w' => Value.slice A42 (nb + 1) c42 = v ∧ X42 = w') ⟨_, _, hr42, rfl, rfl⟩ ?_
          rintro _ _ ⟨rfl, rfl⟩
          have b42 := HZ.out.1.turns TZ42 (by simp)
          have k2 := b42.cell 2
          have z2 := b42.free 2
          simp only [List.getElem?_cons_zero, List.getElem?_cons_succ] at k2
          refine hK _ _ (.mk' trivial TZ42) ?_
          clear hK K
          try simp only [sI, sS, sZ]
          refine rkA 7 43 255 (v := ?_) ?_ (.mk' trivial TZ42) ?_
          rotate_left
          · intro W hS; go_simp; all_goals with_reducible rfl
          try simp only [sI, sS, sZ]
          refine rk1 8 511 (fun K hK => ?_)
          go_simp
          have HFX := Lib.hid (And.intro (b42.set 2 (.slice A42 (nb + 1) c42)) (And.intro o42 TZ42))
          refine hK _ _ (.p trivial) ?_
          clear hK K
          try simp only [sI, sS, sZ]
          refine rkZ ?_
          go_wp2_with fail
          go_meet
          have tp : Turns [p] X42 (X42.setCell ⟨p, 2, none⟩ (.slice A42 (nb + 1) c42)) := (Turns.refl _ _).setCell (.inl (by simp)) _
          have hpb : p < w1.heap.size := by have := HQB.out; omega
          exact ⟨_, _, HFX.out.1, own_more (own_vL HFX.out.2.1 tp (by intro x hx e; simp at hx; have h1 := (HFX.out.2.1.lt x e).1; have h2 := HZ.out.2.2.1.size; omega)) HZ.out.2.2.1.size, ((HZ.out.2.2.1.trans HFX.out.2.2 (by simp)).mono (by simp)).trans tp (fun x hx => .inl hx)⟩
      case rest =>
        generalize wc = wz at *
        obtain ⟨Ab2, cb2, bp, ob, tz⟩ := hcut
        clear C2 S0 R4
        obtain ⟨V, hV⟩ : ∃ q, q = wz.drew := ⟨_, rfl⟩
        have tV : Turns [] wz V := by rw [hV]; exact (Turns.refl _ _).drew
        have HVV := Lib.hid hV
        have bpV := bp.turns tV (by simp)
        have C1 := bpV.cell 1
        have C3 := bpV.cell 3
        simp only [List.getElem?_cons_zero, List.getElem?_cons_succ] at C1 C3
        have twV := tz.trans tV (by simp)
        have hpw1 : p < w1.heap.size := by have := HQB.out; omega
        have t0V : Turns [] w0 V := HT0.out.trans twV (by intro x hx; simp at hx; have := HQB.out; exact .inr (by omega))
        obtain ⟨css, h1, h2, h3, slx0⟩ := HD.out.1.txs.sl'
        have slx := (t0V.slice slx0 (Nat.le_refl _) (by simp)).more t0V.size
        clear slx0
        have hone : ∀ u ∈ css.flatten, u.oneCell' = true := by
          intro u hu
          obtain ⟨c, hc, hu⟩ := List.mem_flatten.1 hu
          obtain ⟨i, hi, rfl⟩ := List.mem_iff_getElem.1 hc
          obtain ⟨v, e, hdv⟩ := h3 i (by omega) hi
          obtain ⟨A, cc, rfl, _⟩ := hdv.form
          rw [e] at hu
          simp at hu; subst hu; rfl
        have HCSS := Lib.hid (And.intro h1 (And.intro h2 (And.intro h3 t0V)))
        rw [← HNN.out.2.2.2] at slx
        have HV := Lib.hid (And.intro bpV (And.intro slx (And.intro hone (And.intro (own_v0 ob tV) twV))))
        have S0 : Turns [] V V := Turns.refl _ _
        clear bp ob tz hV tV bpV twV t0V h1 h2 h3 slx hone hpw1
        go_upto_region 7 with fail
        go_cut [] (fun wv => ∃ A c, Blk wv p [.int .i64 L.next, .slice Ao nO co, .slice Ab2 (nb + 1) cb2, .slice A (nT + 1) c] 32 ∧ wv.ownsRow w1.heap.size 25 1 (.slice A (nT + 1) c) (nT + 1) (css.flatten ++ [.slice Ao nO co]) ∧ wv.ownsRow w1.heap.size 75 66 (.slice Ab2 (nb + 1) cb2) (nb + 1) (bloCells L.blks ++ cs) ∧ Turns [p] w1 wv)
        case first =>
          refine rk0 (fun _ => True) (fun W => Turns [] V W) 9 10 ?_
          rw [← HVV.out]
          refine rkA 1 45 2 (v := ?_) ?_ (.mk' trivial S0) ?_
          rotate_left
          · intro W hS; go_simp; all_goals with_reducible rfl
          try simp only [sI, sS, sZ]
          refine rkT 2 46 6 (v := ?_) ?_ (.mk' trivial S0) ?_
          rotate_left
          · rintro W ⟨-, hS⟩; have c0 := cellL hS C3 (by simp); go_simp; all_goals with_reducible rfl
          try simp only [sI, sS, sZ]
          refine rkA 4 48 22 (v := ?_) ?_ (.mk' trivial S0) ?_
          rotate_left
          · intro W hS; go_simp; all_goals with_reducible rfl
          try simp only [sI, sS, sZ]
          refine rkT 5 49 54 (v := ?_) ?_ (.mk' trivial S0) ?_
          rotate_left
          · rintro W ⟨-, hS⟩; have c0 := cellL hS C1 (by simp); go_simp; all_goals with_reducible rfl
          try simp only [sI, sS, sZ]
          refine rk2 0 6 55 118 (fun K hK => ?_) (fun K hK => ?_)
          · go_simp
            have oA := own_empty V 25 1
            have DA : Turns [] V (V.alloc (.cells #[] 25)) := (Turns.refl _ _).alloc _
            have TZ44 : Turns [] V (V.alloc (.cells #[] 25)) := (Turns.refl [] V).trans DA (by simp)
            obtain ⟨gA, hgA⟩ : ∃ g, g = V.heap.size := ⟨_, rfl⟩
            rw [← hgA] at oA ⊢
            have zz : V.heap.size ≤ gA := by rw [hgA]; exact (Turns.refl [] V).size
            have ylt : gA < (V.alloc (.cells #[] 25)).heap.size := by rw [hgA]; simp
            generalize V.alloc (.cells #[] 25) = X44 at oA DA TZ44 ylt ⊢
            have BA := Lib.hid (And.intro hgA (And.intro zz ylt))
            clear hgA zz ylt
            refine hK _ _ (.mk' trivial TZ44) ?_
            clear hK K
            try simp only [sI, sS, sZ]
            refine rk2 3 6 63 119 (fun K hK => ?_) (fun K hK => ?_)
            · obtain ⟨AB, cB, X47, hrB, oB, tB, lB⟩ := own_app TTxs (own_more (base := V.heap.size) (oA) (by have := BA.out; omega)) (TZ44.slice HV.out.2.1 (Nat.le_refl _) (by simp)) HV.out.2.2.1 TZ44.size (by omega) (by omega) (by omega) 27
              rw [Nat.zero_add] at hrB oB lB
              rw [List.nil_append] at oB
              have TZ47 : Turns [] V X47 := TZ44.trans tB (by intro x hx; simp [Value.ownBlock] at hx; exact .inr (by have := BA.out; omega))
              refine wp_append_run (P := Tryz.prog) (w := X44) (.tmp 44) (.tmp 46) (by rfl) (vs := _) (vx := _) (by rfl) (by rfl) (R := fun v w' => Value.slice AB nT cB = v ∧ X47 = w') ⟨_, _, hrB, rfl, rfl⟩ ?_
              rintro _ _ ⟨rfl, rfl⟩
              refine hK _ _ (.mk' trivial TZ47) ?_
              clear hK K
              try simp only [sI, sS, sZ]
              refine rk1 6 127 (fun K hK => ?_)
              go_simp
              have LC : Sl (X47.alloc (.cells #[.slice Ao nO co] 25)) (X47.alloc (.cells #[.slice Ao nO co] 25)).heap.size 1 (.slice (some ⟨X47.heap.size, 0, none⟩) 1 1) 1 [.slice Ao nO co] := by
                have := Sl.new X47 #[.slice Ao nO co] 25 1 1 (by simp) (by simp [maxLen])
                exact this.more (by simp)
              have DC : Turns [] X47 (X47.alloc (.cells #[.slice Ao nO co] 25)) := (Turns.refl _ _).alloc _
              have TZ50 : Turns [] V (X47.alloc (.cells #[.slice Ao nO co] 25)) := TZ47.trans DC (by simp)
              obtain ⟨gC, hgC⟩ : ∃ g, g = X47.heap.size := ⟨_, rfl⟩
              rw [← hgC] at LC ⊢
              have ylt : gC < (X47.alloc (.cells #[.slice Ao nO co] 25)).heap.size := by rw [hgC]; simp
              generalize X47.alloc (.cells #[.slice Ao nO co] 25) = X50 at LC DC TZ50 ylt ⊢
              have BC := Lib.hid (And.intro hgC ylt)
              clear hgC ylt
              refine hK _ _ (.mk' trivial TZ50) ?_
              clear hK K
              try simp only [sI, sS, sZ]
              refine rk1 7 255 (fun K hK => ?_)
              obtain ⟨AD, cD, X51, hrD, oD, tD, lD⟩ := own_app TTxs (own_v0 oB DC) LC (by intro u hu; simp at hu; subst hu; rfl) TZ50.size (by omega) (by omega) (by omega) 27
              have TZ51 : Turns [] V X51 := TZ50.trans tD (by intro x hx; exact .inr ((own_v0 oB DC).lt x (by simpa using hx)).1)
              refine wp_append_run (P := Tryz.prog) (w := X50) (.tmp 47) (.tmp 50) (by rfl) (vs := _) (vx := _) (by rfl) (by rfl) (R := fun v w' => Value.slice AD (nT + 1) cD = v ∧ X51 = w') ⟨_, _, hrD, rfl, rfl⟩ ?_
              rintro _ _ ⟨rfl, rfl⟩
              have bD := HV.out.1.turns TZ51 (by simp)
              have kD := bD.cell 3
              have zD := bD.free 3
              simp only [List.getElem?_cons_zero, List.getElem?_cons_succ] at kD
              refine hK _ _ (.mk' trivial TZ51) ?_
              clear hK K
              try simp only [sI, sS, sZ]
              refine rkA 8 52 511 (v := ?_) ?_ (.mk' trivial TZ51) ?_
              rotate_left
              · intro W hS; go_simp; all_goals with_reducible rfl
              try simp only [sI, sS, sZ]
              refine rk1 9 1023 (fun K hK => ?_)
              go_simp
              have HFX := Lib.hid (And.intro (bD.set 3 (.slice AD (nT + 1) cD)) (And.intro oD TZ51))
              refine hK _ _ (.p trivial) ?_
              clear hK K
              try simp only [sI, sS, sZ]
              refine rkZ ?_
              go_wp2_with fail
              go_meet
              have tp : Turns [p] X51 (X51.setCell ⟨p, 3, none⟩ (.slice AD (nT + 1) cD)) := (Turns.refl _ _).setCell (.inl (by simp)) _
              have hpb : p < w1.heap.size := by have := HQB.out; omega
              have hvs := HV.out.2.2.2.2.size
              exact ⟨_, _, HFX.out.1, own_more (own_vL HFX.out.2.1 tp (by intro x hx e; simp at hx; have h1 := (HFX.out.2.1.lt x e).1; omega)) hvs, own_vL (own_v0 HV.out.2.2.2.1 HFX.out.2.2) tp (by intro x hx e; simp at hx; have h1 := (HV.out.2.2.2.1.lt x e).1; omega), (HV.out.2.2.2.2.trans HFX.out.2.2 (by simp)).trans tp (fun x hx => .inl hx)⟩
            · go_simp
              have LC : Sl (X44.alloc (.cells #[.slice Ao nO co] 25)) (X44.alloc (.cells #[.slice Ao nO co] 25)).heap.size 1 (.slice (some ⟨X44.heap.size, 0, none⟩) 1 1) 1 [.slice Ao nO co] := by
                have := Sl.new X44 #[.slice Ao nO co] 25 1 1 (by simp) (by simp [maxLen])
                exact this.more (by simp)
              have DC : Turns [] X44 (X44.alloc (.cells #[.slice Ao nO co] 25)) := (Turns.refl _ _).alloc _
              have TZ50 : Turns [] V (X44.alloc (.cells #[.slice Ao nO co] 25)) := TZ44.trans DC (by simp)
              obtain ⟨gC, hgC⟩ : ∃ g, g = X44.heap.size := ⟨_, rfl⟩
              rw [← hgC] at LC ⊢
              have ylt : gC < (X44.alloc (.cells #[.slice Ao nO co] 25)).heap.size := by rw [hgC]; simp
              generalize X44.alloc (.cells #[.slice Ao nO co] 25) = X50 at LC DC TZ50 ylt ⊢
              have BC := Lib.hid (And.intro hgC ylt)
              clear hgC ylt
              refine hK _ _ (.mk' trivial TZ50) ?_
              clear hK K
              try simp only [sI, sS, sZ]
              refine rk1 3 127 (fun K hK => ?_)
              obtain ⟨AB, cB, X47, hrB, oB, tB, lB⟩ := own_app TTxs (own_more (base := V.heap.size) (own_v0 oA DC) (by have := BA.out; omega)) (TZ50.slice HV.out.2.1 (Nat.le_refl _) (by simp)) HV.out.2.2.1 TZ50.size (by omega) (by omega) (by omega) 27
              rw [Nat.zero_add] at hrB oB lB
              rw [List.nil_append] at oB
              have TZ47 : Turns [] V X47 := TZ50.trans tB (by intro x hx; simp [Value.ownBlock] at hx; exact .inr (by have := BA.out; omega))
              refine wp_append_run (P := Tryz.prog) (w := X50) (.tmp 44) (.tmp 46) (by rfl) (vs := _) (vx := _) (by rfl) (by rfl) (R := fun v w' => Value.slice AB nT cB = v ∧ X47 = w') ⟨_, _, hrB, rfl, rfl⟩ ?_
              rintro _ _ ⟨rfl, rfl⟩
              refine hK _ _ (.mk' trivial TZ47) ?_
              clear hK K
              try simp only [sI, sS, sZ]
              refine rk1 7 255 (fun K hK => ?_)
              obtain ⟨AD, cD, X51, hrD, oD, tD, lD⟩ := own_app TTxs (oB) (tB.slice LC (by first | exact Nat.le_refl _ | exact DA.size) (by intro x hx e; simp [Value.ownBlock] at hx e; have := BA.out; have := BC.out; omega)) (by intro u hu; simp at hu; subst hu; rfl) TZ47.size (by omega) (by omega) (by omega) 27
              have TZ51 : Turns [] V X51 := TZ47.trans tD (by intro x hx; exact .inr ((oB).lt x (by simpa using hx)).1)
              refine wp_append_run (P := Tryz.prog) (w := X47) (.tmp 47) (.tmp 50) (by rfl) (vs := _) (vx := _) (by rfl) (by rfl) (R := fun v w' => Value.slice AD (nT + 1) cD = v ∧ X51 = w') ⟨_, _, hrD, rfl, rfl⟩ ?_
              rintro _ _ ⟨rfl, rfl⟩
              have bD := HV.out.1.turns TZ51 (by simp)
              have kD := bD.cell 3
              have zD := bD.free 3
              simp only [List.getElem?_cons_zero, List.getElem?_cons_succ] at kD
              refine hK _ _ (.mk' trivial TZ51) ?_
              clear hK K
              try simp only [sI, sS, sZ]
              refine rkA 8 52 511 (v := ?_) ?_ (.mk' trivial TZ51) ?_
              rotate_left
              · intro W hS; go_simp; all_goals with_reducible rfl
              try simp only [sI, sS, sZ]
              refine rk1 9 1023 (fun K hK => ?_)
              go_simp
              have HFX := Lib.hid (And.intro (bD.set 3 (.slice AD (nT + 1) cD)) (And.intro oD TZ51))
              refine hK _ _ (.p trivial) ?_
              clear hK K
              try simp only [sI, sS, sZ]
              refine rkZ ?_
              go_wp2_with fail
              go_meet
              have tp : Turns [p] X51 (X51.setCell ⟨p, 3, none⟩ (.slice AD (nT + 1) cD)) := (Turns.refl _ _).setCell (.inl (by simp)) _
              have hpb : p < w1.heap.size := by have := HQB.out; omega
              have hvs := HV.out.2.2.2.2.size
              exact ⟨_, _, HFX.out.1, own_more (own_vL HFX.out.2.1 tp (by intro x hx e; simp at hx; have h1 := (HFX.out.2.1.lt x e).1; omega)) hvs, own_vL (own_v0 HV.out.2.2.2.1 HFX.out.2.2) tp (by intro x hx e; simp at hx; have h1 := (HV.out.2.2.2.1.lt x e).1; omega), (HV.out.2.2.2.2.trans HFX.out.2.2 (by simp)).trans tp (fun x hx => .inl hx)⟩
          · go_simp
            have LC : Sl (V.alloc (.cells #[.slice Ao nO co] 25)) (V.alloc (.cells #[.slice Ao nO co] 25)).heap.size 1 (.slice (some ⟨V.heap.size, 0, none⟩) 1 1) 1 [.slice Ao nO co] := by
              have := Sl.new V #[.slice Ao nO co] 25 1 1 (by simp) (by simp [maxLen])
              exact this.more (by simp)
            have DC : Turns [] V (V.alloc (.cells #[.slice Ao nO co] 25)) := (Turns.refl _ _).alloc _
            have TZ50 : Turns [] V (V.alloc (.cells #[.slice Ao nO co] 25)) := (Turns.refl [] V).trans DC (by simp)
            obtain ⟨gC, hgC⟩ : ∃ g, g = V.heap.size := ⟨_, rfl⟩
            rw [← hgC] at LC ⊢
            have ylt : gC < (V.alloc (.cells #[.slice Ao nO co] 25)).heap.size := by rw [hgC]; simp
            generalize V.alloc (.cells #[.slice Ao nO co] 25) = X50 at LC DC TZ50 ylt ⊢
            have BC := Lib.hid (And.intro hgC ylt)
            clear hgC ylt
            refine hK _ _ (.mk' trivial TZ50) ?_
            clear hK K
            try simp only [sI, sS, sZ]
            refine rk1 0 119 (fun K hK => ?_)
            go_simp
            have oA := own_empty X50 25 1
            have DA : Turns [] X50 (X50.alloc (.cells #[] 25)) := (Turns.refl _ _).alloc _
            have TZ44 : Turns [] V (X50.alloc (.cells #[] 25)) := TZ50.trans DA (by simp)
            obtain ⟨gA, hgA⟩ : ∃ g, g = X50.heap.size := ⟨_, rfl⟩
            rw [← hgA] at oA ⊢
            have zz : V.heap.size ≤ gA := by rw [hgA]; exact TZ50.size
            have ylt : gA < (X50.alloc (.cells #[] 25)).heap.size := by rw [hgA]; simp
            generalize X50.alloc (.cells #[] 25) = X44 at oA DA TZ44 ylt ⊢
            have BA := Lib.hid (And.intro hgA (And.intro zz ylt))
            clear hgA zz ylt
            refine hK _ _ (.mk' trivial TZ44) ?_
            clear hK K
            try simp only [sI, sS, sZ]
            refine rk1 3 127 (fun K hK => ?_)
            obtain ⟨AB, cB, X47, hrB, oB, tB, lB⟩ := own_app TTxs (own_more (base := V.heap.size) (oA) (by have := BA.out; omega)) (TZ44.slice HV.out.2.1 (Nat.le_refl _) (by simp)) HV.out.2.2.1 TZ44.size (by omega) (by omega) (by omega) 27
            rw [Nat.zero_add] at hrB oB lB
            rw [List.nil_append] at oB
            have TZ47 : Turns [] V X47 := TZ44.trans tB (by intro x hx; simp [Value.ownBlock] at hx; exact .inr (by have := BA.out; omega))
            refine wp_append_run (P := Tryz.prog) (w := X44) (.tmp 44) (.tmp 46) (by rfl) (vs := _) (vx := _) (by rfl) (by rfl) (R := fun v w' => Value.slice AB nT cB = v ∧ X47 = w') ⟨_, _, hrB, rfl, rfl⟩ ?_
            rintro _ _ ⟨rfl, rfl⟩
            refine hK _ _ (.mk' trivial TZ47) ?_
            clear hK K
            try simp only [sI, sS, sZ]
            refine rk1 7 255 (fun K hK => ?_)
            obtain ⟨AD, cD, X51, hrD, oD, tD, lD⟩ := own_app TTxs (oB) (tB.slice (DA.slice LC (Nat.le_refl _) (by simp)) (by first | exact Nat.le_refl _ | exact DA.size) (by intro x hx e; simp [Value.ownBlock] at hx e; have := BA.out; have := BC.out; omega)) (by intro u hu; simp at hu; subst hu; rfl) TZ47.size (by omega) (by omega) (by omega) 27
            have TZ51 : Turns [] V X51 := TZ47.trans tD (by intro x hx; exact .inr ((oB).lt x (by simpa using hx)).1)
            refine wp_append_run (P := Tryz.prog) (w := X47) (.tmp 47) (.tmp 50) (by rfl) (vs := _) (vx := _) (by rfl) (by rfl) (R := fun v w' => Value.slice AD (nT + 1) cD = v ∧ X51 = w') ⟨_, _, hrD, rfl, rfl⟩ ?_
            rintro _ _ ⟨rfl, rfl⟩
            have bD := HV.out.1.turns TZ51 (by simp)
            have kD := bD.cell 3
            have zD := bD.free 3
            simp only [List.getElem?_cons_zero, List.getElem?_cons_succ] at kD
            refine hK _ _ (.mk' trivial TZ51) ?_
            clear hK K
            try simp only [sI, sS, sZ]
            refine rkA 8 52 511 (v := ?_) ?_ (.mk' trivial TZ51) ?_
            rotate_left
            · intro W hS; go_simp; all_goals with_reducible rfl
            try simp only [sI, sS, sZ]
            refine rk1 9 1023 (fun K hK => ?_)
            go_simp
            have HFX := Lib.hid (And.intro (bD.set 3 (.slice AD (nT + 1) cD)) (And.intro oD TZ51))
            refine hK _ _ (.p trivial) ?_
            clear hK K
            try simp only [sI, sS, sZ]
            refine rkZ ?_
            go_wp2_with fail
            go_meet
            have tp : Turns [p] X51 (X51.setCell ⟨p, 3, none⟩ (.slice AD (nT + 1) cD)) := (Turns.refl _ _).setCell (.inl (by simp)) _
            have hpb : p < w1.heap.size := by have := HQB.out; omega
            have hvs := HV.out.2.2.2.2.size
            exact ⟨_, _, HFX.out.1, own_more (own_vL HFX.out.2.1 tp (by intro x hx e; simp at hx; have h1 := (HFX.out.2.1.lt x e).1; omega)) hvs, own_vL (own_v0 HV.out.2.2.2.1 HFX.out.2.2) tp (by intro x hx e; simp at hx; have h1 := (HV.out.2.2.2.1.lt x e).1; omega), (HV.out.2.2.2.2.trans HFX.out.2.2 (by simp)).trans tp (fun x hx => .inl hx)⟩
        case rest =>
          generalize wc = wv at *
          obtain ⟨At2, ct2, bp, ot, ob, tv⟩ := hcut
          clear C1 C3 S0
          have k1 := bp.cell 1
          have z1 := bp.free 1
          simp only [List.getElem?_cons_zero, List.getElem?_cons_succ] at k1
          obtain ⟨F, hF⟩ : ∃ x, x = wv.setCell ⟨p, 1, none⟩ (.slice none 0 0) := ⟨_, rfl⟩
          have bF : Blk F p [.int .i64 L.next, .slice none 0 0, .slice Ab2 (nb + 1) cb2, .slice At2 (nT + 1) ct2] 32 := by rw [hF]; exact bp.set 1 _
          have tF : Turns [p] wv F := by rw [hF]; exact (Turns.refl _ _).setCell (.inl (by simp)) _
          have rF := bF.all
          have hz9 := size_rled (.int .i64 L.next) (.slice none 0 0) (.slice Ab2 (nb + 1) cb2) (.slice At2 (nT + 1) ct2)
          have hpq := HQB.out.2
          have HBQ := Lib.hid ((HQB.out.1.turns tv (by simp; omega)).turns tF (by simp; omega))
          have HFF := Lib.hid (And.intro ot (And.intro ob (And.intro tv tF)))
          have HF := Lib.hid hF
          clear bp ot ob tv tF bF hF hz1
          go_upto_region 9 with fail
          rw [← HF.out]
          clear k1 z1
          go_wp2_with (first
            | (refine wpList_load_mid rfl 32 (.tmp 1) rfl p 0 rfl _ _ rF Tryz.underlying32 rfl hz9 ?_)
            | (refine wpList_store_blk rfl 32 (.tmp 2) (.tmp 54) rfl q (by kernel_rfl) [.int .i64 L.next, .slice none 0 0, .slice Ab2 (nb + 1) cb2, .slice At2 (nT + 1) ct2] _ 32 (by kernel_rfl) HBQ.out rfl hz9 (by intro u hu; simp at hu; rcases hu with rfl | rfl | rfl | rfl <;> rfl) (fun w9 hb9 ht9 hs9 => ?_); have HQ9 := Lib.hid (And.intro hb9 ht9); clear hb9 ht9 hs9)
            | fail)
          refine bodyPost_ret (results_two rfl _ _ q _ _ _ (.int .i64 0) (by kernel_rfl) (by kernel_rfl) HQ9.out.1 Tryz.underlying32 rfl (by rw [List.size_toArray]; exact hz9)) rfl ?_
          obtain ⟨ot, ob, tv, tF⟩ := HFF.out
          have t19 : Turns [p, q] w1 w9 := ((tv.mono (L' := [p, q]) (by simp)).trans (tF.mono (L' := [p, q]) (by simp)) (fun x hx => .inl hx)).trans HQ9.out.2 (fun x hx => .inl (by simp at hx; simp [hx]))
          have t09 : Turns [] w0 w9 := HT0.out.trans t19 (by intro x hx; simp at hx; exact .inr (by omega))
          have tFq : Turns [p, q] wv w9 := (tF.mono (L' := [p, q]) (by simp)).trans HQ9.out.2 (fun x hx => .inl (by simp at hx; simp [hx]))
          have o1 := own_vL ob tFq (by intro x hx e; simp at hx; have := (ob.lt x e).1; omega)
          have o2 := own_vL ot tFq (by intro x hx e; simp at hx; have := (ot.lt x e).1; omega)
          have hw01 := HT0.out.size
          refine ⟨_, _, _, rfl, ⟨Deep.nil, ?_, ?_⟩, t09⟩
          · have e1 : (closeL L).blks.length = nb + 1 := by simp [closeL, HNN.out.2.1]
            have e2 : bloCells (closeL L).blks = bloCells L.blks ++ cs := by rw [HCS.out.1]; simp [closeL, bloCells]
            rw [e1, e2]
            exact SlS.of_own o1 (fun j hj => .inr (by have := (o1.lt j hj).1; omega))
          · obtain ⟨g1, g2, g3, _⟩ := HCSS.out
            refine deep_more (base := w1.heap.size) (e := 25) TxsR.lasts g1 g2 (fun i hi hi' => ?_) ⟨_, rfl, ?_⟩ rfl (by rw [← HNN.out.2.2.2]; exact o2) (fun j hj => .inr (by have := (o2.lt j hj).1; omega))
            · exact TxsR.lasts.mono (TxsR.lasts.keep (g3 i hi hi') (t09.keeps0 S)) (fun j _ hj => .inl hj)
            · have := (HD.out.1.opn.keep TxR.lasts (t09.keeps0 S)).mono TxR.lasts (S' := fun b => S b ∨ w0.heap.size ≤ b) (fun j _ hj => .inl hj)
              rw [← HNN.out.2.2.1] at this
              exact this
end Go.Proofs.YtoahnhphfabajaaGreat
