/- Entries of transactions, walked: code's. -/
import Derived.Test.YtoahnhphfabajaaGreatLdD
namespace Go.Proofs.YtoahnhphfabajaaGreat
open Go.RowKit
set_option linter.unusedVariables false
set_option maxRecDepth 10000
set_option linter.unusedSimpArgs false
set_option linter.unnecessarySimpa false

theorem bytes32 {w : World} {g : Nat} {bs : List UInt8} {t : TypeId} (h : Blk w g (bvs bs) t) (h32 : bs.length = 32) : Sl w (g + 1) 1 (.slice (some ⟨g, 0, none⟩) 32 32) bs.length (bvs bs) := by
  have := h.bytes (by rw [h32]; simp [maxLen])
  rw [h32] at this ⊢
  exact this
set_option maxRecDepth 100000 in
set_option maxHeartbeats 4000000 in
theorem CEntry_any (t : Txn) (ht : t.ok) (cv : Value) (S : Nat → Prop) (w0 : World) (hd : Deep ChgR w0 S 3 cv t.chs) :
    Calls Tryz.prog 48 #[.agg #[.int .i64 t.id, cv]] w0 fun e w' => e = .returned (.agg (bvs (entry t)).toArray) ∧ Turns [] w0 w' := by
  obtain ⟨A, cp, rfl, hcp, _⟩ := hd.form
  obtain ⟨w, hw⟩ : ∃ x, x = w0.alloc (.cells #[.int .i64 t.id, .slice A t.chs.length cp] 45) := ⟨_, rfl⟩
  obtain ⟨p, hp⟩ : ∃ p, p = w0.heap.size := ⟨_, rfl⟩
  have bc := Blk.new w0 [.int .i64 t.id, .slice A t.chs.length cp] 45
  have t0 := (Turns.refl [] w0).alloc (.cells #[.int .i64 t.id, .slice A t.chs.length cp] 45)
  have hs0 : w.heap.size = w0.heap.size + 1 := by rw [hw]; simp
  have HS0 := Lib.hid (show w0.heap.size ≤ w.heap.size by omega)
  rw [show w0.alloc (.cells [.int .i64 t.id, .slice A t.chs.length cp].toArray 45) = w from hw.symm, ← hp] at bc
  rw [← hw] at t0
  have HW0 := Lib.hid hw
  have HP := Lib.hid hp
  obtain ⟨res, hres⟩ : ∃ r, r = bvs (entry t) := ⟨_, rfl⟩
  rw [← hres]
  have HRES := Lib.hid hres
  have hz32 := zero_hash
  have hzl := zeros32_len
  have b2 := Blk.new w (bvs (zeros 32)) 53
  have t1 := (Turns.refl [] w).alloc (.cells (bvs (zeros 32)).toArray 53)
  generalize hzz : bvs (zeros 32) = zz at hz32 hzl b2 t1
  obtain ⟨w1, hw1⟩ : ∃ x, x = w.alloc (.cells zz.toArray 53) := ⟨_, rfl⟩
  rw [← hw1] at b2 t1
  have hs1 : w1.heap.size = w.heap.size + 1 := by rw [hw1]; simp
  have HS1 := Lib.hid hs1
  have HW1 := Lib.hid hw1
  have HZL := Lib.hid hzl
  have H0 := Lib.hid (And.intro b2 t1)
  clear hres hzz hw1 hzl b2 t1 hs1
  have HLEN := Lib.hid (show (entry t).length = 32 from entry_len t)
  have t01 := t0.trans H0.out.2 (by simp)
  have CR := Lib.hid (CRoot_any t ht (.slice A t.chs.length cp) S w1 (hd.keep ChgR.lasts (t01.keeps0 S)))
  have bc1 := bc.turns H0.out.2 (by simp)
  have r5 := bc1.range 0 2
  simp only [List.drop_zero, List.take_succ_cons, List.take_zero] at r5
  have hz1 := size_tx t.id (.slice A t.chs.length cp)
  have HBC := Lib.hid bc1
  have HT0 := Lib.hid t01
  have HT := Lib.hid ht
  have HPQ := Lib.hid (show p ≠ w.heap.size by omega)
  clear bc bc1 t0 t01 hw hp hd hs0 ht hcp
  go_enter Tryz.func48, Tryz.ntmps48
  go_upto_region 1 with (first | (refine wpList_alloc_arr (o := ⟨some 2, _, _, _, _, _⟩) rfl 53 rfl zz.toArray hz32 ?_) | fail)
  try simp only [Act.put, List.setIfInBounds_toArray, List.set_cons_succ, List.set_cons_zero]
  rw [← HW0.out, ← HW1.out, ← HP.out]
  go_wp2_with (first
    | (refine wpList_load_mid rfl 45 (.tmp 1) rfl p 0 rfl _ _ r5 Tryz.underlying45 rfl hz1 ?_)
    | fail)
  refine CR.out.mono ?_
  rintro e w2 ⟨rfl, t2⟩
  obtain ⟨rr, hrr⟩ : ∃ r, r = txRoot t := ⟨_, rfl⟩
  have hr32 : rr.length = 32 := by rw [hrr]; exact txRoot_len t
  rw [← hrr]
  have HRR := Lib.hid (And.intro hrr hr32)
  obtain ⟨vr, hvr⟩ : ∃ v, v = bvs rr := ⟨_, rfl⟩
  have hvl : vr.length = 32 := by rw [hvr, bvs_length, hr32]
  have hv1 : ∀ u ∈ vr, u.oneCell' = true := by rw [hvr]; exact bvs_one _
  rw [← hvr]
  have HVR := Lib.hid hvr
  have b3 := Blk.new w2 zz 53
  have t3 : Turns [] w2 (w2.alloc (.cells zz.toArray 53)) := (Turns.refl _ _).alloc _
  have HB3 := Lib.hid (And.intro b3 t3)
  have P_l := Lib.hid (show zz.length = vr.length by rw [HZL.out, hvl])
  have P_sz := Lib.hid (show (Tryz.prog.info? 53).map (·.size) = some vr.length by rw [size_hash, hvl])
  have P_1 := Lib.hid hv1
  have H2 := Lib.hid t2
  clear hrr hvr hvl hv1 b3 t3 t2 r5 CR hr32
  go_upto_region 2 with (first
    | (refine wpList_alloc_arr (o := ⟨some 3, _, _, _, _, _⟩) rfl 53 rfl zz.toArray hz32 ?_)
    | (refine wpList_store_blk rfl 53 (.tmp 3) (.tmp 5) rfl w2.heap.size (by kernel_rfl) vr zz 53 (by kernel_rfl) HB3.out.1 P_l.out P_sz.out P_1.out (fun y1 hb1 ht1 hs1 => ?_); have HQ := Lib.hid (And.intro hb1 ht1); clear hb1 ht1 hs1)
    | fail)
  try simp only [Act.put, List.setIfInBounds_toArray, List.set_cons_succ, List.set_cons_zero]
  obtain ⟨p3, hp3⟩ : ∃ q, q = w2.heap.size := ⟨_, rfl⟩
  rw [← hp3] at HQ ⊢
  obtain ⟨Y, hY⟩ : ∃ q, q = y1.drew := ⟨_, rfl⟩
  have tY : Turns [] y1 Y := by rw [hY]; exact (Turns.refl _ _).drew
  have t1Y : Turns [] w1 Y := (H2.out.trans (HB3.out.2.trans HQ.out.2 (by intro x hx; simp at hx; exact .inr (by omega))) (by simp)).trans tY (by simp)
  have bY := HBC.out.turns t1Y (by simp)
  have C0 := bY.cell 0
  have C1 := bY.cell 1
  simp only [List.getElem?_cons_zero, List.getElem?_cons_succ] at C0 C1
  have b3 := HQ.out.1.turns tY (by simp)
  rw [HVR.out] at b3
  have h3q : p3 ≠ w.heap.size := by have := H2.out.size; have := HS1.out; omega
  have h3l := b3.lt
  have H3 := Lib.hid (And.intro (bytes32 b3 HRR.out.2) (And.intro h3l h3q))
  have S0 : Turns [w.heap.size] Y Y := Turns.refl _ _
  have hrl : res.length = 32 := by rw [HRES.out, bvs_length]; exact HLEN.out
  have hr1 : ∀ u ∈ res, u.oneCell' = true := by rw [HRES.out]; exact bvs_one _
  have Q_sz := Lib.hid (show (Tryz.prog.info? 53).map (·.size) = some res.length by rw [size_hash, hrl])
  have Q_l := Lib.hid (show zz.length = res.length by rw [HZL.out, hrl])
  have Q_1 := Lib.hid hr1
  clear hrl hr1
  obtain ⟨bt, hbt⟩ : ∃ b, b = [] ++ [t.id, ((t.chs.length : Nat) : Int)].flatMap le8 ++ rr := ⟨_, rfl⟩
  have HBT := Lib.hid hbt
  have HTX := Lib.hid (show bvs (leafH bt) = res by rw [HRES.out, hbt]; unfold entry entText; rw [← HRR.out.1]; simp)
  have HBL := Lib.hid (show bt.length ≤ 100000000 by rw [hbt]; simp [le8_length, HRR.out.2])
  have HY := Lib.hid t1Y
  have HYY := Lib.hid hY
  clear hbt hY tY t1Y bY b3 h3q h3l HQ HB3 hp3 P_l P_sz P_1
  refine rk0 (fun W => Turns [w.heap.size] Y W) (fun _ => True) 11 11 ?_
  rw [← HYY.out]
  refine rkA 0 6 1 (v := ?_) ?_ (.mk' S0 trivial) ?_
  rotate_left
  · intro W hS; go_simp; all_goals with_reducible rfl
  try simp only [sI, sS, sZ]
  refine rkA 1 7 3 (v := ?_) ?_ (.mk' S0 trivial) ?_
  rotate_left
  · intro W hS; have c0 := cellL hS C0 (by simp; exact HPQ.out); go_simp; all_goals with_reducible rfl
  try simp only [sI, sS, sZ]
  refine rkA 2 8 7 (v := ?_) ?_ (.mk' S0 trivial) ?_
  rotate_left
  · intro W hS; go_simp; all_goals with_reducible rfl
  try simp only [sI, sS, sZ]
  refine rkA 3 9 15 (v := ?_) ?_ (.mk' S0 trivial) ?_
  rotate_left
  · intro W hS; have c0 := cellL hS C1 (by simp; exact HPQ.out); go_simp; all_goals with_reducible rfl
  try simp only [sI, sS, sZ]
  refine rkA 4 10 31 (v := ?_) ?_ (.mk' S0 trivial) ?_
  rotate_left
  · intro W hS; go_simp; all_goals with_reducible rfl
  try simp only [sI, sS, sZ]
  refine rkA 7 13 159 (v := ?_) ?_ (.mk' S0 trivial) ?_
  rotate_left
  · intro W hS; go_simp; all_goals with_reducible rfl
  try simp only [sI, sS, sZ]
  refine rk1 5 191 (fun K hK => ?_)
  go_simp
  have D11 : Turns [] Y (Y.alloc (.cells #[.int .i64 t.id, .int .i64 ((t.chs.length : Nat) : Int)] 3)) := (Turns.refl _ _).alloc _
  have L11 := Sl.new Y #[.int .i64 t.id, .int .i64 ((t.chs.length : Nat) : Int)] 3 2 1 rfl (by simp [maxLen])
  have E11 : (Y.alloc (.cells #[.int .i64 t.id, .int .i64 ((t.chs.length : Nat) : Int)] 3)).heap.size = Y.heap.size + 1 := by simp
  generalize Y.alloc (.cells #[.int .i64 t.id, .int .i64 ((t.chs.length : Nat) : Int)] 3) = X11 at D11 L11 E11 ⊢
  refine hK _ _ (.mk' (((Turns.refl [] Y).trans D11 (by simp)).mono (by simp)) trivial) ?_
  clear hK K
  try simp only [sI, sS, sZ]
  refine rk1 6 255 (fun K hK => ?_)
  go_simp
  refine (Ints_any (W0 := Y) (bs := []) [t.id, ((t.chs.length : Nat) : Int)] L11 (by rw [E11]; exact Nat.le_refl _) (Mine.nil D11) rfl (by simp)).mono ?_
  rintro e X12 ⟨v12, rfl, m12, D12⟩
  obtain ⟨v14, X14, hr14, m14⟩ := mine_append m12 (m12.turns.slice H3.out.1 (by have := H3.out.2.1; omega) (by simp)) (by rw [HRR.out.2]; simp [le8_length]) 129
  rw [← HBT.out] at m14
  obtain ⟨A14, c14, rfl, _⟩ := m14.len
  have D14 := m14.turns
  refine hK _ _ (.mk' ((((Turns.refl [] Y).trans D11 (by simp)).trans D12 (by simp)).mono (by simp)) trivial) ?_
  clear hK K
  try simp only [sI, sS, sZ]
  refine rk1 8 511 (fun K hK => ?_)
  refine wp_append_run (P := Tryz.prog) (w := X12) (.tmp 12) (.tmp 13) (by rfl) (vs := _) (vx := _) (by rfl) (by rfl) (R := fun v w' => Value.slice A14 _ c14 = v ∧ X14 = w') ⟨_, _, hr14, rfl, rfl⟩ ?_
  rintro _ _ ⟨rfl, rfl⟩
  refine hK _ _ (.mk' (D14.mono (by simp)) trivial) ?_
  clear hK K
  try simp only [sI, sS, sZ]
  refine rk1 9 1023 (fun K hK => ?_)
  go_simp
  refine (Leaf_any _ _ _ _ _ _ m14.sl (Nat.le_refl _) HBL.out).mono ?_
  rintro e X15 ⟨rfl, D15⟩
  have D16 := D14.trans D15 (by simp)
  rw [HTX.out]
  refine hK _ _ (.mk' (D16.mono (by simp)) trivial) ?_
  clear hK K
  try simp only [sI, sS, sZ]
  refine rk1 10 2047 (fun K hK => ?_)
  refine wp_store_blk 53 _ _ (by rfl) w.heap.size (by rfl) res zz 53 (by rfl) ((H0.out.1.turns HY.out (by simp)).turns D16 (by simp)) Q_l.out Q_sz.out Q_1.out (fun X25 hb25 ht25 => ?_)
  have HE := Lib.hid (And.intro hb25 ((D16.mono (by simp)).trans ht25 (fun x hx => .inl hx)))
  refine hK _ _ (.mk' HE.out.2 trivial) ?_
  clear hK K
  try simp only [sI, sS, sZ]
  refine rkZ ?_
  go_wp2_with fail
  refine bodyPost_ret (results_cell_row rfl _ _ w.heap.size _ _ _ _ (by kernel_rfl) HE.out.1 Tryz.underlying53 rfl (by rw [List.size_toArray]; exact Q_sz.out)) rfl ?_
  exact ⟨rfl, (HT0.out.trans HY.out (by simp)).trans HE.out.2 (by intro x hx; simp at hx; exact .inr (by have := HS0.out; omega))⟩
end Go.Proofs.YtoahnhphfabajaaGreat
