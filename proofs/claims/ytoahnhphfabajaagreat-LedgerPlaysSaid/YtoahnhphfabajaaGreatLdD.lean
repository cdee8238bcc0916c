/- Sums of changes, walked: the document's. -/
import Derived.Test.YtoahnhphfabajaaGreatLdC
namespace Go.Proofs.YtoahnhphfabajaaGreat
open Go.RowKit
set_option linter.unusedVariables false
set_option maxRecDepth 10000
set_option linter.unusedSimpArgs false
set_option linter.unnecessarySimpa false

theorem mine_base {W0 W1 w : World} {v : Value} {bs : List UInt8} (h : Mine W1 w v bs) (t : Turns [] W0 W1) : Mine W0 w v bs := ⟨own_more h.own t.size, t.trans h.turns (by simp)⟩
set_option maxRecDepth 100000 in
set_option maxHeartbeats 2000000 in
theorem RowText_any (tx seq : Int) (c : Chg) (hc : c.ok) (rv : Value) (w0 : World) (hs : Sl w0 w0.heap.size 3 rv c.row.length (valCells c.row)) :
    Calls Tryz.prog 101 #[.int .i64 tx, .int .i64 seq, .agg #[.string c.table, .int .i64 c.op, rv]] w0 fun e w' => ∃ A c', e = .returned (.slice A (chgText tx seq c).length c') ∧ Mine w0 w' (.slice A (chgText tx seq c).length c') (chgText tx seq c) := by
  obtain ⟨A, cp, rfl, hcp, _⟩ := hs.form
  obtain ⟨w, hw⟩ : ∃ x, x = w0.alloc (.cells #[.string c.table, .int .i64 c.op, .slice A c.row.length cp] 67) := ⟨_, rfl⟩
  obtain ⟨p, hp⟩ : ∃ p, p = w0.heap.size := ⟨_, rfl⟩
  have bc := Blk.new w0 [.string c.table, .int .i64 c.op, .slice A c.row.length cp] 67
  have t0 := (Turns.refl [] w0).alloc (.cells #[.string c.table, .int .i64 c.op, .slice A c.row.length cp] 67)
  rw [show w0.alloc (.cells [.string c.table, .int .i64 c.op, .slice A c.row.length cp].toArray 67) = w from hw.symm, ← hp] at bc
  rw [← hw] at t0
  have HW0 := Lib.hid hw
  have HP := Lib.hid hp
  obtain ⟨Y, hY⟩ : ∃ q, q = w.drew := ⟨_, rfl⟩
  have tY : Turns [] w Y := by rw [hY]; exact (Turns.refl _ _).drew
  have tw := t0.trans tY (by simp)
  have bY := bc.turns tY (by simp)
  have C0 := bY.cell 0
  have C1 := bY.cell 1
  simp only [List.getElem?_cons_zero, List.getElem?_cons_succ] at C0 C1
  have HB := Lib.hid bY
  have S0 : Turns [] Y Y := Turns.refl _ _
  have HH := Lib.hid (And.intro hc (And.intro (tw.slice hs (Nat.le_refl _) (by simp)) tw))
  have HY := Lib.hid hY
  clear hcp hw hp bc t0 hY tY tw bY hc hs
  go_enter Tryz.func101, Tryz.ntmps101
  go_upto_region 1 with fail
  rw [← HW0.out, ← HP.out]
  refine rk0 (fun W => Turns [] Y W) (fun _ => True) 11 11 ?_
  rw [← HY.out]
  refine rkA 0 8 1 (v := ?_) ?_ (.mk' S0 trivial) ?_
  rotate_left
  · intro W hS; go_simp; all_goals with_reducible rfl
  try simp only [sI, sS, sZ]
  refine rkA 2 10 5 (v := ?_) ?_ (.mk' S0 trivial) ?_
  rotate_left
  · intro W hS; go_simp; all_goals with_reducible rfl
  try simp only [sI, sS, sZ]
  refine rkA 4 12 21 (v := ?_) ?_ (.mk' S0 trivial) ?_
  rotate_left
  · intro W hS; go_simp; all_goals with_reducible rfl
  try simp only [sI, sS, sZ]
  refine rkA 5 13 53 (v := ?_) ?_ (.mk' S0 trivial) ?_
  rotate_left
  · intro W hS; have c0 := cellL hS C1 (by simp); go_simp; all_goals with_reducible rfl
  try simp only [sI, sS, sZ]
  refine rkA 7 15 181 (v := ?_) ?_ (.mk' S0 trivial) ?_
  rotate_left
  · intro W hS; go_simp; all_goals with_reducible rfl
  try simp only [sI, sS, sZ]
  refine rkA 8 16 437 (v := ?_) ?_ (.mk' S0 trivial) ?_
  rotate_left
  · intro W hS; have c0 := cellL hS C0 (by simp); go_simp; all_goals with_reducible rfl
  try simp only [sI, sS, sZ]
  refine rk1 1 439 (fun K hK => ?_)
  go_simp
  refine (RInt tx (Mine.nil (Turns.refl [] Y)) (by simp)).mono ?_
  rintro e X9 ⟨v9, rfl, m9⟩
  refine hK _ _ (.mk' m9.turns trivial) ?_
  clear hK K
  try simp only [sI, sS, sZ]
  refine rk1 3 447 (fun K hK => ?_)
  go_simp
  refine (RInt seq m9 (by simp [le8_length])).mono ?_
  rintro e X11 ⟨v11, rfl, m11⟩
  refine hK _ _ (.mk' m11.turns trivial) ?_
  clear hK K
  try simp only [sI, sS, sZ]
  refine rk1 6 511 (fun K hK => ?_)
  go_simp
  refine (RByte c.op m11 (by simp [le8_length])).mono ?_
  rintro e X14 ⟨v14, rfl, m14⟩
  refine hK _ _ (.mk' m14.turns trivial) ?_
  clear hK K
  try simp only [sI, sS, sZ]
  refine rk1 9 1023 (fun K hK => ?_)
  go_simp
  refine (RText c.table m14 (by simp [le8_length]) (by have := HH.out.1.table; simp only [maxLen]; omega)).mono ?_
  rintro e X17 ⟨v17, rfl, m17⟩
  refine hK _ _ (.mk' m17.turns trivial) ?_
  clear hK K
  try simp only [sI, sS, sZ]
  refine rkA 10 7 2047 (v := ?_) ?_ (.mk' m17.turns trivial) ?_
  rotate_left
  · intro W hS; go_simp; all_goals with_reducible rfl
  try simp only [sI, sS, sZ]
  refine rkZ ?_
  have hb2 := HB.out.turns m17.turns (by simp)
  have C2 := hb2.cell 2
  simp only [List.getElem?_cons_zero, List.getElem?_cons_succ] at C2
  obtain ⟨b17, hb17⟩ : ∃ b, b = [] ++ le8 tx ++ le8 seq ++ [byte1 c.op] ++ textBytes c.table.data.toList := ⟨_, rfl⟩
  rw [← hb17] at m17
  have htx : b17 ++ textBytes (strOf (rowBytes c.row)).data.toList = chgText tx seq c := by rw [hb17]; simp [chgText, strOf]
  have HTX := Lib.hid htx
  have L17 := Lib.hid (show b17.length ≤ 2000 by
    rw [hb17]
    simp only [List.length_append, le8_length, textBytes_length, List.length_singleton, List.length_nil]
    have := HH.out.1.table
    have : c.table.data.toList.length = c.table.size := rfl
    omega)
  have RB := Lib.hid (refRowBytes_any c.row _ _ _ w0.heap.size X17 HH.out.1.row (m17.turns.slice HH.out.2.1 HH.out.2.2.size (by simp)) (Nat.le_trans HH.out.2.2.size m17.turns.size) (by have := HH.out.1.len; omega))
  have HM := Lib.hid m17
  clear m17 m14 m11 m9 hb2 hb17 htx C0 C1 S0 HB
  go_wp2_with fail
  refine RB.out.mono ?_
  rintro e x21 ⟨v21, rfl, m21⟩
  obtain ⟨A21, c21, rfl, _⟩ := m21.len
  have hcv := conv_str (P := Tryz.prog) (dst := 9) (src := 129) (e := 5) m21.sl Tryz.underlying129 Tryz.underlying5 Tryz.underlying9
  have RT := Lib.hid (RText (strOf (rowBytes c.row)) (HM.out.on m21.turns) (by have := L17.out; omega) (by rw [strOf_size]; have := rowBytes_len c.row; have := HH.out.1.len; simp only [maxLen]; omega))
  clear m21
  go_wp2_with fail
  refine RT.out.mono ?_
  rintro e x23 ⟨v23, rfl, m23⟩
  rw [HTX.out] at m23
  obtain ⟨A23, c23, rfl, _⟩ := m23.len
  have HF := Lib.hid (mine_base m23 HH.out.2.2)
  clear m23 hcv
  go_wp2_with fail
  go_ret
  exact ⟨_, _, rfl, HF.out⟩

set_option maxRecDepth 100000 in
set_option maxHeartbeats 2000000 in
theorem RRow_any (tx seq : Int) (c : Chg) (hc : c.ok) (rv : Value) (w0 : World) (hs : Sl w0 w0.heap.size 3 rv c.row.length (valCells c.row)) :
    Calls Tryz.prog 79 #[.int .i64 tx, .int .i64 seq, .agg #[.string c.table, .int .i64 c.op, rv]] w0 fun e w' => e = .returned (.agg (bvs (chgSum tx seq c)).toArray) ∧ Turns [] w0 w' := by
  obtain ⟨A, cp, rfl, hcp, _⟩ := hs.form
  obtain ⟨w, hw⟩ : ∃ x, x = w0.alloc (.cells #[.string c.table, .int .i64 c.op, .slice A c.row.length cp] 67) := ⟨_, rfl⟩
  obtain ⟨p, hp⟩ : ∃ p, p = w0.heap.size := ⟨_, rfl⟩
  have bc := Blk.new w0 [.string c.table, .int .i64 c.op, .slice A c.row.length cp] 67
  have t0 := (Turns.refl [] w0).alloc (.cells #[.string c.table, .int .i64 c.op, .slice A c.row.length cp] 67)
  have hs0 : w.heap.size = w0.heap.size + 1 := by rw [hw]; simp
  have HS0 := Lib.hid (show w0.heap.size ≤ w.heap.size by omega)
  rw [show w0.alloc (.cells [.string c.table, .int .i64 c.op, .slice A c.row.length cp].toArray 67) = w from hw.symm, ← hp] at bc
  rw [← hw] at t0
  have HW0 := Lib.hid hw
  have HP := Lib.hid hp
  obtain ⟨res, hres⟩ : ∃ r, r = bvs (chgSum tx seq c) := ⟨_, rfl⟩
  rw [← hres]
  have HRES := Lib.hid hres
  have hz32 := zero_hash
  have hzl := zeros32_len
  have b2 := Blk.new w (bvs (zeros 32)) 53
  have t1 := (Turns.refl [] w).alloc (.cells (bvs (zeros 32)).toArray 53)
  generalize hzz : bvs (zeros 32) = zz at hz32 hzl b2 t1
  obtain ⟨w1, hw1⟩ : ∃ x, x = w.alloc (.cells zz.toArray 53) := ⟨_, rfl⟩
  rw [← hw1] at b2 t1
  have hs1 : w1.heap.size = w.heap.size + 1 := by rw [hw1]; simp
  have HS1 := Lib.hid hs1
  have HW1 := Lib.hid hw1
  have HZL := Lib.hid hzl
  have H0 := Lib.hid (And.intro b2 t1)
  clear hres hzz hw1 hzl b2 t1 hs1
  have HLEN := Lib.hid (show (chgSum tx seq c).length = 32 from chgSum_len _ _ _)
  have t01 := t0.trans H0.out.2 (by simp)
  have hs1 := (t01.slice hs (Nat.le_refl _) (by simp)).more t01.size
  have RX := Lib.hid (RowText_any tx seq c hc (.slice A c.row.length cp) w1 hs1)
  have r5 := (bc.turns H0.out.2 (by simp)).range 0 3
  simp only [List.drop_zero, List.take_succ_cons, List.take_zero] at r5
  have hz1 := size_chg c.table c.op (.slice A c.row.length cp)
  have HCL := Lib.hid (chgText_len tx seq c hc)
  have HT0 := Lib.hid t01
  clear bc t0 t01 hw hp hs hs0 hs1 hc hcp
  go_enter Tryz.func79, Tryz.ntmps79
  go_upto_region 1 with (first | (refine wpList_alloc_arr (o := ⟨some 6, _, _, _, _, _⟩) rfl 53 rfl zz.toArray hz32 ?_) | fail)
  try simp only [Act.put, List.setIfInBounds_toArray, List.set_cons_succ, List.set_cons_zero]
  rw [← HW0.out, ← HW1.out, ← HP.out]
  go_wp2_with (first
    | (refine wpList_load_mid rfl 67 (.tmp 5) rfl p 0 rfl _ _ r5 Tryz.underlying67 rfl hz1 ?_)
    | fail)
  refine RX.out.mono ?_
  rintro e w2 ⟨A2, c2, rfl, m2⟩
  have LF := Lib.hid (refLeaf_any A2 _ c2 w2.heap.size (chgText tx seq c) w2 m2.sl (Nat.le_refl _) (by have := HCL.out; omega))
  have H2 := Lib.hid m2.turns
  clear m2 RX r5
  go_wp2_with fail
  refine LF.out.mono ?_
  rintro e w3 ⟨rfl, t3⟩
  rw [show bvs (leafH (chgText tx seq c)) = res from HRES.out.symm]
  have H3 := Lib.hid (H2.out.trans t3 (by simp))
  clear t3 LF
  have hrl : res.length = 32 := by rw [HRES.out, bvs_length]; exact HLEN.out
  have hr1 : ∀ u ∈ res, u.oneCell' = true := by rw [HRES.out]; exact bvs_one _
  have Q_b2 := Lib.hid (H0.out.1.turns H3.out (by simp))
  have Q_l := Lib.hid (show zz.length = res.length by rw [HZL.out, hrl])
  have Q_sz := Lib.hid (show (Tryz.prog.info? 53).map (·.size) = some res.length by rw [size_hash, hrl])
  have Q_1 := Lib.hid hr1
  clear hrl hr1
  go_wp2_with (first
    | (refine wpList_store_blk rfl 53 (.tmp 6) (.tmp 11) rfl w.heap.size (by kernel_rfl) res zz 53 (by kernel_rfl) Q_b2.out Q_l.out Q_sz.out Q_1.out (fun w9 hb9 ht9 hs9 => ?_); have HQ9 := Lib.hid (And.intro hb9 ht9); clear hb9 ht9 hs9)
    | fail)
  refine bodyPost_ret (results_cell_row rfl _ _ w.heap.size _ _ _ _ (by kernel_rfl) HQ9.out.1 Tryz.underlying53 rfl (by rw [List.size_toArray]; exact Q_sz.out)) rfl ?_
  exact ⟨rfl, (HT0.out.trans H3.out (by simp)).trans HQ9.out.2 (by intro x hx; simp at hx; exact .inr (by have := HS0.out; omega))⟩
end Go.Proofs.YtoahnhphfabajaaGreat
