/- Sums of blocks, walked; entries of rows of transactions. -/
import Derived.Test.YtoahnhphfabajaaGreatLdF
namespace Go.Proofs.YtoahnhphfabajaaGreat
open Go.RowKit
set_option linter.unusedVariables false
set_option maxRecDepth 10000
set_option linter.unusedSimpArgs false
set_option linter.unnecessarySimpa false

theorem Blo.get0 (b : Blo) : b.cells[0]? = some (.int .i64 b.n) := rfl
theorem Blo.get65 {b : Blo} (h : b.ok) : b.cells[65]? = some (.int .i64 b.cnt) := by
  unfold Blo.cells
  rw [List.getElem?_cons_succ, List.getElem?_append_right (by simp [bvs_length, h.prev, h.root])]
  simp [bvs_length, h.prev, h.root]
theorem Blo.getP {b : Blo} (h : b.ok) (j : Nat) (u : Value) (hu : (bvs b.prev)[j]? = some u) : b.cells[1 + j]? = some u := by
  have hj := (List.getElem?_eq_some_iff.1 hu).1
  unfold Blo.cells
  rw [Nat.add_comm, List.getElem?_cons_succ, List.append_assoc, List.getElem?_append_left hj]
  exact hu
theorem Blo.getR {b : Blo} (h : b.ok) (j : Nat) (u : Value) (hu : (bvs b.root)[j]? = some u) : b.cells[33 + j]? = some u := by
  have hj := (List.getElem?_eq_some_iff.1 hu).1
  unfold Blo.cells
  rw [show 33 + j = (32 + j) + 1 by omega, List.getElem?_cons_succ, List.append_assoc, List.getElem?_append_right (by rw [bvs_length, h.prev]; omega), bvs_length, h.prev, Nat.add_sub_cancel_left, List.getElem?_append_left hj]
  exact hu
/-- The sums within a block that lies there: as slices. -/
theorem blo_prev {w : World} {p : Nat} {b : Blo} {t : TypeId} (h : b.ok) (hb : Blk w p b.cells t) : Sl w w.heap.size 1 (.slice (some ⟨p, 1, none⟩) 32 32) b.prev.length (bvs b.prev) := by
  rw [h.prev]
  exact ⟨by rw [bvs_length, h.prev], _, _, rfl, Nat.le_refl _, by simp [maxLen], (fun h => by cases h), fun _ => ⟨p, 1, rfl, hb.lt, fun j u hu => by rw [hb.cell]; exact b.getP h j u hu⟩⟩
theorem blo_root {w : World} {p : Nat} {b : Blo} {t : TypeId} (h : b.ok) (hb : Blk w p b.cells t) : Sl w w.heap.size 1 (.slice (some ⟨p, 33, none⟩) 32 32) b.root.length (bvs b.root) := by
  rw [h.root]
  exact ⟨by rw [bvs_length, h.root], _, _, rfl, Nat.le_refl _, by simp [maxLen], (fun h => by cases h), fun _ => ⟨p, 33, rfl, hb.lt, fun j u hu => by rw [hb.cell]; exact b.getR h j u hu⟩⟩
theorem bloText_len {b : Blo} (h : b.ok) : (bloText b).length = 80 := by simp [bloText, le8_length, h.prev, h.root]

set_option maxRecDepth 100000 in
set_option maxHeartbeats 4000000 in
theorem CHash_any (b : Blo) (hb : b.ok) (w0 : World) :
    Calls Tryz.prog 29 #[.agg b.cells.toArray] w0 fun e w' => e = .returned (.agg (bvs (bloH b)).toArray) ∧ Turns [] w0 w' := by
  obtain ⟨cs, hcs⟩ : ∃ c, c = b.cells := ⟨_, rfl⟩
  rw [← hcs]
  have HCS := Lib.hid hcs
  clear hcs
  obtain ⟨w, hw⟩ : ∃ x, x = w0.alloc (.cells cs.toArray 70) := ⟨_, rfl⟩
  obtain ⟨p, hp⟩ : ∃ p, p = w0.heap.size := ⟨_, rfl⟩
  have bc := Blk.new w0 cs 70
  have t0 := (Turns.refl [] w0).alloc (.cells cs.toArray 70)
  have hs0 : w.heap.size = w0.heap.size + 1 := by rw [hw]; simp
  have HS0 := Lib.hid (show w0.heap.size ≤ w.heap.size by omega)
  rw [← hw, ← hp] at bc
  rw [← hw] at t0
  have HW0 := Lib.hid hw
  have HP := Lib.hid hp
  obtain ⟨res, hres⟩ : ∃ r, r = bvs (bloH b) := ⟨_, rfl⟩
  rw [← hres]
  have HRES := Lib.hid hres
  have hz32 := zero_hash
  have hzl := zeros32_len
  have b2 := Blk.new w (bvs (zeros 32)) 53
  have t1 := (Turns.refl [] w).alloc (.cells (bvs (zeros 32)).toArray 53)
  generalize hzz : bvs (zeros 32) = zz at hz32 hzl b2 t1
  obtain ⟨w1, hw1⟩ : ∃ x, x = w.alloc (.cells zz.toArray 53) := ⟨_, rfl⟩
  rw [← hw1] at b2 t1
  have hs1 : w1.heap.size = w.heap.size + 1 := by rw [hw1]; simp
  have HS1 := Lib.hid hs1
  have HW1 := Lib.hid hw1
  have HZL := Lib.hid hzl
  have H0 := Lib.hid (And.intro b2 t1)
  clear hres hzz hw1 hzl b2 t1 hs1
  have HLEN := Lib.hid (show (bloH b).length = 32 from bloH_len b)
  have t01 := t0.trans H0.out.2 (by simp)
  obtain ⟨Y, hY⟩ : ∃ q, q = w1.drew := ⟨_, rfl⟩
  have tY : Turns [] w1 Y := by rw [hY]; exact (Turns.refl _ _).drew
  have bY := (bc.turns H0.out.2 (by simp)).turns tY (by simp)
  have C0 := (bY.cell 0).trans (show cs[0]? = some (.int .i64 b.n) from HCS.out ▸ b.get0)
  have C65 := (bY.cell 65).trans (show cs[65]? = some (.int .i64 b.cnt) from HCS.out ▸ Blo.get65 hb)
  have HSS := Lib.hid (And.intro (blo_prev hb (by rw [← HCS.out]; exact bY)) (blo_root hb (by rw [← HCS.out]; exact bY)))
  have HPQ := Lib.hid (show p ≠ w.heap.size by omega)
  have HT0 := Lib.hid t01
  have HY := Lib.hid tY
  have HYY := Lib.hid hY
  obtain ⟨l6, hl6⟩ : ∃ x, x = [] ++ [b.n].flatMap le8 := ⟨_, rfl⟩
  obtain ⟨l14, hl14⟩ : ∃ x, x = [] ++ [b.cnt].flatMap le8 := ⟨_, rfl⟩
  have HL6 := Lib.hid hl6
  have HL14 := Lib.hid hl14
  have HTX := Lib.hid (show l6 ++ (b.prev ++ (b.root ++ l14)) = bloText b by rw [hl6, hl14]; simp [bloText])
  have HTL := Lib.hid (bloText_len hb)
  have HRX := Lib.hid (show bvs (sha (bloText b)) = res by rw [HRES.out]; rfl)
  have S0 : Turns [w.heap.size] Y Y := Turns.refl _ _
  have hrl : res.length = 32 := by rw [HRES.out, bvs_length]; exact HLEN.out
  have hr1 : ∀ u ∈ res, u.oneCell' = true := by rw [HRES.out]; exact bvs_one _
  have Q_sz := Lib.hid (show (Tryz.prog.info? 53).map (·.size) = some res.length by rw [size_hash, hrl])
  have Q_l := Lib.hid (show zz.length = res.length by rw [HZL.out, hrl])
  have Q_1 := Lib.hid hr1
  clear hrl hr1
  clear bc t0 t01 hw hp hs0 hY tY bY hl6 hl14 hb
  go_enter Tryz.func29, Tryz.ntmps29
  go_upto_region 1 with (first | (refine wpList_alloc_arr (o := ⟨some 2, _, _, _, _, _⟩) rfl 53 rfl zz.toArray hz32 ?_) | fail)
  try simp only [Act.put, List.setIfInBounds_toArray, List.set_cons_succ, List.set_cons_zero]
  rw [← HW0.out, ← HW1.out, ← HP.out]
  refine rk0 (fun W => Turns [w.heap.size] Y W) (fun _ => True) 15 15 ?_
  rw [← HYY.out]
  refine rkA 0 3 1 (v := ?_) ?_ (.mk' S0 trivial) ?_
  rotate_left
  · intro W hS; go_simp; all_goals with_reducible rfl
  try simp only [sI, sS, sZ]
  refine rkA 1 4 3 (v := ?_) ?_ (.mk' S0 trivial) ?_
  rotate_left
  · intro W hS; have c0 := cellL hS C0 (by simp; exact HPQ.out); go_simp; all_goals with_reducible rfl
  try simp only [sI, sS, sZ]
  refine rkA 4 7 19 (v := ?_) ?_ (.mk' S0 trivial) ?_
  rotate_left
  · intro W hS; go_simp; all_goals with_reducible rfl
  try simp only [sI, sS, sZ]
  refine rkA 5 8 51 (v := ?_) ?_ (.mk' S0 trivial) ?_
  rotate_left
  · intro W hS; go_simp; all_goals with_reducible rfl
  try simp only [sI, sS, sZ]
  refine rkA 6 9 115 (v := ?_) ?_ (.mk' S0 trivial) ?_
  rotate_left
  · intro W hS; go_simp; all_goals with_reducible rfl
  try simp only [sI, sS, sZ]
  refine rkA 7 10 243 (v := ?_) ?_ (.mk' S0 trivial) ?_
  rotate_left
  · intro W hS; go_simp; all_goals with_reducible rfl
  try simp only [sI, sS, sZ]
  refine rkA 8 11 499 (v := ?_) ?_ (.mk' S0 trivial) ?_
  rotate_left
  · intro W hS; go_simp; all_goals with_reducible rfl
  try simp only [sI, sS, sZ]
  refine rkA 9 12 1011 (v := ?_) ?_ (.mk' S0 trivial) ?_
  rotate_left
  · intro W hS; have c0 := cellL hS C65 (by simp; exact HPQ.out); go_simp; all_goals with_reducible rfl
  try simp only [sI, sS, sZ]
  refine rk2 2 10 1015 2035 (fun K hK => ?_) (fun K hK => ?_)
  go_simp
  have D5 : Turns [] Y (Y.alloc (.cells #[.int .i64 b.n] 3)) := (Turns.refl _ _).alloc _
  have L5 : Sl (Y.alloc (.cells #[.int .i64 b.n] 3)) (Y.alloc (.cells #[.int .i64 b.n] 3)).heap.size 1 (.slice (some ⟨Y.heap.size, 0, none⟩) 1 1) 1 [.int .i64 b.n] := (Sl.new Y #[.int .i64 b.n] 3 1 1 rfl (by simp [maxLen])).more (by simp)
  generalize Y.alloc (.cells #[.int .i64 b.n] 3) = X5 at D5 L5 ⊢
  refine hK _ _ (.mk' (((Turns.refl [] Y).trans D5 (by simp)).mono (by simp)) trivial) ?_
  clear hK K
  try simp only [sI, sS, sZ]
  refine rk2 3 10 1023 2039 (fun K hK => ?_) (fun K hK => ?_)
  go_simp
  refine (Ints_any (W0 := Y) (bs := []) [b.n] ((Turns.refl [] X5).slice L5 (Nat.le_refl _) (by simp)) (Turns.refl [] X5).size (Mine.nil ((Turns.refl [] Y).trans D5 (by simp))) rfl (by simp)).mono ?_
  rintro e X6 ⟨v6, rfl, m6, D6⟩
  rw [← HL6.out] at m6
  obtain ⟨A6, c6, rfl, _⟩ := m6.len
  refine hK _ _ (.mk' ((((Turns.refl [] Y).trans D5 (by simp)).trans D6 (by simp)).mono (by simp)) trivial) ?_
  clear hK K
  try simp only [sI, sS, sZ]
  refine rk1 10 2047 (fun K hK => ?_)
  go_simp
  have D13 : Turns [] X6 (X6.alloc (.cells #[.int .i64 b.cnt] 3)) := (Turns.refl _ _).alloc _
  have L13 : Sl (X6.alloc (.cells #[.int .i64 b.cnt] 3)) (X6.alloc (.cells #[.int .i64 b.cnt] 3)).heap.size 1 (.slice (some ⟨X6.heap.size, 0, none⟩) 1 1) 1 [.int .i64 b.cnt] := (Sl.new X6 #[.int .i64 b.cnt] 3 1 1 rfl (by simp [maxLen])).more (by simp)
  generalize X6.alloc (.cells #[.int .i64 b.cnt] 3) = X13 at D13 L13 ⊢
  refine hK _ _ (.mk' (((((Turns.refl [] Y).trans D5 (by simp)).trans D6 (by simp)).trans D13 (by simp)).mono (by simp)) trivial) ?_
  clear hK K
  try simp only [sI, sS, sZ]
  refine rk1 11 4095 (fun K hK => ?_)
  go_simp
  refine (Ints_any (W0 := Y) (bs := []) [b.cnt] ((Turns.refl [] X13).slice L13 (Nat.le_refl _) (by simp)) (Turns.refl [] X13).size (Mine.nil ((((Turns.refl [] Y).trans D5 (by simp)).trans D6 (by simp)).trans D13 (by simp))) rfl (by simp)).mono ?_
  rintro e X14 ⟨v14, rfl, m14, D14⟩
  rw [← HL14.out] at m14
  obtain ⟨A14, c14, rfl, _⟩ := m14.len
  refine hK _ _ (.mk' ((((((Turns.refl [] Y).trans D5 (by simp)).trans D6 (by simp)).trans D13 (by simp)).trans D14 (by simp)).mono (by simp)) trivial) ?_
  clear hK K
  try simp only [sI, sS, sZ]
  refine rk1 12 8191 (fun K hK => ?_)
  go_simp
  have SU := Sum_lit [(.slice A6 l6.length c6, l6), (.slice (some ⟨p, 1, none⟩) 32 32, b.prev), (.slice (some ⟨p, 33, none⟩) 32 32, b.root), (.slice A14 l14.length c14, l14)] X14 (by
    intro q hq
    simp at hq
    rcases hq with rfl | rfl | rfl | rfl
    · exact (m6.on (((Turns.refl [] X6).trans D13 (by simp)).trans D14 (by simp))).sl
    · exact ((((((Turns.refl [] Y).trans D5 (by simp)).trans D6 (by simp)).trans D13 (by simp)).trans D14 (by simp)).slice HSS.out.1 (Nat.le_refl _) (by simp)).more (((((Turns.refl [] Y).trans D5 (by simp)).trans D6 (by simp)).trans D13 (by simp)).trans D14 (by simp)).size
    · exact ((((((Turns.refl [] Y).trans D5 (by simp)).trans D6 (by simp)).trans D13 (by simp)).trans D14 (by simp)).slice HSS.out.2 (Nat.le_refl _) (by simp)).more (((((Turns.refl [] Y).trans D5 (by simp)).trans D6 (by simp)).trans D13 (by simp)).trans D14 (by simp)).size
    · exact (m14.on (Turns.refl [] X14)).sl) (by simp only [flat, List.flatMap_cons, List.flatMap_nil, List.append_nil]; rw [HTX.out, HTL.out]; omega) (by simp)
  rw [show flat [(Value.slice A6 l6.length c6, l6), (Value.slice (some ⟨p, 1, none⟩) 32 32, b.prev), (Value.slice (some ⟨p, 33, none⟩) 32 32, b.root), (Value.slice A14 l14.length c14, l14)] = bloText b by simp only [flat, List.flatMap_cons, List.flatMap_nil, List.append_nil]; exact HTX.out, HRX.out] at SU
  simp only [List.length_cons, List.length_nil, List.map_cons, List.map_nil] at SU
  refine hK _ _ (.mk' (((((((Turns.refl [] Y).trans D5 (by simp)).trans D6 (by simp)).trans D13 (by simp)).trans D14 (by simp)).alloc _).mono (by simp)) trivial) ?_
  clear hK K
  try simp only [sI, sS, sZ]
  refine rk1 13 16383 (fun K hK => ?_)
  go_simp
  refine SU.mono ?_
  rintro e X16 ⟨rfl, D16⟩
  refine hK _ _ (.mk' (((((((Turns.refl [] Y).trans D5 (by simp)).trans D6 (by simp)).trans D13 (by simp)).trans D14 (by simp)).trans D16 (by simp)).mono (by simp)) trivial) ?_
  clear hK K
  try simp only [sI, sS, sZ]
  refine rk1 14 32767 (fun K hK => ?_)
  refine wp_store_blk 53 _ _ (by rfl) w.heap.size (by rfl) res zz 53 (by rfl) ((H0.out.1.turns HY.out (by simp)).turns ((((((Turns.refl [] Y).trans D5 (by simp)).trans D6 (by simp)).trans D13 (by simp)).trans D14 (by simp)).trans D16 (by simp)) (by simp)) Q_l.out Q_sz.out Q_1.out (fun X25 hb25 ht25 => ?_)
  have HE := Lib.hid (And.intro hb25 ((((((((Turns.refl [] Y).trans D5 (by simp)).trans D6 (by simp)).trans D13 (by simp)).trans D14 (by simp)).trans D16 (by simp)).mono (by simp)).trans ht25 (fun x hx => .inl hx)))
  refine hK _ _ (.mk' HE.out.2 trivial) ?_
  clear hK K
  try simp only [sI, sS, sZ]
  refine rkZ ?_
  rotate_left 1
  go_simp
  have D13 : Turns [] X5 (X5.alloc (.cells #[.int .i64 b.cnt] 3)) := (Turns.refl _ _).alloc _
  have L13 : Sl (X5.alloc (.cells #[.int .i64 b.cnt] 3)) (X5.alloc (.cells #[.int .i64 b.cnt] 3)).heap.size 1 (.slice (some ⟨X5.heap.size, 0, none⟩) 1 1) 1 [.int .i64 b.cnt] := (Sl.new X5 #[.int .i64 b.cnt] 3 1 1 rfl (by simp [maxLen])).more (by simp)
  generalize X5.alloc (.cells #[.int .i64 b.cnt] 3) = X13 at D13 L13 ⊢
  refine hK _ _ (.mk' ((((Turns.refl [] Y).trans D5 (by simp)).trans D13 (by simp)).mono (by simp)) trivial) ?_
  clear hK K
  try simp only [sI, sS, sZ]
  refine rk1 3 2047 (fun K hK => ?_)
  go_simp
  refine (Ints_any (W0 := Y) (bs := []) [b.n] (((Turns.refl [] X5).trans D13 (by simp)).slice L5 (Nat.le_refl _) (by simp)) ((Turns.refl [] X5).trans D13 (by simp)).size (Mine.nil (((Turns.refl [] Y).trans D5 (by simp)).trans D13 (by simp))) rfl (by simp)).mono ?_
  rintro e X6 ⟨v6, rfl, m6, D6⟩
  rw [← HL6.out] at m6
  obtain ⟨A6, c6, rfl, _⟩ := m6.len
  refine hK _ _ (.mk' (((((Turns.refl [] Y).trans D5 (by simp)).trans D13 (by simp)).trans D6 (by simp)).mono (by simp)) trivial) ?_
  clear hK K
  try simp only [sI, sS, sZ]
  refine rk1 11 4095 (fun K hK => ?_)
  go_simp
  refine (Ints_any (W0 := Y) (bs := []) [b.cnt] (((Turns.refl [] X13).trans D6 (by simp)).slice L13 (Nat.le_refl _) (by simp)) ((Turns.refl [] X13).trans D6 (by simp)).size (Mine.nil ((((Turns.refl [] Y).trans D5 (by simp)).trans D13 (by simp)).trans D6 (by simp))) rfl (by simp)).mono ?_
  rintro e X14 ⟨v14, rfl, m14, D14⟩
  rw [← HL14.out] at m14
  obtain ⟨A14, c14, rfl, _⟩ := m14.len
  refine hK _ _ (.mk' ((((((Turns.refl [] Y).trans D5 (by simp)).trans D13 (by simp)).trans D6 (by simp)).trans D14 (by simp)).mono (by simp)) trivial) ?_
  clear hK K
  try simp only [sI, sS, sZ]
  refine rk1 12 8191 (fun K hK => ?_)
  go_simp
  have SU := Sum_lit [(.slice A6 l6.length c6, l6), (.slice (some ⟨p, 1, none⟩) 32 32, b.prev), (.slice (some ⟨p, 33, none⟩) 32 32, b.root), (.slice A14 l14.length c14, l14)] X14 (by
    intro q hq
    simp at hq
    rcases hq with rfl | rfl | rfl | rfl
    · exact (m6.on ((Turns.refl [] X6).trans D14 (by simp))).sl
    · exact ((((((Turns.refl [] Y).trans D5 (by simp)).trans D13 (by simp)).trans D6 (by simp)).trans D14 (by simp)).slice HSS.out.1 (Nat.le_refl _) (by simp)).more (((((Turns.refl [] Y).trans D5 (by simp)).trans D13 (by simp)).trans D6 (by simp)).trans D14 (by simp)).size
    · exact ((((((Turns.refl [] Y).trans D5 (by simp)).trans D13 (by simp)).trans D6 (by simp)).trans D14 (by simp)).slice HSS.out.2 (Nat.le_refl _) (by simp)).more (((((Turns.refl [] Y).trans D5 (by simp)).trans D13 (by simp)).trans D6 (by simp)).trans D14 (by simp)).size
    · exact (m14.on (Turns.refl [] X14)).sl) (by simp only [flat, List.flatMap_cons, List.flatMap_nil, List.append_nil]; rw [HTX.out, HTL.out]; omega) (by simp)
  rw [show flat [(Value.slice A6 l6.length c6, l6), (Value.slice (some ⟨p, 1, none⟩) 32 32, b.prev), (Value.slice (some ⟨p, 33, none⟩) 32 32, b.root), (Value.slice A14 l14.length c14, l14)] = bloText b by simp only [flat, List.flatMap_cons, List.flatMap_nil, List.append_nil]; exact HTX.out, HRX.out] at SU
  simp only [List.length_cons, List.length_nil, List.map_cons, List.map_nil] at SU
  refine hK _ _ (.mk' (((((((Turns.refl [] Y).trans D5 (by simp)).trans D13 (by simp)).trans D6 (by simp)).trans D14 (by simp)).alloc _).mono (by simp)) trivial) ?_
  clear hK K
  try simp only [sI, sS, sZ]
  refine rk1 13 16383 (fun K hK => ?_)
  go_simp
  refine SU.mono ?_
  rintro e X16 ⟨rfl, D16⟩
  refine hK _ _ (.mk' (((((((Turns.refl [] Y).trans D5 (by simp)).trans D13 (by simp)).trans D6 (by simp)).trans D14 (by simp)).trans D16 (by simp)).mono (by simp)) trivial) ?_
  clear hK K
  try simp only [sI, sS, sZ]
  refine rk1 14 32767 (fun K hK => ?_)
  refine wp_store_blk 53 _ _ (by rfl) w.heap.size (by rfl) res zz 53 (by rfl) ((H0.out.1.turns HY.out (by simp)).turns ((((((Turns.refl [] Y).trans D5 (by simp)).trans D13 (by simp)).trans D6 (by simp)).trans D14 (by simp)).trans D16 (by simp)) (by simp)) Q_l.out Q_sz.out Q_1.out (fun X25 hb25 ht25 => ?_)
  have HE := Lib.hid (And.intro hb25 ((((((((Turns.refl [] Y).trans D5 (by simp)).trans D13 (by simp)).trans D6 (by simp)).trans D14 (by simp)).trans D16 (by simp)).mono (by simp)).trans ht25 (fun x hx => .inl hx)))
  refine hK _ _ (.mk' HE.out.2 trivial) ?_
  clear hK K
  try simp only [sI, sS, sZ]
  refine rkZ ?_
  rotate_left 1
  go_simp
  have D13 : Turns [] Y (Y.alloc (.cells #[.int .i64 b.cnt] 3)) := (Turns.refl _ _).alloc _
  have L13 : Sl (Y.alloc (.cells #[.int .i64 b.cnt] 3)) (Y.alloc (.cells #[.int .i64 b.cnt] 3)).heap.size 1 (.slice (some ⟨Y.heap.size, 0, none⟩) 1 1) 1 [.int .i64 b.cnt] := (Sl.new Y #[.int .i64 b.cnt] 3 1 1 rfl (by simp [maxLen])).more (by simp)
  generalize Y.alloc (.cells #[.int .i64 b.cnt] 3) = X13 at D13 L13 ⊢
  refine hK _ _ (.mk' (((Turns.refl [] Y).trans D13 (by simp)).mono (by simp)) trivial) ?_
  clear hK K
  try simp only [sI, sS, sZ]
  refine rk1 2 2039 (fun K hK => ?_)
  go_simp
  have D5 : Turns [] X13 (X13.alloc (.cells #[.int .i64 b.n] 3)) := (Turns.refl _ _).alloc _
  have L5 : Sl (X13.alloc (.cells #[.int .i64 b.n] 3)) (X13.alloc (.cells #[.int .i64 b.n] 3)).heap.size 1 (.slice (some ⟨X13.heap.size, 0, none⟩) 1 1) 1 [.int .i64 b.n] := (Sl.new X13 #[.int .i64 b.n] 3 1 1 rfl (by simp [maxLen])).more (by simp)
  generalize X13.alloc (.cells #[.int .i64 b.n] 3) = X5 at D5 L5 ⊢
  refine hK _ _ (.mk' ((((Turns.refl [] Y).trans D13 (by simp)).trans D5 (by simp)).mono (by simp)) trivial) ?_
  clear hK K
  try simp only [sI, sS, sZ]
  refine rk1 3 2047 (fun K hK => ?_)
  go_simp
  refine (Ints_any (W0 := Y) (bs := []) [b.n] ((Turns.refl [] X5).slice L5 (Nat.le_refl _) (by simp)) (Turns.refl [] X5).size (Mine.nil (((Turns.refl [] Y).trans D13 (by simp)).trans D5 (by simp))) rfl (by simp)).mono ?_
  rintro e X6 ⟨v6, rfl, m6, D6⟩
  rw [← HL6.out] at m6
  obtain ⟨A6, c6, rfl, _⟩ := m6.len
  refine hK _ _ (.mk' (((((Turns.refl [] Y).trans D13 (by simp)).trans D5 (by simp)).trans D6 (by simp)).mono (by simp)) trivial) ?_
  clear hK K
  try simp only [sI, sS, sZ]
  refine rk1 11 4095 (fun K hK => ?_)
  go_simp
  refine (Ints_any (W0 := Y) (bs := []) [b.cnt] ((((Turns.refl [] X13).trans D5 (by simp)).trans D6 (by simp)).slice L13 (Nat.le_refl _) (by simp)) (((Turns.refl [] X13).trans D5 (by simp)).trans D6 (by simp)).size (Mine.nil ((((Turns.refl [] Y).trans D13 (by simp)).trans D5 (by simp)).trans D6 (by simp))) rfl (by simp)).mono ?_
  rintro e X14 ⟨v14, rfl, m14, D14⟩
  rw [← HL14.out] at m14
  obtain ⟨A14, c14, rfl, _⟩ := m14.len
  refine hK _ _ (.mk' ((((((Turns.refl [] Y).trans D13 (by simp)).trans D5 (by simp)).trans D6 (by simp)).trans D14 (by simp)).mono (by simp)) trivial) ?_
  clear hK K
  try simp only [sI, sS, sZ]
  refine rk1 12 8191 (fun K hK => ?_)
  go_simp
  have SU := Sum_lit [(.slice A6 l6.length c6, l6), (.slice (some ⟨p, 1, none⟩) 32 32, b.prev), (.slice (some ⟨p, 33, none⟩) 32 32, b.root), (.slice A14 l14.length c14, l14)] X14 (by
    intro q hq
    simp at hq
    rcases hq with rfl | rfl | rfl | rfl
    · exact (m6.on ((Turns.refl [] X6).trans D14 (by simp))).sl
    · exact ((((((Turns.refl [] Y).trans D13 (by simp)).trans D5 (by simp)).trans D6 (by simp)).trans D14 (by simp)).slice HSS.out.1 (Nat.le_refl _) (by simp)).more (((((Turns.refl [] Y).trans D13 (by simp)).trans D5 (by simp)).trans D6 (by simp)).trans D14 (by simp)).size
    · exact ((((((Turns.refl [] Y).trans D13 (by simp)).trans D5 (by simp)).trans D6 (by simp)).trans D14 (by simp)).slice HSS.out.2 (Nat.le_refl _) (by simp)).more (((((Turns.refl [] Y).trans D13 (by simp)).trans D5 (by simp)).trans D6 (by simp)).trans D14 (by simp)).size
    · exact (m14.on (Turns.refl [] X14)).sl) (by simp only [flat, List.flatMap_cons, List.flatMap_nil, List.append_nil]; rw [HTX.out, HTL.out]; omega) (by simp)
  rw [show flat [(Value.slice A6 l6.length c6, l6), (Value.slice (some ⟨p, 1, none⟩) 32 32, b.prev), (Value.slice (some ⟨p, 33, none⟩) 32 32, b.root), (Value.slice A14 l14.length c14, l14)] = bloText b by simp only [flat, List.flatMap_cons, List.flatMap_nil, List.append_nil]; exact HTX.out, HRX.out] at SU
  simp only [List.length_cons, List.length_nil, List.map_cons, List.map_nil] at SU
  refine hK _ _ (.mk' (((((((Turns.refl [] Y).trans D13 (by simp)).trans D5 (by simp)).trans D6 (by simp)).trans D14 (by simp)).alloc _).mono (by simp)) trivial) ?_
  clear hK K
  try simp only [sI, sS, sZ]
  refine rk1 13 16383 (fun K hK => ?_)
  go_simp
  refine SU.mono ?_
  rintro e X16 ⟨rfl, D16⟩
  refine hK _ _ (.mk' (((((((Turns.refl [] Y).trans D13 (by simp)).trans D5 (by simp)).trans D6 (by simp)).trans D14 (by simp)).trans D16 (by simp)).mono (by simp)) trivial) ?_
  clear hK K
  try simp only [sI, sS, sZ]
  refine rk1 14 32767 (fun K hK => ?_)
  refine wp_store_blk 53 _ _ (by rfl) w.heap.size (by rfl) res zz 53 (by rfl) ((H0.out.1.turns HY.out (by simp)).turns ((((((Turns.refl [] Y).trans D13 (by simp)).trans D5 (by simp)).trans D6 (by simp)).trans D14 (by simp)).trans D16 (by simp)) (by simp)) Q_l.out Q_sz.out Q_1.out (fun X25 hb25 ht25 => ?_)
  have HE := Lib.hid (And.intro hb25 ((((((((Turns.refl [] Y).trans D13 (by simp)).trans D5 (by simp)).trans D6 (by simp)).trans D14 (by simp)).trans D16 (by simp)).mono (by simp)).trans ht25 (fun x hx => .inl hx)))
  refine hK _ _ (.mk' HE.out.2 trivial) ?_
  clear hK K
  try simp only [sI, sS, sZ]
  refine rkZ ?_
  all_goals go_wp2_with fail
  all_goals refine bodyPost_ret (results_cell_row rfl _ _ w.heap.size _ _ _ _ (by kernel_rfl) HE.out.1 Tryz.underlying53 rfl (by rw [List.size_toArray]; exact Q_sz.out)) rfl ?_
  all_goals exact ⟨rfl, ((HT0.out.trans HY.out (by simp)).trans HE.out.2 (by intro x hx; simp at hx; exact .inr (by have := HS0.out; omega)))⟩
end Go.Proofs.YtoahnhphfabajaaGreat
