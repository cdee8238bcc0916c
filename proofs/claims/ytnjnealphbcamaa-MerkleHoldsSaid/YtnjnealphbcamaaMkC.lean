/- Leaves; two sums joined. -/
import Derived.Test.YtnjnealphbcamaaMkB
namespace Go.Proofs.Ytnjnealphbcamaa
open Go.RowKit
set_option linter.unusedVariables false
set_option maxRecDepth 10000
set_option linter.unusedSimpArgs false
set_option linter.unnecessarySimpa false

set_option maxRecDepth 100000 in
set_option maxHeartbeats 1000000 in
theorem Leaf_any (A : Option Addr) (n c B : Nat) (b : List UInt8) (w : World) (h : Sl w B 1 (.slice A n c) n (bvs b)) (hB : B ≤ w.heap.size) (hm : b.length ≤ 100000000) :
    Calls Try.prog 13 #[.slice A n c] w fun e w' => e = .returned (.agg (bvs (leafH b)).toArray) ∧ Turns [] w w' := by
  have hbn := h.1
  rw [bvs_length, Nat.mul_one] at hbn
  subst hbn
  obtain ⟨res, hres⟩ : ∃ r, r = bvs (leafH b) := ⟨_, rfl⟩
  rw [← hres]
  have HRES := Lib.hid hres
  have hz32 := zero_hash
  have hzl := zeros32_len
  have b2 := Blk.new w (bvs (zeros 32)) 27
  have t1 := (Turns.refl [] w).alloc (.cells (bvs (zeros 32)).toArray 27)
  generalize hzz : bvs (zeros 32) = zz at hz32 hzl b2 t1
  obtain ⟨w1, hw1⟩ : ∃ x, x = w.alloc (.cells zz.toArray 27) := ⟨_, rfl⟩
  rw [← hw1] at b2 t1
  have hs1 : w1.heap.size = w.heap.size + 1 := by rw [hw1]; simp
  have HS1 := Lib.hid hs1
  have HW1 := Lib.hid hw1
  have HZL := Lib.hid hzl
  have H0 := Lib.hid (And.intro b2 t1)
  clear hres hzz hw1 hzl b2 t1 hs1
  have HLEN := Lib.hid (show (leafH b).length = 32 from sha_len _)
  have s1 := (H0.out.2.slice h hB (by simp)).more (Nat.le_trans hB H0.out.2.size)
  have by1 := Sl.byte w1 0 (.int .u8 0) rfl
  have SU := Sum_lit [(.slice (some ⟨w1.heap.size, 0, none⟩) 1 1, [0]), (.slice A b.length c, b)] (w1.alloc (.cells #[.int .u8 0] 5)) (by
    intro p hp
    simp at hp
    rcases hp with rfl | rfl
    · simpa using by1
    · exact (s1.alloc (Nat.le_refl _) _).more (by simp)) (by simp [flat]; omega) (by simp)
  have hfl : flat [(Value.slice (some ⟨w1.heap.size, 0, none⟩) 1 1, [(0 : UInt8)]), (Value.slice A b.length c, b)] = 0 :: b := by simp [flat]
  rw [hfl] at SU
  simp only [List.length_cons, List.length_nil, List.map_cons, List.map_nil, World.size_alloc] at SU
  have SH := Lib.hid SU
  clear SU hfl s1 by1 h hB hm
  go_enter Try.func13, Try.ntmps13
  go_upto_region 1 with (first | (refine wpList_alloc_arr (o := ⟨some 2, _, _, _, _, _⟩) rfl 27 rfl zz.toArray hz32 ?_) | fail)
  try simp only [Act.put, List.setIfInBounds_toArray, List.set_cons_succ, List.set_cons_zero]
  rw [← HW1.out]
  go_wp2_with fail
  refine SH.out.mono ?_
  rintro e w2 ⟨rfl, t2⟩
  rw [show bvs (sha (0 :: b)) = res from HRES.out.symm]
  have t12 : Turns [] w1 w2 := ((Turns.refl [] w1).alloc _).trans t2 (by simp)
  have H2 := Lib.hid t12
  clear t12 t2 SH
  have hrl : res.length = 32 := by rw [HRES.out, bvs_length]; exact HLEN.out
  have hr1 : ∀ u ∈ res, u.oneCell' = true := by rw [HRES.out]; exact bvs_one _
  have Q_b2 := Lib.hid (H0.out.1.turns H2.out (by simp))
  have Q_l := Lib.hid (show zz.length = res.length by rw [HZL.out, hrl])
  have Q_sz := Lib.hid (show (Try.prog.info? 27).map (·.size) = some res.length by rw [size_hash, hrl])
  have Q_1 := Lib.hid hr1
  clear hrl hr1
  go_wp2_with (first
    | (refine wpList_store_blk rfl 27 (.tmp 2) (.tmp 6) rfl w.heap.size (by kernel_rfl) res zz 27 (by kernel_rfl) Q_b2.out Q_l.out Q_sz.out Q_1.out (fun w9 hb9 ht9 hs9 => ?_); have HQ9 := Lib.hid (And.intro hb9 ht9); clear hb9 ht9 hs9)
    | fail)
  refine bodyPost_ret (results_cell_row rfl _ _ w.heap.size _ _ _ _ (by kernel_rfl) HQ9.out.1 Try.underlying27 rfl (by rw [List.size_toArray]; exact Q_sz.out)) rfl ?_
  exact ⟨rfl, (H0.out.2.trans H2.out (by simp)).trans HQ9.out.2 (by simp)⟩

/-- A literal row of bytes. -/
theorem mine_lit (w : World) (bs : List UInt8) (hm : bs.length ≤ maxLen) : Mine w (w.alloc (.cells (bvs bs).toArray 5)) (.slice (some ⟨w.heap.size, 0, none⟩) bs.length bs.length) bs :=
  ⟨⟨by rw [bvs_length, Nat.mul_one], .inr ⟨w.heap.size, bs.length, (bvs bs).toArray, rfl, Nat.le_refl _, heap_alloc_new w _, Nat.le_refl _, hm, by simp [bvs_length], by
    rw [Nat.mul_one]
    exact List.take_of_length_le (by simp [bvs_length])⟩⟩, (Turns.refl [] w).alloc _⟩
theorem mine_append {W0 w : World} {v : Value} {bs : List UInt8} (h : Mine W0 w v bs) {B : Nat} {x : Value} {cs : List UInt8} (hx : Sl w B 1 x cs.length (bvs cs)) (hm : bs.length + cs.length ≤ 2000000000) (ty : TypeId) :
    ∃ v' w', (Builtin.append_ #[22, 22] ty #[v, x]).run Try.prog w = .ok v' w' ∧ Mine W0 w' v' (bs ++ cs) := by
  obtain ⟨v1, w1, hr1, ap1⟩ := run_append_rd (P := Try.prog) w T8 ty h.own hx (bvs_one _) (by simp only [maxLen]; omega) (by omega) h.turns.size
  refine ⟨v1, w1, hr1, ?_⟩
  rw [← bvs_append] at ap1
  exact mine_apd h ap1

set_option maxRecDepth 100000 in
set_option maxHeartbeats 1000000 in
theorem refLeaf_any (A : Option Addr) (n c B : Nat) (b : List UInt8) (w : World) (h : Sl w B 1 (.slice A n c) n (bvs b)) (hB : B ≤ w.heap.size) (hm : b.length ≤ 100000000) :
    Calls Try.prog 14 #[.slice A n c] w fun e w' => e = .returned (.agg (bvs (leafH b)).toArray) ∧ Turns [] w w' := by
  have hbn := h.1
  rw [bvs_length, Nat.mul_one] at hbn
  subst hbn
  obtain ⟨res, hres⟩ : ∃ r, r = bvs (leafH b) := ⟨_, rfl⟩
  rw [← hres]
  have HRES := Lib.hid hres
  have hz32 := zero_hash
  have hzl := zeros32_len
  have b2 := Blk.new w (bvs (zeros 32)) 27
  have t1 := (Turns.refl [] w).alloc (.cells (bvs (zeros 32)).toArray 27)
  generalize hzz : bvs (zeros 32) = zz at hz32 hzl b2 t1
  obtain ⟨w1, hw1⟩ : ∃ x, x = w.alloc (.cells zz.toArray 27) := ⟨_, rfl⟩
  rw [← hw1] at b2 t1
  have hs1 : w1.heap.size = w.heap.size + 1 := by rw [hw1]; simp
  have HS1 := Lib.hid hs1
  have HW1 := Lib.hid hw1
  have HZL := Lib.hid hzl
  have H0 := Lib.hid (And.intro b2 t1)
  clear hres hzz hw1 hzl b2 t1 hs1
  have HLEN := Lib.hid (show (leafH b).length = 32 from sha_len _)
  have s1 := (H0.out.2.slice h hB (by simp)).more (Nat.le_trans hB H0.out.2.size)
  obtain ⟨v2, w2, hr2, m2⟩ := mine_append (mine_lit w1 [0] (by simp [maxLen])) (s1.alloc (Nat.le_refl _) _) (by simp; omega) 22
  obtain ⟨A2, c2, rfl, _⟩ := m2.len
  have SU := refSum_any A2 _ c2 w2.heap.size ([0] ++ b) w2 m2.sl (Nat.le_refl _) (by simp; omega)
  rw [show ([(0 : UInt8)] ++ b).length = b.length + 1 by simp] at SU
  have SH := Lib.hid SU
  have H2 := Lib.hid m2.turns
  rw [show (bvs [0]).toArray = #[Value.int .u8 0] from rfl, show [(0 : UInt8)].length = 1 from rfl, show ([(0 : UInt8)] ++ b).length = b.length + 1 by simp] at hr2
  clear SU s1 m2 h hB hm
  go_enter Try.func14, Try.ntmps14
  go_upto_region 1 with (first | (refine wpList_alloc_arr (o := ⟨some 2, _, _, _, _, _⟩) rfl 27 rfl zz.toArray hz32 ?_) | fail)
  try simp only [Act.put, List.setIfInBounds_toArray, List.set_cons_succ, List.set_cons_zero]
  rw [← HW1.out]
  go_wp2_with (at_builtin; refine wpList_append_at rfl (.tmp 3) (.tmp 4) rfl hr2 rfl rfl ?_)
  clear hr2
  refine SH.out.mono ?_
  rintro e w3 ⟨rfl, t3⟩
  rw [show bvs (sha ([0] ++ b)) = res from HRES.out.symm]
  have H3 := Lib.hid (H2.out.trans t3 (by simp))
  clear t3 SH
  have hrl : res.length = 32 := by rw [HRES.out, bvs_length]; exact HLEN.out
  have hr1 : ∀ u ∈ res, u.oneCell' = true := by rw [HRES.out]; exact bvs_one _
  have Q_b2 := Lib.hid (H0.out.1.turns H3.out (by simp))
  have Q_l := Lib.hid (show zz.length = res.length by rw [HZL.out, hrl])
  have Q_sz := Lib.hid (show (Try.prog.info? 27).map (·.size) = some res.length by rw [size_hash, hrl])
  have Q_1 := Lib.hid hr1
  clear hrl hr1
  go_wp2_with (first
    | (refine wpList_store_blk rfl 27 (.tmp 2) (.tmp 6) rfl w.heap.size (by kernel_rfl) res zz 27 (by kernel_rfl) Q_b2.out Q_l.out Q_sz.out Q_1.out (fun w9 hb9 ht9 hs9 => ?_); have HQ9 := Lib.hid (And.intro hb9 ht9); clear hb9 ht9 hs9)
    | fail)
  refine bodyPost_ret (results_cell_row rfl _ _ w.heap.size _ _ _ _ (by kernel_rfl) HQ9.out.1 Try.underlying27 rfl (by rw [List.size_toArray]; exact Q_sz.out)) rfl ?_
  exact ⟨rfl, (H0.out.2.trans H3.out (by simp)).trans HQ9.out.2 (by simp)⟩

set_option maxRecDepth 100000 in
set_option maxHeartbeats 1000000 in
theorem Two_any (a b : List UInt8) (ha : a.length = 32) (hb : b.length = 32) (w0 : World) :
    Calls Try.prog 18 #[.agg (bvs a).toArray, .agg (bvs b).toArray] w0 fun e w' => e = .returned (.agg (bvs (twoH a b)).toArray) ∧ Turns [] w0 w' := by
  obtain ⟨w, hw⟩ : ∃ x, x = (w0.alloc (.cells (bvs a).toArray 27)).alloc (.cells (bvs b).toArray 27) := ⟨_, rfl⟩
  have ba := (Blk.new w0 (bvs a) 27).alloc (.cells (bvs b).toArray 27)
  have bb := Blk.new (w0.alloc (.cells (bvs a).toArray 27)) (bvs b) 27
  have t0 := ((Turns.refl [] w0).alloc (.cells (bvs a).toArray 27)).alloc (.cells (bvs b).toArray 27)
  have hs0 : w.heap.size = w0.heap.size + 2 := by rw [hw]; simp
  rw [← hw] at ba bb t0
  rw [show (w0.alloc (.cells (bvs a).toArray 27)).heap.size = w0.heap.size + 1 by simp] at bb
  have HW0 := Lib.hid hw
  have HT0 := Lib.hid t0
  have HS0 := Lib.hid hs0
  obtain ⟨res, hres⟩ : ∃ r, r = bvs (twoH a b) := ⟨_, rfl⟩
  rw [← hres]
  have HRES := Lib.hid hres
  have hz32 := zero_hash
  have hzl := zeros32_len
  have b2 := Blk.new w (bvs (zeros 32)) 27
  have t1 := (Turns.refl [] w).alloc (.cells (bvs (zeros 32)).toArray 27)
  generalize hzz : bvs (zeros 32) = zz at hz32 hzl b2 t1
  obtain ⟨w1, hw1⟩ : ∃ x, x = w.alloc (.cells zz.toArray 27) := ⟨_, rfl⟩
  rw [← hw1] at b2 t1
  have hs1 : w1.heap.size = w.heap.size + 1 := by rw [hw1]; simp
  have HS1 := Lib.hid hs1
  have HW1 := Lib.hid hw1
  have HZL := Lib.hid hzl
  have H0 := Lib.hid (And.intro b2 t1)
  clear hres hzz hw1 hzl b2 t1 hs1
  have HLEN := Lib.hid (show (twoH a b).length = 32 from sha_len _)
  have sa := ((ba.turns H0.out.2 (by simp)).bytes (by simp [maxLen, ha])).more (show w0.heap.size + 1 ≤ w1.heap.size by have := H0.out.2.size; omega)
  have sb := ((bb.turns H0.out.2 (by simp)).bytes (by simp [maxLen, hb])).more (show w0.heap.size + 1 + 1 ≤ w1.heap.size by have := H0.out.2.size; omega)
  obtain ⟨v2, w2, hr2, m2⟩ := mine_append (mine_lit w1 [1] (by simp [maxLen])) (sa.alloc (Nat.le_refl _) _) (by simp; omega) 22
  obtain ⟨v3, w3, hr3, m3⟩ := mine_append m2 (m2.turns.slice sb (Nat.le_refl _) (by simp)) (by simp; omega) 22
  obtain ⟨A2, c2, rfl, _⟩ := m2.len
  obtain ⟨A3, c3, rfl, _⟩ := m3.len
  have SU := refSum_any A3 _ c3 w3.heap.size ([1] ++ a ++ b) w3 m3.sl (Nat.le_refl _) (by simp; omega)
  rw [show ([(1 : UInt8)] ++ a ++ b).length = 65 by simp [ha, hb]] at SU
  have SH := Lib.hid SU
  have H2 := Lib.hid m3.turns
  have l33 : ([(1 : UInt8)] ++ a).length = 33 := by simp [ha]
  have l65 : ([(1 : UInt8)] ++ a ++ b).length = 65 := by simp [ha, hb]
  rw [show (bvs [1]).toArray = #[Value.int .u8 1] from rfl, show [(1 : UInt8)].length = 1 from rfl, l33, ha] at hr2
  rw [hb, l33, l65] at hr3
  have HAB := Lib.hid (And.intro ha hb)
  clear SU sa sb m2 m3 ha hb hw t0 hs0 ba bb l33 l65
  go_enter Try.func18, Try.ntmps18
  go_upto_region 1 with (first | (refine wpList_alloc_arr (o := ⟨some 4, _, _, _, _, _⟩) rfl 27 rfl zz.toArray hz32 ?_) | fail)
  try simp only [Act.put, List.setIfInBounds_toArray, List.set_cons_succ, List.set_cons_zero]
  rw [← HW0.out, ← HW1.out]
  go_wp2_with (first
    | (at_builtin; refine wpList_append_at rfl (.tmp 6) (.tmp 7) rfl hr2 rfl rfl ?_)
    | (at_builtin; refine wpList_append_at rfl (.tmp 9) (.tmp 10) rfl hr3 rfl rfl ?_)
    | fail)
  clear hr2 hr3
  refine SH.out.mono ?_
  rintro e w4 ⟨rfl, t4⟩
  rw [show bvs (sha ([1] ++ a ++ b)) = res from by rw [HRES.out]; rfl]
  have H3 := Lib.hid (H2.out.trans t4 (by simp))
  clear t4 SH
  have hrl : res.length = 32 := by rw [HRES.out, bvs_length]; exact HLEN.out
  have hr1 : ∀ u ∈ res, u.oneCell' = true := by rw [HRES.out]; exact bvs_one _
  have Q_b2 := Lib.hid (H0.out.1.turns H3.out (by simp))
  have Q_l := Lib.hid (show zz.length = res.length by rw [HZL.out, hrl])
  have Q_sz := Lib.hid (show (Try.prog.info? 27).map (·.size) = some res.length by rw [size_hash, hrl])
  have Q_1 := Lib.hid hr1
  clear hrl hr1
  go_wp2_with (first
    | (refine wpList_store_blk rfl 27 (.tmp 4) (.tmp 12) rfl w.heap.size (by kernel_rfl) res zz 27 (by kernel_rfl) Q_b2.out Q_l.out Q_sz.out Q_1.out (fun w9 hb9 ht9 hs9 => ?_); have HQ9 := Lib.hid (And.intro hb9 ht9); clear hb9 ht9 hs9)
    | fail)
  refine bodyPost_ret (results_cell_row rfl _ _ w.heap.size _ _ _ _ (by kernel_rfl) HQ9.out.1 Try.underlying27 rfl (by rw [List.size_toArray]; exact Q_sz.out)) rfl ?_
  exact ⟨rfl, ((HT0.out.trans H0.out.2 (by simp)).trans H3.out (by simp)).trans HQ9.out.2 (by simp; have := HS0.out; omega)⟩
end Go.Proofs.Ytnjnealphbcamaa
