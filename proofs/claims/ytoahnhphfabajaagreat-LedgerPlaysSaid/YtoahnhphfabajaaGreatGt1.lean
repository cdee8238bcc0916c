/- The document's digests, walked. -/
import Derived.Test.YtoahnhphfabajaaGreatGt0
import Derived.Test.YtoahnhphfabajaaGreatLdP
namespace Go.Proofs.YtoahnhphfabajaaGreat
open Go.RowKit
set_option linter.unusedVariables false
set_option maxRecDepth 10000
set_option linter.unusedSimpArgs false
set_option linter.unnecessarySimpa false

set_option maxRecDepth 100000 in
set_option maxHeartbeats 4000000 in
theorem RDigest_none (L : Led) (hne : L.blks = []) (ov bv tv : Value) (S : Nat → Prop) (w0 : World) (hd : LedR w0 S ov bv tv L) :
    Calls Tryz.prog 17 #[.agg #[.int .i64 L.next, ov, bv, tv]] w0 fun e w' => e = .returned (.tuple #[.agg (digCells 0 (zeros 32)).toArray, .int .i64 2]) ∧ Turns [] w0 w' := by
  have hnb := Lib.hid (show L.blks.length = 0 by rw [hne]; rfl)
  obtain ⟨Ao, co, rfl, _⟩ := hd.opn.form
  obtain ⟨Ab, cb, rfl, _⟩ := hd.blks.form'
  obtain ⟨At, ct, rfl, _⟩ := hd.txs.form
  obtain ⟨p, hp⟩ : ∃ p, p = w0.heap.size := ⟨_, rfl⟩
  obtain ⟨w, hw⟩ : ∃ x, x = w0.alloc (.cells #[.int .i64 L.next, .slice Ao L.opn.length co, .slice Ab L.blks.length cb, .slice At L.txs.length ct] 32) := ⟨_, rfl⟩
  have bc := Blk.new w0 [.int .i64 L.next, .slice Ao L.opn.length co, .slice Ab L.blks.length cb, .slice At L.txs.length ct] 32
  have t0 := (Turns.refl [] w0).alloc (.cells #[.int .i64 L.next, .slice Ao L.opn.length co, .slice Ab L.blks.length cb, .slice At L.txs.length ct] 32)
  have hs0 : w.heap.size = w0.heap.size + 1 := by rw [hw]; simp
  rw [show w0.alloc (.cells [.int .i64 L.next, .slice Ao L.opn.length co, .slice Ab L.blks.length cb, .slice At L.txs.length ct].toArray 32) = w from hw.symm, ← hp] at bc
  rw [← hw] at t0
  obtain ⟨q, hq⟩ : ∃ p, p = w.heap.size := ⟨_, rfl⟩
  obtain ⟨w1, hw1⟩ : ∃ x, x = w.alloc (.cells (digCells 0 (zeros 32)).toArray 55) := ⟨_, rfl⟩
  have bq := Blk.new w (digCells 0 (zeros 32)) 55
  have t1 := (Turns.refl [] w).alloc (.cells (digCells 0 (zeros 32)).toArray 55)
  have hs1 : w1.heap.size = w.heap.size + 1 := by rw [hw1]; simp
  rw [← hw1, ← hq] at bq
  rw [← hw1] at t1
  obtain ⟨nb, hnbl⟩ : ∃ n, n = L.blks.length := ⟨_, rfl⟩
  have bp1 := bc.turns t1 (by simp)
  have C2 := bp1.cell 2
  have R0 := bp1
  simp only [List.getElem?_cons_zero, List.getElem?_cons_succ] at C2
  rw [← hnbl] at C2
  have HC2 := Lib.hid C2
  have HNB := Lib.hid hnbl
  have HT0 := Lib.hid (t0.trans t1 (by simp))
  have HW0 := Lib.hid hw
  have HW1 := Lib.hid hw1
  have HP := Lib.hid (And.intro hp (show p + 1 = q by omega))
  have HB2 := Lib.hid bq
  have HQS := Lib.hid (show w0.heap.size ≤ q ∧ q < w1.heap.size ∧ p ≠ q by omega)
  have hzd := zero_dig
  clear bc t0 hw hw1 hp hq hs0 hs1 hd bq t1 bp1 hnbl
  clear hne
  have hni : ((nb : Int) == 0) = true := beq_iff_eq.2 (by have := hnb.out; have := HNB.out; omega)
  clear C2 R0
  have hz1 : ∀ u ∈ digCells 0 (zeros 32), u.oneCell' = true := by intro u hu; simp only [digCells, List.mem_cons] at hu; rcases hu with rfl | hu; rfl; exact bvs_one _ u hu
  have hsz := size_dig 0 (zeros 32) (zeros_length 32)
  have HZ1 := Lib.hid (And.intro hz1 hsz)
  clear hz1 hsz
  go_enter Tryz.func17, Tryz.ntmps17
  go_upto_region 1 with (first | (refine wpList_alloc_arr (o := ⟨some 2, _, _, _, _, _⟩) rfl 55 rfl (digCells 0 (zeros 32)).toArray hzd ?_) | fail)
  try simp only [Act.put, List.setIfInBounds_toArray, List.set_cons_succ, List.set_cons_zero]
  rw [← HNB.out] at HW0
  rw [← HNB.out]
  rw [← HW0.out, ← HW1.out, ← HP.out.1, HP.out.2]
  have c2 := HC2.out
  go_wp2_with (first
    | (refine wpList_store_blk rfl 55 (.tmp 2) (.tmp 9) rfl q (by kernel_rfl) (digCells 0 (zeros 32)) (digCells 0 (zeros 32)) 55 (by kernel_rfl) HB2.out rfl HZ1.out.2 HZ1.out.1 (fun w9 hb9 ht9 hs9 => ?_); have HQ9 := Lib.hid (And.intro hb9 ht9); clear hb9 ht9 hs9)
    | fail)
  refine bodyPost_ret (results_two rfl _ _ q _ _ _ (.int .i64 2) (by kernel_rfl) (by kernel_rfl) HQ9.out.1 Tryz.underlying55 rfl (by rw [List.size_toArray]; exact HZ1.out.2)) rfl ?_
  exact ⟨rfl, HT0.out.trans HQ9.out.2 (by intro x hx; simp at hx; exact .inr (by have := HQS.out; omega))⟩

set_option maxRecDepth 100000 in
set_option maxHeartbeats 4000000 in
theorem RDigest_some (L : Led) (hL : L.ok) (hne : 0 < L.blks.length) (ov bv tv : Value) (S : Nat → Prop) (w0 : World) (hd : LedR w0 S ov bv tv L) :
    Calls Tryz.prog 17 #[.agg #[.int .i64 L.next, ov, bv, tv]] w0 fun e w' => e = .returned (.tuple #[.agg (digCells (L.blks[L.blks.length - 1]'(by omega)).n (bloH (L.blks[L.blks.length - 1]'(by omega)))).toArray, .int .i64 0]) ∧ Turns [] w0 w' := by
  have hck := hL.blo _ (List.getElem_mem (show L.blks.length - 1 < L.blks.length by omega))
  obtain ⟨b, off, c9, hvb, _, hb, rg0⟩ := blo_at hd.blks hL.blo (L.blks.length - 1) (by omega)
  obtain ⟨Ao, co, rfl, _⟩ := hd.opn.form
  obtain ⟨Ab, cb, rfl, _⟩ := hd.blks.form'
  obtain ⟨At, ct, rfl, _⟩ := hd.txs.form
  obtain ⟨p, hp⟩ : ∃ p, p = w0.heap.size := ⟨_, rfl⟩
  obtain ⟨w, hw⟩ : ∃ x, x = w0.alloc (.cells #[.int .i64 L.next, .slice Ao L.opn.length co, .slice Ab L.blks.length cb, .slice At L.txs.length ct] 32) := ⟨_, rfl⟩
  have bc := Blk.new w0 [.int .i64 L.next, .slice Ao L.opn.length co, .slice Ab L.blks.length cb, .slice At L.txs.length ct] 32
  have t0 := (Turns.refl [] w0).alloc (.cells #[.int .i64 L.next, .slice Ao L.opn.length co, .slice Ab L.blks.length cb, .slice At L.txs.length ct] 32)
  have hs0 : w.heap.size = w0.heap.size + 1 := by rw [hw]; simp
  rw [show w0.alloc (.cells [.int .i64 L.next, .slice Ao L.opn.length co, .slice Ab L.blks.length cb, .slice At L.txs.length ct].toArray 32) = w from hw.symm, ← hp] at bc
  rw [← hw] at t0
  obtain ⟨q, hq⟩ : ∃ p, p = w.heap.size := ⟨_, rfl⟩
  obtain ⟨w1, hw1⟩ : ∃ x, x = w.alloc (.cells (digCells 0 (zeros 32)).toArray 55) := ⟨_, rfl⟩
  have bq := Blk.new w (digCells 0 (zeros 32)) 55
  have t1 := (Turns.refl [] w).alloc (.cells (digCells 0 (zeros 32)).toArray 55)
  have hs1 : w1.heap.size = w.heap.size + 1 := by rw [hw1]; simp
  rw [← hw1, ← hq] at bq
  rw [← hw1] at t1
  obtain ⟨nb, hnbl⟩ : ∃ n, n = L.blks.length := ⟨_, rfl⟩
  have bp1 := bc.turns t1 (by simp)
  have C2 := bp1.cell 2
  have R0 := bp1
  simp only [List.getElem?_cons_zero, List.getElem?_cons_succ] at C2
  rw [← hnbl] at C2
  have HC2 := Lib.hid C2
  have HNB := Lib.hid hnbl
  have HT0 := Lib.hid (t0.trans t1 (by simp))
  have HW0 := Lib.hid hw
  have HW1 := Lib.hid hw1
  have HP := Lib.hid (And.intro hp (show p + 1 = q by omega))
  have HB2 := Lib.hid bq
  have HQS := Lib.hid (show w0.heap.size ≤ q ∧ q < w1.heap.size ∧ p ≠ q by omega)
  have hzd := zero_dig
  clear bc t0 hw hw1 hp hq hs0 hs1 hd bq t1 bp1 hnbl
  injection hvb with e1 e2 e3
  subst e1 e3
  clear e2
  obtain ⟨bl, hbl⟩ : ∃ x, x = L.blks[L.blks.length - 1]'(by omega) := ⟨_, rfl⟩
  rw [← hbl] at rg0 hck
  rw [← hbl]
  have hnp : 0 < nb := by have := HNB.out; omega
  have hni : ((nb : Int) == 0) = false := beq_eq_false_iff_ne.2 (by omega)
  have hnb1 : nb ≤ 100000 := by have := HNB.out; have := hL.blks; omega
  rw [← HNB.out] at rg0
  have hw1 : IntKind.i64.wrap ((nb : Int) - 1) = ((nb - 1 : Nat) : Int) := by rw [IntWalk.i64_in _ (by omega)]; omega
  have hk1 : ((nb - 1 : Nat) : Int) < (nb : Int) := by omega
  obtain ⟨cs, hcs⟩ : ∃ x, x = bl.cells := ⟨_, rfl⟩
  rw [← hcs] at rg0
  have RG := rangeV HT0.out rg0
  have hcl : cs.length = 66 := by rw [hcs]; exact Blo.cells_len hck
  have hzs := size_rblo cs hcl
  have hzr := zero_rblo
  have HB5 := Lib.hid (And.intro (Blk.new w1 blo0.cells 75) (And.intro ((Turns.refl [] w1).alloc (.cells blo0.cells.toArray 75)) (And.intro (show blo0.cells.length = cs.length by rw [hcl, Blo.cells_len blo0_ok]) (show ∀ u ∈ cs, u.oneCell' = true by rw [hcs]; exact Blo.cells_one _))))
  have HC0 := Lib.hid (show cs[0]? = some (.int .i64 bl.n) by rw [hcs]; rfl)
  have HCH := Lib.hid (show ∀ W, Calls Tryz.prog 36 #[.agg cs.toArray] W _ from fun W => hcs ▸ RHash_any bl hck W)
  have hdg := size_dig bl.n (bloH bl) (bloH_len bl)
  have HBD := Lib.hid (built_dig bl.n (bloH bl) (bloH_len bl))
  have hzl : (digCells 0 (zeros 32)).length = (digCells bl.n (bloH bl)).length := by simp [digCells, bvs_length, zeros_length, bloH_len]
  have HZL := Lib.hid hzl
  have hd1 : ∀ u ∈ digCells bl.n (bloH bl), u.oneCell' = true := by intro u hu; simp only [digCells, List.mem_cons] at hu; rcases hu with rfl | hu; rfl; exact bvs_one _ u hu
  have HD1 := Lib.hid (And.intro hd1 hdg)
  clear hck hL hne hbl hnp hcs rg0 hb hzl hd1 hdg hcl R0
  go_enter Tryz.func17, Tryz.ntmps17
  go_upto_region 1 with (first | (refine wpList_alloc_arr (o := ⟨some 2, _, _, _, _, _⟩) rfl 55 rfl (digCells 0 (zeros 32)).toArray hzd ?_) | fail)
  try simp only [Act.put, List.setIfInBounds_toArray, List.set_cons_succ, List.set_cons_zero]
  rw [← HNB.out] at HW0
  rw [← HNB.out]
  rw [← HW0.out, ← HW1.out, ← HP.out.1, HP.out.2]
  have c2 := HC2.out
  go_upto_region 4 with (first
    | (refine wpList_load_mid rfl 75 (.tmp 16) rfl b (off + (nb - 1) * 66) (by kernel_rfl) cs _ RG Tryz.underlying75 rfl hzs ?_)
    | (refine wpList_alloc_arr (o := ⟨some 4, _, _, _, _, _⟩) rfl 75 rfl blo0.cells.toArray hzr ?_)
    | (refine wpList_store_blk rfl 75 (.tmp 4) (.tmp 17) rfl w1.heap.size (by kernel_rfl) cs blo0.cells 75 (by kernel_rfl) HB5.out.1 HB5.out.2.2.1 hzs HB5.out.2.2.2 (fun y1 hb1 ht1 hs1 => ?_); have HQ := Lib.hid (And.intro hb1 ht1); clear hb1 ht1 hs1)
    | fail)
  try simp only [Act.put, List.setIfInBounds_toArray, List.set_cons_succ, List.set_cons_zero]
  obtain ⟨p5, hp5⟩ : ∃ x, x = w1.heap.size := ⟨_, rfl⟩
  rw [← hp5] at HQ ⊢
  have ty : Turns [] w1 y1 := HB5.out.2.1.trans HQ.out.2 (by intro x hx; simp at hx; exact .inr (by omega))
  obtain ⟨Y, hY⟩ : ∃ x, x = y1.drew := ⟨_, rfl⟩
  have tY : Turns [] y1 Y := by rw [hY]; exact (Turns.refl _ _).drew
  have HYY := Lib.hid hY
  have b5 := HQ.out.1.turns tY (by simp)
  have CB0 : Y.cell? ⟨p5, 0, none⟩ = some (.int .i64 bl.n) := (b5.cell 0).trans HC0.out
  have R5 := b5.all
  have HTY := Lib.hid (ty.trans tY (by simp))
  have S0 : Turns [] Y Y := Turns.refl _ _
  clear hY tY ty b5 RG hp5 C2 c2
  refine rk0 (fun _ => True) (fun W => Turns [] Y W) 5 7 ?_
  rw [← HYY.out]
  refine rkA 0 18 1 (v := ?_) ?_ (.mk' trivial S0) ?_
  rotate_left
  · intro W hS; go_simp; all_goals with_reducible rfl
  try simp only [sI, sS, sZ]
  refine rkT 1 19 3 (v := ?_) ?_ (.mk' trivial S0) ?_
  rotate_left
  · rintro W ⟨-, hS⟩; have c0 := cellL hS CB0 (by simp); go_simp; all_goals with_reducible rfl
  try simp only [sI, sS, sZ]
  refine rkW 2 20 7 rfl (yieldsIf_load_mid (by rfl) _ _ rfl p5 0 (by kernel_rfl) cs _ (fun W hS => rangeV hS.2 R5) Tryz.underlying75 rfl hzs) (.mk' trivial S0) ?_
  try simp only [sI, sS, sZ]
  refine rk1 3 15 (fun K hK => ?_)
  go_simp
  refine (HCH.out Y).mono ?_
  rintro e X24 ⟨rfl, D24⟩
  refine hK _ _ (.mk' trivial D24) ?_
  clear hK K
  try simp only [sI, sS, sZ]
  refine rkY 4 22 31 rfl (yieldsIf_build (by rfl) 55 _ (by rfl) (digCells bl.n (bloH bl)).toArray (by have h := HBD.out; simpa [Act.eval] using h)) (.mk' trivial D24) ?_
  try simp only [sI, sS, sZ]
  refine rk1 5 63 (fun K hK => ?_)
  refine wp_store_blk 55 _ _ (by rfl) q (by rfl) (digCells bl.n (bloH bl)) (digCells 0 (zeros 32)) 55 (by rfl) ((HB2.out.turns HTY.out (by simp)).turns D24 (by simp)) HZL.out HD1.out.2 HD1.out.1 (fun X25 hb25 ht25 => ?_)
  have HQ9 := Lib.hid (And.intro hb25 (And.intro D24 ht25))
  refine hK _ _ (.p trivial) ?_
  clear hK K
  try simp only [sI, sS, sZ]
  refine rk1 6 127 (fun K hK => ?_)
  go_simp
  refine hK _ _ (.p trivial) ?_
  clear hK K
  try simp only [sI, sS, sZ]
  refine rkZ ?_
  go_wp2_with fail
  refine bodyPost_ret (results_two rfl _ _ q _ _ _ (.int .i64 0) (by kernel_rfl) (by kernel_rfl) HQ9.out.1 Tryz.underlying55 rfl (by rw [List.size_toArray]; exact HD1.out.2)) rfl ?_
  exact ⟨rfl, ((HT0.out.trans HTY.out (by simp)).trans HQ9.out.2.1 (by simp)).trans HQ9.out.2.2 (by intro x hx; simp at hx; exact .inr (by have := HQS.out; omega))⟩
end Go.Proofs.YtoahnhphfabajaaGreat
