/- Digests, walked; the chapter's example. -/
import Derived.Test.YtoahnhphfabajaaGreatLdO
namespace Go.Proofs.YtoahnhphfabajaaGreat
open Go.RowKit
set_option linter.unusedVariables false
set_option maxRecDepth 10000
set_option linter.unusedSimpArgs false
set_option linter.unnecessarySimpa false

set_option maxRecDepth 100000 in
set_option maxHeartbeats 4000000 in
theorem Digest_none (L : Led) (hne : L.blks = []) (ov bv tv : Value) (S : Nat → Prop) (w0 : World) (hd : LedR w0 S ov bv tv L) :
    Calls Tryz.prog 16 #[.agg #[.int .i64 L.next, ov, bv, tv]] w0 fun e w' => e = .returned (.tuple #[.agg (digCells 0 (zeros 32)).toArray, .int .i64 2]) ∧ Turns [] w0 w' := by
  have hnb := Lib.hid (show L.blks.length = 0 by rw [hne]; rfl)
  obtain ⟨Ao, co, rfl, _⟩ := hd.opn.form
  obtain ⟨Ab, cb, rfl, _⟩ := hd.blks.form'
  obtain ⟨At, ct, rfl, _⟩ := hd.txs.form
  obtain ⟨p, hp⟩ : ∃ p, p = w0.heap.size := ⟨_, rfl⟩
  obtain ⟨w, hw⟩ : ∃ x, x = w0.alloc (.cells #[.int .i64 L.next, .slice Ao L.opn.length co, .slice Ab L.blks.length cb, .slice At L.txs.length ct] 29) := ⟨_, rfl⟩
  have bc := Blk.new w0 [.int .i64 L.next, .slice Ao L.opn.length co, .slice Ab L.blks.length cb, .slice At L.txs.length ct] 29
  have t0 := (Turns.refl [] w0).alloc (.cells #[.int .i64 L.next, .slice Ao L.opn.length co, .slice Ab L.blks.length cb, .slice At L.txs.length ct] 29)
  have hs0 : w.heap.size = w0.heap.size + 1 := by rw [hw]; simp
  rw [show w0.alloc (.cells [.int .i64 L.next, .slice Ao L.opn.length co, .slice Ab L.blks.length cb, .slice At L.txs.length ct].toArray 29) = w from hw.symm, ← hp] at bc
  rw [← hw] at t0
  obtain ⟨q, hq⟩ : ∃ p, p = w.heap.size := ⟨_, rfl⟩
  obtain ⟨w1, hw1⟩ : ∃ x, x = w.alloc (.cells (digCells 0 (zeros 32)).toArray 55) := ⟨_, rfl⟩
  have bq := Blk.new w (digCells 0 (zeros 32)) 55
  have t1 := (Turns.refl [] w).alloc (.cells (digCells 0 (zeros 32)).toArray 55)
  have hs1 : w1.heap.size = w.heap.size + 1 := by rw [hw1]; simp
  rw [← hw1, ← hq] at bq
  rw [← hw1] at t1
  obtain ⟨nb, hnbl⟩ : ∃ n, n = L.blks.length := ⟨_, rfl⟩
  have bp1 := bc.turns t1 (by simp)
  have C2 := bp1.cell 2
  have R0 := bp1
  simp only [List.getElem?_cons_zero, List.getElem?_cons_succ] at C2
  rw [← hnbl] at C2
  have HC2 := Lib.hid C2
  have HNB := Lib.hid hnbl
  have HT0 := Lib.hid (t0.trans t1 (by simp))
  have HW0 := Lib.hid hw
  have HW1 := Lib.hid hw1
  have HP := Lib.hid (And.intro hp (show p + 1 = q by omega))
  have HB2 := Lib.hid bq
  have HQS := Lib.hid (show w0.heap.size ≤ q ∧ q < w1.heap.size ∧ p ≠ q by omega)
  have hzd := zero_dig
  clear bc t0 hw hw1 hp hq hs0 hs1 hd bq t1 bp1 hnbl
  clear hne
  have hni : ((nb : Int) == 0) = true := beq_iff_eq.2 (by have := hnb.out; have := HNB.out; omega)
  clear C2 R0
  have hz1 : ∀ u ∈ digCells 0 (zeros 32), u.oneCell' = true := by intro u hu; simp only [digCells, List.mem_cons] at hu; rcases hu with rfl | hu; rfl; exact bvs_one _ u hu
  have hsz := size_dig 0 (zeros 32) (zeros_length 32)
  have HZ1 := Lib.hid (And.intro hz1 hsz)
  clear hz1 hsz
  go_enter Tryz.func16, Tryz.ntmps16
  go_upto_region 1 with (first | (refine wpList_alloc_arr (o := ⟨some 2, _, _, _, _, _⟩) rfl 55 rfl (digCells 0 (zeros 32)).toArray hzd ?_) | fail)
  try simp only [Act.put, List.setIfInBounds_toArray, List.set_cons_succ, List.set_cons_zero]
  rw [← HNB.out] at HW0
  rw [← HNB.out]
  rw [← HW0.out, ← HW1.out, ← HP.out.1, HP.out.2]
  have c2 := HC2.out
  go_wp2_with (first
    | (refine wpList_store_blk rfl 55 (.tmp 2) (.tmp 10) rfl q (by kernel_rfl) (digCells 0 (zeros 32)) (digCells 0 (zeros 32)) 55 (by kernel_rfl) HB2.out rfl HZ1.out.2 HZ1.out.1 (fun w9 hb9 ht9 hs9 => ?_); have HQ9 := Lib.hid (And.intro hb9 ht9); clear hb9 ht9 hs9)
    | fail)
  refine bodyPost_ret (results_two rfl _ _ q _ _ _ (.int .i64 2) (by kernel_rfl) (by kernel_rfl) HQ9.out.1 Tryz.underlying55 rfl (by rw [List.size_toArray]; exact HZ1.out.2)) rfl ?_
  exact ⟨rfl, HT0.out.trans HQ9.out.2 (by intro x hx; simp at hx; exact .inr (by have := HQS.out; omega))⟩

set_option maxRecDepth 100000 in
set_option maxHeartbeats 4000000 in
theorem Digest_some (L : Led) (hL : L.ok) (hne : 0 < L.blks.length) (ov bv tv : Value) (S : Nat → Prop) (w0 : World) (hd : LedR w0 S ov bv tv L) :
    Calls Tryz.prog 16 #[.agg #[.int .i64 L.next, ov, bv, tv]] w0 fun e w' => e = .returned (.tuple #[.agg (digCells (L.blks[L.blks.length - 1]'(by omega)).n (bloH (L.blks[L.blks.length - 1]'(by omega)))).toArray, .int .i64 0]) ∧ Turns [] w0 w' := by
  have hck := hL.blo _ (List.getElem_mem (show L.blks.length - 1 < L.blks.length by omega))
  obtain ⟨b, off, c9, hvb, _, hb, rg0⟩ := blo_at hd.blks hL.blo (L.blks.length - 1) (by omega)
  obtain ⟨Ao, co, rfl, _⟩ := hd.opn.form
  obtain ⟨Ab, cb, rfl, _⟩ := hd.blks.form'
  obtain ⟨At, ct, rfl, _⟩ := hd.txs.form
  obtain ⟨p, hp⟩ : ∃ p, p = w0.heap.size := ⟨_, rfl⟩
  obtain ⟨w, hw⟩ : ∃ x, x = w0.alloc (.cells #[.int .i64 L.next, .slice Ao L.opn.length co, .slice Ab L.blks.length cb, .slice At L.txs.length ct] 29) := ⟨_, rfl⟩
  have bc := Blk.new w0 [.int .i64 L.next, .slice Ao L.opn.length co, .slice Ab L.blks.length cb, .slice At L.txs.length ct] 29
  have t0 := (Turns.refl [] w0).alloc (.cells #[.int .i64 L.next, .slice Ao L.opn.length co, .slice Ab L.blks.length cb, .slice At L.txs.length ct] 29)
  have hs0 : w.heap.size = w0.heap.size + 1 := by rw [hw]; simp
  rw [show w0.alloc (.cells [.int .i64 L.next, .slice Ao L.opn.length co, .slice Ab L.blks.length cb, .slice At L.txs.length ct].toArray 29) = w from hw.symm, ← hp] at bc
  rw [← hw] at t0
  obtain ⟨q, hq⟩ : ∃ p, p = w.heap.size := ⟨_, rfl⟩
  obtain ⟨w1, hw1⟩ : ∃ x, x = w.alloc (.cells (digCells 0 (zeros 32)).toArray 55) := ⟨_, rfl⟩
  have bq := Blk.new w (digCells 0 (zeros 32)) 55
  have t1 := (Turns.refl [] w).alloc (.cells (digCells 0 (zeros 32)).toArray 55)
  have hs1 : w1.heap.size = w.heap.size + 1 := by rw [hw1]; simp
  rw [← hw1, ← hq] at bq
  rw [← hw1] at t1
  obtain ⟨nb, hnbl⟩ : ∃ n, n = L.blks.length := ⟨_, rfl⟩
  have bp1 := bc.turns t1 (by simp)
  have C2 := bp1.cell 2
  have R0 := bp1
  simp only [List.getElem?_cons_zero, List.getElem?_cons_succ] at C2
  rw [← hnbl] at C2
  have HC2 := Lib.hid C2
  have HNB := Lib.hid hnbl
  have HT0 := Lib.hid (t0.trans t1 (by simp))
  have HW0 := Lib.hid hw
  have HW1 := Lib.hid hw1
  have HP := Lib.hid (And.intro hp (show p + 1 = q by omega))
  have HB2 := Lib.hid bq
  have HQS := Lib.hid (show w0.heap.size ≤ q ∧ q < w1.heap.size ∧ p ≠ q by omega)
  have hzd := zero_dig
  clear bc t0 hw hw1 hp hq hs0 hs1 hd bq t1 bp1 hnbl
  injection hvb with e1 e2 e3
  subst e1 e3
  clear e2
  obtain ⟨bl, hbl⟩ : ∃ x, x = L.blks[L.blks.length - 1]'(by omega) := ⟨_, rfl⟩
  rw [← hbl] at rg0 hck
  rw [← hbl]
  have hnp : 0 < nb := by have := HNB.out; omega
  have hni : ((nb : Int) == 0) = false := beq_eq_false_iff_ne.2 (by omega)
  have hnb1 : nb ≤ 100000 := by have := HNB.out; have := hL.blks; omega
  rw [← HNB.out] at rg0
  have hw1 : IntKind.i64.wrap ((nb : Int) - 1) = ((nb - 1 : Nat) : Int) := by rw [IntWalk.i64_in _ (by omega)]; omega
  have hk1 : ((nb - 1 : Nat) : Int) < (nb : Int) := by omega
  obtain ⟨Y, hY⟩ : ∃ x, x = w1.drew := ⟨_, rfl⟩
  have tY : Turns [] w1 Y := by rw [hY]; exact (Turns.refl _ _).drew
  have HYY := Lib.hid hY
  have tw := HT0.out.trans tY (by simp)
  have C2 := cellV tY C2
  obtain ⟨cs, hcs⟩ : ∃ x, x = bl.cells := ⟨_, rfl⟩
  rw [← hcs] at rg0
  have RG := rangeV tw rg0
  have CB0 : Y.cell? ⟨b, off + (nb - 1) * 66, none⟩ = some (.int .i64 bl.n) := by
    have := RG 0 (.int .i64 bl.n) (by rw [hcs]; rfl)
    simpa using this
  have hzs := size_blo cs (by rw [hcs]; exact Blo.cells_len hck)
  have HCH := Lib.hid (show Calls Tryz.prog 29 #[.agg cs.toArray] Y _ from hcs ▸ CHash_any bl hck Y)
  have hdg := size_dig bl.n (bloH bl) (bloH_len bl)
  have HBD := Lib.hid (built_dig bl.n (bloH bl) (bloH_len bl))
  have hzl : (digCells 0 (zeros 32)).length = (digCells bl.n (bloH bl)).length := by simp [digCells, bvs_length, zeros_length, bloH_len]
  have HZL := Lib.hid hzl
  have hd1 : ∀ u ∈ digCells bl.n (bloH bl), u.oneCell' = true := by intro u hu; simp only [digCells, List.mem_cons] at hu; rcases hu with rfl | hu; rfl; exact bvs_one _ u hu
  have HD1 := Lib.hid (And.intro hd1 hdg)
  have HTY := Lib.hid tY
  have S0 : Turns [] Y Y := Turns.refl _ _
  clear hck hL hne hbl hnp hY tY tw hcs rg0 hb hzl hd1 hdg
  go_enter Tryz.func16, Tryz.ntmps16
  go_upto_region 1 with (first | (refine wpList_alloc_arr (o := ⟨some 2, _, _, _, _, _⟩) rfl 55 rfl (digCells 0 (zeros 32)).toArray hzd ?_) | fail)
  try simp only [Act.put, List.setIfInBounds_toArray, List.set_cons_succ, List.set_cons_zero]
  rw [← HNB.out] at HW0
  rw [← HNB.out]
  rw [← HW0.out, ← HW1.out, ← HP.out.1, HP.out.2]
  have c2 := HC2.out
  go_upto_region 4 with fail
  refine rk0 (fun _ => True) (fun W => Turns [] Y W) 15 17 ?_
  rw [← HYY.out]
  refine rkA 0 11 1 (v := ?_) ?_ (.mk' trivial S0) ?_
  rotate_left
  · intro W hS; go_simp; all_goals with_reducible rfl
  try simp only [sI, sS, sZ]
  refine rkT 1 12 3 (v := ?_) ?_ (.mk' trivial S0) ?_
  rotate_left
  · rintro W ⟨-, hS⟩; have c0 := cellL hS C2 (by simp); go_simp; all_goals with_reducible rfl
  try simp only [sI, sS, sZ]
  refine rkA 2 13 7 (v := ?_) ?_ (.mk' trivial S0) ?_
  rotate_left
  · intro W hS; go_simp; all_goals with_reducible rfl
  try simp only [sI, sS, sZ]
  refine rkA 3 14 15 (v := ?_) ?_ (.mk' trivial S0) ?_
  rotate_left
  · intro W hS; go_simp; all_goals with_reducible rfl
  try simp only [sI, sS, sZ]
  refine rkA 4 15 31 (v := ?_) ?_ (.mk' trivial S0) ?_
  rotate_left
  · intro W hS; go_simp; all_goals with_reducible rfl
  try simp only [sI, sS, sZ]
  refine rkA 5 16 63 (v := ?_) ?_ (.mk' trivial S0) ?_
  rotate_left
  · intro W hS; go_simp; all_goals with_reducible rfl
  try simp only [sI, sS, sZ]
  refine rkT 6 17 127 (v := ?_) ?_ (.mk' trivial S0) ?_
  rotate_left
  · rintro W ⟨-, hS⟩; have c0 := cellL hS CB0 (by simp); go_simp; all_goals with_reducible rfl
  try simp only [sI, sS, sZ]
  refine rkA 7 18 255 (v := ?_) ?_ (.mk' trivial S0) ?_
  rotate_left
  · intro W hS; go_simp; all_goals with_reducible rfl
  try simp only [sI, sS, sZ]
  refine rkT 8 19 511 (v := ?_) ?_ (.mk' trivial S0) ?_
  rotate_left
  · rintro W ⟨-, hS⟩; have c0 := cellL hS C2 (by simp); go_simp; all_goals with_reducible rfl
  try simp only [sI, sS, sZ]
  refine rkA 9 20 1023 (v := ?_) ?_ (.mk' trivial S0) ?_
  rotate_left
  · intro W hS; go_simp; all_goals with_reducible rfl
  try simp only [sI, sS, sZ]
  refine rkA 10 21 2047 (v := ?_) ?_ (.mk' trivial S0) ?_
  rotate_left
  · intro W hS; go_simp; all_goals with_reducible rfl
  try simp only [sI, sS, sZ]
  refine rkA 11 22 4095 (v := ?_) ?_ (.mk' trivial S0) ?_
  rotate_left
  · intro W hS; go_simp; all_goals with_reducible rfl
  try simp only [sI, sS, sZ]
  refine rkW 12 23 8191 rfl (yieldsIf_load_mid (by rfl) _ _ rfl b (off + (nb - 1) * 66) (by kernel_rfl) cs _ (fun W hS => rangeV hS.2 RG) Tryz.underlying70 rfl hzs) (.mk' trivial S0) ?_
  try simp only [sI, sS, sZ]
  refine rk1 13 16383 (fun K hK => ?_)
  go_simp
  refine HCH.out.mono ?_
  rintro e X24 ⟨rfl, D24⟩
  refine hK _ _ (.mk' trivial D24) ?_
  clear hK K
  try simp only [sI, sS, sZ]
  refine rkY 14 25 32767 rfl (yieldsIf_build (by rfl) 55 _ (by rfl) (digCells bl.n (bloH bl)).toArray (by have h := HBD.out; simpa [Act.eval] using h)) (.mk' trivial D24) ?_
  try simp only [sI, sS, sZ]
  refine rk1 15 65535 (fun K hK => ?_)
  refine wp_store_blk 55 _ _ (by rfl) q (by rfl) (digCells bl.n (bloH bl)) (digCells 0 (zeros 32)) 55 (by rfl) ((HB2.out.turns HTY.out (by simp)).turns D24 (by simp)) HZL.out HD1.out.2 HD1.out.1 (fun X25 hb25 ht25 => ?_)
  have HQ9 := Lib.hid (And.intro hb25 (And.intro D24 ht25))
  refine hK _ _ (.p trivial) ?_
  clear hK K
  try simp only [sI, sS, sZ]
  refine rk1 16 131071 (fun K hK => ?_)
  go_simp
  refine hK _ _ (.p trivial) ?_
  clear hK K
  try simp only [sI, sS, sZ]
  refine rkZ ?_
  go_wp2_with fail
  refine bodyPost_ret (results_two rfl _ _ q _ _ _ (.int .i64 0) (by kernel_rfl) (by kernel_rfl) HQ9.out.1 Tryz.underlying55 rfl (by rw [List.size_toArray]; exact HD1.out.2)) rfl ?_
  exact ⟨rfl, ((HT0.out.trans HTY.out (by simp)).trans HQ9.out.2.1 (by simp)).trans HQ9.out.2.2 (by intro x hx; simp at hx; exact .inr (by have := HQS.out; omega))⟩

/-- The example's ledgers. -/
def knC : Chg := ⟨⟨#[120]⟩, 1, []⟩
def knL : Nat → Led
  | 0 => led0
  | k + 1 => addLed (knL k) [knC]
theorem knC_ok : knC.ok := ⟨by show (1 : Nat) ≤ 1000; omega, ⟨by show (-9223372036854775808 : Int) ≤ 1; omega, by show (1 : Int) ≤ _; omega⟩, by show (0 : Nat) ≤ 100; omega, by intro v hv; cases hv⟩
theorem knL_small : ∀ k, k ≤ 3 → (knL k).next = k ∧ (knL k).opn.length = k ∧ (knL k).blks = [] ∧ (knL k).txs = []
  | 0, _ => ⟨rfl, rfl, rfl, rfl⟩
  | 1, _ => ⟨rfl, rfl, rfl, rfl⟩
  | 2, _ => ⟨rfl, rfl, rfl, rfl⟩
  | 3, _ => ⟨rfl, rfl, rfl, rfl⟩
  | k + 4, h => by omega
theorem kn4 : (knL 4).opn = [] ∧ ∃ o, (knL 4).blks = [newBlo [] o] := ⟨rfl, _, rfl⟩
theorem chg1_ok : ([knC] : List Chg).length ≤ 1000 ∧ ∀ x ∈ [knC], x.ok := ⟨by simp, by intro x hx; simp at hx; subst hx; exact knC_ok⟩
theorem knL_ok : ∀ k, k ≤ 4 → (knL k).ok
  | 0, _ => led0_ok
  | k + 1, h => by
    obtain ⟨h1, h2, h3, h4⟩ := knL_small k (by omega)
    exact addLed_ok (knL_ok k (by omega)) chg1_ok (by rw [h1]; omega) (by rw [h2]; omega) ⟨by rw [h3]; simp, by rw [h4]; simp⟩
def KnR (w wr : World) (p : Nat) (k : Nat) : Prop := ∃ ov bv tv, Blk wr p [.int .i64 (knL k).next, ov, bv, tv] 29 ∧ LedR wr (fun b => p < b) ov bv tv (knL k) ∧ Turns [] w wr
/-- A literal change that lies there. -/
theorem deep_lit1 (w : World) (c : Chg) (hr : c.row = []) : Deep ChgR (w.alloc (.cells #[.string c.table, .int .i64 c.op, .slice none 0 0] 67)) (fun _ => True) 3 (.slice (some ⟨w.heap.size, 0, none⟩) 1 1) [c] :=
  Deep.mk' (css := [[.string c.table, .int .i64 c.op, .slice none 0 0]]) rfl (by intro x hx; simp at hx; subst hx; rfl) (fun i hi hi' => by
    obtain rfl : i = 0 := by simp at hi; omega
    exact ⟨_, rfl, by rw [show ([c][0]).row = [] from hr]; exact SlS.nil⟩)
    ((Sl.new w #[.string c.table, .int .i64 c.op, .slice none 0 0] 67 1 3 rfl (by simp [maxLen])).slS (fun _ _ _ => trivial))

set_option maxRecDepth 100000 in
set_option maxHeartbeats 4000000 in
theorem known14_any (w : World) : Calls Tryz.prog 6 #[] w fun e w' => e = .returned (.bool true) ∧ Turns [] w w' := by
  obtain ⟨p, hp⟩ : ∃ x, x = w.heap.size := ⟨_, rfl⟩
  obtain ⟨x1, hx1⟩ : ∃ x, x = w.alloc (.cells #[.int .i64 0, .slice none 0 0, .slice none 0 0, .slice none 0 0] 29) := ⟨_, rfl⟩
  have b1 := Blk.new w [.int .i64 0, .slice none 0 0, .slice none 0 0, .slice none 0 0] 29
  rw [show w.alloc (.cells [.int .i64 0, .slice none 0 0, .slice none 0 0, .slice none 0 0].toArray 29) = x1 from hx1.symm, ← hp] at b1
  have t1 : Turns [] w x1 := by rw [hx1]; exact (Turns.refl _ _).alloc _
  have HK0 := Lib.hid (show KnR w x1 p 0 from ⟨_, _, _, b1, LedR.zero, t1⟩)
  have HX1 := Lib.hid hx1
  have HP := Lib.hid hp
  clear b1 t1 hx1 hp
  go_enter Tryz.func6, Tryz.ntmps6
  go_upto_region 2 with fail
  rw [← HX1.out, ← HP.out]
  go_wp2_with fail
  go_loopw [2] (fun i wr => ∃ k : Nat, k ≤ 4 ∧ i = .int .i64 k ∧ KnR w wr p k) (fun i _ => 4 - (intOf i).toNat)
  case atStart => exact ⟨0, by omega, rfl, HK0.out⟩
  case round =>
    obtain ⟨k, hk, rfl, ov, bv, tv, bk, lk, tk⟩ := hrel
    obtain ⟨A1, c1, rfl, _⟩ := lk.opn.form
    obtain ⟨A2, c2, rfl, _⟩ := lk.blks.form'
    obtain ⟨A3, c3, rfl, _⟩ := lk.txs.form
    have r1 := bk.all
    have hz1 := size_led (.int .i64 (knL k).next) (.slice A1 (knL k).opn.length c1) (.slice A2 (knL k).blks.length c2) (.slice A3 (knL k).txs.length c3)
    by_cases hlt : k < 4
    · have hki : (k : Int) < 4 := by omega
      obtain ⟨h1, h2, h3, h4⟩ := knL_small k (by omega)
      obtain ⟨X5, hX5⟩ : ∃ x, x = wr.alloc (.cells #[.string ⟨#[120]⟩, .int .i64 1, .slice none 0 0] 67) := ⟨_, rfl⟩
      have d5 := deep_lit1 wr knC rfl
      rw [show wr.alloc (.cells #[.string knC.table, .int .i64 knC.op, .slice none 0 0] 67) = X5 from hX5.symm] at d5
      have t5 : Turns [] wr X5 := by rw [hX5]; exact (Turns.refl _ _).alloc _
      have AD := Lib.hid (Add_any (knL k) (knL_ok k (by omega)) (by rw [h1, h2, h3, h4]; exact ⟨by omega, by omega, by simp, by simp⟩) [knC] chg1_ok _ _ _ _ _ _ X5 (lk.keep (t5.keeps0 _)) d5)
      have HX5 := Lib.hid hX5
      have H5 := Lib.hid (And.intro bk (And.intro t5 tk))
      clear h1 h2 h3 h4 hX5 d5 t5 lk bk tk
      go_wp2_with (first
        | (refine wpList_load_mid rfl 29 (.tmp 1) rfl p 0 rfl _ _ r1 Tryz.underlying29 rfl hz1 ?_)
        | fail)
      rw [← HX5.out]
      refine AD.out.mono ?_
      rintro e x6 ⟨ov', bv', tv', cv', rfl, l6, d6, t6⟩
      obtain ⟨A7, c7, rfl, _⟩ := l6.opn.form
      obtain ⟨A8, c8, rfl, _⟩ := l6.blks.form'
      obtain ⟨A9, c9, rfl, _⟩ := l6.txs.form
      obtain ⟨Ac, cc, rfl, _⟩ := d6.form
      obtain ⟨L6, hL6⟩ : ∃ x, x = addLed (knL k) [knC] := ⟨_, rfl⟩
      rw [← hL6] at l6 ⊢
      have HL6 := Lib.hid (show L6 = knL (k + 1) from hL6)
      have hz6 := size_led (.int .i64 L6.next) (.slice A7 L6.opn.length c7) (.slice A8 L6.blks.length c8) (.slice A9 L6.txs.length c9)
      have t56 := H5.out.2.1.trans t6 (by simp)
      have HB6 := Lib.hid (H5.out.1.turns t56 (by simp))
      have H6 := Lib.hid (And.intro l6 (And.intro (H5.out.2.2.trans t56 (by simp)) (And.intro H5.out.1.lt (And.intro H5.out.2.1.size H5.out.2.2.size))))
      clear hL6 l6 d6 t6 t56 AD r1
      go_wp2_with (first
        | (refine wpList_store_blk rfl 29 (.tmp 1) (.tmp 15) rfl p (by kernel_rfl) [.int .i64 L6.next, .slice A7 L6.opn.length c7, .slice A8 L6.blks.length c8, .slice A9 L6.txs.length c9] _ 29 (by kernel_rfl) HB6.out rfl hz6 (by intro u hu; simp at hu; rcases hu with rfl | rfl | rfl | rfl <;> rfl) (fun w9 hb9 ht9 hs9 => ?_); have HQ9 := Lib.hid (And.intro hb9 ht9); clear hb9 ht9 hs9)
        | fail)
      have HKN := Lib.hid (show KnR w w9 p (k + 1) by
        have hs := H6.out.2.2
        have hp := HP.out
        refine ⟨_, _, _, by rw [← HL6.out]; exact HQ9.out.1, by rw [← HL6.out]; exact (H6.out.1.mono (fun j _ hj => by omega)).keep (HQ9.out.2.keepsB _ (by intro x hx _ h; simp at hx; omega)), H6.out.2.1.trans HQ9.out.2 (by intro x hx; simp at hx; exact .inr (by omega))⟩)
      go_roundw
      case rel => exact ⟨k + 1, by omega, by go_num, HKN.out⟩
      case measure => (simp [intOf] <;> omega)
    · obtain rfl : k = 4 := by omega
      obtain ⟨ho, o, hb⟩ := kn4
      have hL4 := knL_ok 4 (by omega)
      have hbl : (knL 4).blks.length = 1 := by rw [hb]; rfl
      have hol : (knL 4).opn.length = 0 := by rw [ho]; rfl
      have hdn : (((knL 4).blks[(knL 4).blks.length - 1]'(by omega)).n) = 1 := by simp only [hb]; rfl
      obtain ⟨L4, hL⟩ : ∃ x, x = knL 4 := ⟨_, rfl⟩
      have DS := Digest_some (knL 4) hL4 (by omega) _ _ _ _ wr lk
      obtain ⟨dh, hdh⟩ : ∃ h, h = bloH ((knL 4).blks[(knL 4).blks.length - 1]'(by omega)) := ⟨_, rfl⟩
      have hdl : dh.length = 32 := by rw [hdh]; exact bloH_len _
      rw [hdn, ← hdh] at DS
      rw [hol, hbl] at DS r1 hz1 bk
      have HDS := Lib.hid DS
      have c2 := bk.cell 2
      have HBK := Lib.hid bk
      have HTK := Lib.hid tk
      generalize (knL 4).next = nx at *
      generalize (knL 4).txs.length = tl at *
      have hz3 := size_dig 1 dh hdl
      have hzd := zero_dig
      clear hb ho hL4 hbl hol hdn hL hdh lk tk bk DS c2 o
      go_wp2_with (first
        | (refine wpList_load_mid rfl 29 (.tmp 1) rfl p 0 rfl _ _ r1 Tryz.underlying29 rfl hz1 ?_)
        | fail)
      refine HDS.out.mono ?_
      rintro e x5 ⟨rfl, t5⟩
      have b3 := Blk.new x5 (digCells 0 (zeros 32)) 55
      have t3 : Turns [] x5 (x5.alloc (.cells (digCells 0 (zeros 32)).toArray 55)) := (Turns.refl _ _).alloc _
      have HB3 := Lib.hid (And.intro b3 t3)
      have H5 := Lib.hid t5
      have HLN := Lib.hid (show (digCells 0 (zeros 32)).length = (digCells 1 dh).length by simp [digCells, bvs_length, zeros_length, hdl])
      have HD1 := Lib.hid (show ∀ u ∈ digCells 1 dh, u.oneCell' = true by intro u hu; simp only [digCells, List.mem_cons] at hu; rcases hu with rfl | hu; rfl; exact bvs_one _ u hu)
      clear b3 t3 t5 r1 hdl HDS
      go_upto_region 7 with (first
        | (refine wpList_alloc_arr (o := ⟨some 3, _, _, _, _, _⟩) rfl 55 rfl (digCells 0 (zeros 32)).toArray hzd ?_)
        | (refine wpList_store_blk rfl 55 (.tmp 3) (.tmp 20) rfl x5.heap.size (by kernel_rfl) (digCells 1 dh) (digCells 0 (zeros 32)) 55 (by kernel_rfl) HB3.out.1 HLN.out hz3 HD1.out (fun w9 hb9 ht9 hs9 => ?_); have HQ9 := Lib.hid (And.intro hb9 ht9); clear hb9 ht9 hs9)
        | fail)
      try simp only [Act.put, List.setIfInBounds_toArray, List.set_cons_succ, List.set_cons_zero]
      obtain ⟨p3, hp3⟩ : ∃ x, x = x5.heap.size := ⟨_, rfl⟩
      rw [← hp3] at HQ9 ⊢
      have d0 : w9.cell? ⟨p3, 0, none⟩ = some (.int .i64 1) := HQ9.out.1.cell 0
      have t9 : Turns [] wr w9 := (H5.out.trans HB3.out.2 (by simp)).trans HQ9.out.2 (by intro x hx; simp at hx; exact .inr (by have := H5.out.size; omega))
      have b9 := HBK.out.turns t9 (by simp)
      have e1 := b9.cell 1
      have e2 := b9.cell 2
      simp only [List.getElem?_cons_zero, List.getElem?_cons_succ] at e1 e2
      have HFF := Lib.hid (HTK.out.trans t9 (by simp))
      clear hp3 t9 b9 hz3 hzd
      go_wp2_with fail
      go_ret
      exact ⟨rfl, HFF.out⟩
end Go.Proofs.YtoahnhphfabajaaGreat
