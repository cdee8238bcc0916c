/- Receipts: the transaction that was found; it is looked for once. -/
import Derived.Test.YtoahnhphfabajaaGreatRc2
namespace Go.Proofs.YtoahnhphfabajaaGreat
open Go.RowKit
set_option linter.unusedVariables false
set_option maxRecDepth 10000
set_option linter.unusedSimpArgs false
set_option linter.unnecessarySimpa false

set_option maxRecDepth 100000 in
set_option maxHeartbeats 8000000 in
theorem tx_any (nx : Int) (ov bv d s m : Value) (pf bT offT nT ct a b b2 off2 nX cX nc cc : Nat) (is : Bool) (id : Int) (Ac : Option Addr) (w : World)
    (hb : Blk w pf (fcs nx ov bv (.slice (some ⟨bT, offT, none⟩) nT ct) d s m a b is) 116) (ha : a < nT) (hbX : b < nX)
    (q0 : w.cell? ⟨bT, offT + a, none⟩ = some (.slice (some ⟨b2, off2, none⟩) nX cX)) (rg : w.rangeAt b2 (off2 + b * 2) [.int .i64 id, .slice Ac nc cc]) :
    Calls Tryz.prog 46 #[.pointer (some ⟨pf, 0, none⟩)] w fun e w' => e = .returned (.agg #[.int .i64 id, .slice Ac nc cc]) ∧ Turns [] w w' := by
  obtain ⟨g, hg⟩ : ∃ q, q = w.heap.size := ⟨_, rfl⟩
  obtain ⟨w1, hw1⟩ : ∃ x, x = w.alloc (.cells #[.int .i64 0, .slice none 0 0] 45) := ⟨_, rfl⟩
  have bg := Blk.new w [.int .i64 0, .slice none 0 0] 45
  rw [show w.alloc (.cells [.int .i64 0, .slice none 0 0].toArray 45) = w1 from hw1.symm, ← hg] at bg
  have t1 : Turns [] w w1 := by rw [hw1]; exact (Turns.refl _ _).alloc _
  obtain ⟨Y, hY⟩ : ∃ q, q = w1.drew := ⟨_, rfl⟩
  have tY : Turns [] w1 Y := by rw [hY]; exact (Turns.refl _ _).drew
  have tw := t1.trans tY (by simp)
  have HYY := Lib.hid hY
  have bY := hb.turns tw (by simp)
  have F3 := bY.cell 3
  have F7 := bY.cell 7
  have F8 := bY.cell 8
  simp only [fcs, List.getElem?_cons_zero, List.getElem?_cons_succ] at F3 F7 F8
  have Q0 := cellV tw q0
  have RG := rangeV tw rg
  have hai : (a : Int) < (nT : Int) := by omega
  have hbi : (b : Int) < (nX : Int) := by omega
  have hz1 := size_tx id (.slice Ac nc cc)
  have HW := Lib.hid (And.intro hw1 hg)
  have HG := Lib.hid (And.intro (bg.turns tY (by simp)) tw)
  have HGG := Lib.hid hg
  have S0 : Turns [] Y Y := Turns.refl _ _
  clear hg hw1 bg t1 hY tY tw bY hb q0 rg ha hbX
  go_enter Tryz.func46, Tryz.ntmps46
  go_upto_region 1 with fail
  rw [← HW.out.1, ← HW.out.2]
  refine rk0 (fun _ => True) (fun W => Turns [] Y W) 17 18 ?_
  rw [← HYY.out]
  refine rkA 0 3 1 (v := ?_) ?_ (.mk' trivial S0) ?_
  rotate_left
  · intro W hS; go_simp; all_goals with_reducible rfl
  try simp only [sI, sS, sZ]
  refine rkA 1 4 3 (v := ?_) ?_ (.mk' trivial S0) ?_
  rotate_left
  · intro W hS; go_simp; all_goals with_reducible rfl
  try simp only [sI, sS, sZ]
  refine rkA 2 5 7 (v := ?_) ?_ (.mk' trivial S0) ?_
  rotate_left
  · intro W hS; go_simp; all_goals with_reducible rfl
  try simp only [sI, sS, sZ]
  refine rkA 3 6 15 (v := ?_) ?_ (.mk' trivial S0) ?_
  rotate_left
  · intro W hS; go_simp; all_goals with_reducible rfl
  try simp only [sI, sS, sZ]
  refine rkT 4 7 31 (v := ?_) ?_ (.mk' trivial S0) ?_
  rotate_left
  · rintro W ⟨-, hS⟩; have c0 := cellL hS F3 (by simp); go_simp; all_goals with_reducible rfl
  try simp only [sI, sS, sZ]
  refine rkA 5 8 63 (v := ?_) ?_ (.mk' trivial S0) ?_
  rotate_left
  · intro W hS; go_simp; all_goals with_reducible rfl
  try simp only [sI, sS, sZ]
  refine rkA 6 9 127 (v := ?_) ?_ (.mk' trivial S0) ?_
  rotate_left
  · intro W hS; go_simp; all_goals with_reducible rfl
  try simp only [sI, sS, sZ]
  refine rkA 7 10 255 (v := ?_) ?_ (.mk' trivial S0) ?_
  rotate_left
  · intro W hS; go_simp; all_goals with_reducible rfl
  try simp only [sI, sS, sZ]
  refine rkT 8 11 511 (v := ?_) ?_ (.mk' trivial S0) ?_
  rotate_left
  · rintro W ⟨-, hS⟩; have c0 := cellL hS F7 (by simp); go_simp; all_goals with_reducible rfl
  try simp only [sI, sS, sZ]
  refine rkA 9 12 1023 (v := ?_) ?_ (.mk' trivial S0) ?_
  rotate_left
  · intro W hS; go_simp; all_goals with_reducible rfl
  try simp only [sI, sS, sZ]
  refine rkT 10 13 2047 (v := ?_) ?_ (.mk' trivial S0) ?_
  rotate_left
  · rintro W ⟨-, hS⟩; have c0 := cellL hS Q0 (by simp); go_simp; all_goals with_reducible rfl
  try simp only [sI, sS, sZ]
  refine rkA 11 14 4095 (v := ?_) ?_ (.mk' trivial S0) ?_
  rotate_left
  · intro W hS; go_simp; all_goals with_reducible rfl
  try simp only [sI, sS, sZ]
  refine rkA 12 15 8191 (v := ?_) ?_ (.mk' trivial S0) ?_
  rotate_left
  · intro W hS; go_simp; all_goals with_reducible rfl
  try simp only [sI, sS, sZ]
  refine rkA 13 16 16383 (v := ?_) ?_ (.mk' trivial S0) ?_
  rotate_left
  · intro W hS; go_simp; all_goals with_reducible rfl
  try simp only [sI, sS, sZ]
  refine rkT 14 17 32767 (v := ?_) ?_ (.mk' trivial S0) ?_
  rotate_left
  · rintro W ⟨-, hS⟩; have c0 := cellL hS F8 (by simp); go_simp; all_goals with_reducible rfl
  try simp only [sI, sS, sZ]
  refine rkA 15 18 65535 (v := ?_) ?_ (.mk' trivial S0) ?_
  rotate_left
  · intro W hS; go_simp; all_goals with_reducible rfl
  try simp only [sI, sS, sZ]
  refine rkW 16 19 131071 rfl (yieldsIf_load_mid (by rfl) _ _ rfl b2 (off2 + b * 2) (by rfl) [.int .i64 id, .slice Ac nc cc] _ (fun W hS => rangeV hS.2 RG) Tryz.underlying45 rfl hz1) (.mk' trivial S0) ?_
  try simp only [sI, sS, sZ]
  refine rk1 17 262143 (fun K hK => ?_)
  refine wp_store_blk 45 _ _ (by rfl) g (by rfl) [.int .i64 id, .slice Ac nc cc] [.int .i64 0, .slice none 0 0] 45 (by rfl) HG.out.1 rfl hz1 (by intro u hu; simp at hu; rcases hu with rfl | rfl <;> rfl) (fun X17 hb17 ht17 => ?_)
  refine hK _ _ (.p trivial) ?_
  clear hK K
  try simp only [sI, sS, sZ]
  refine rkZ ?_
  have HE := Lib.hid (And.intro hb17 ht17)
  go_wp2_with fail
  refine bodyPost_ret (results_cell_row rfl _ _ g _ _ _ _ (by kernel_rfl) HE.out.1 Tryz.underlying45 rfl (by rw [List.size_toArray]; exact hz1)) rfl ?_
  exact ⟨rfl, HG.out.2.trans HE.out.2 (by intro x hx; simp at hx; exact .inr (by have := HGG.out; omega))⟩
/-- What the looking leaves. -/
def FndR (L : Led) (tx : Int) (pf : Nat) (ov bv tv : Value) (w w' : World) : Prop := ∃ a b is, Blk w' pf (fcs L.next ov bv tv (.int .u32 0) (.int .i32 1) (.int .u32 0) a b is) 116 ∧ FndK L tx L.txs.length 0 a b is ∧ Turns [pf] w w'
set_option maxRecDepth 100000 in
set_option maxHeartbeats 8000000 in
theorem mk1_any (L : Led) (hL : L.ok) (hbt : L.blks.length = L.txs.length) (tx : Int) (pf p8 p4 : Nat) (ov tv : Value) (Ab : Option Addr) (cb : Nat) (S : Nat → Prop) (hS : ¬ S pf) (w : World)
    (hb : Blk w pf (fcs L.next ov (.slice Ab L.blks.length cb) tv (.int .u32 0) (.int .i32 1) (.int .u32 0) 0 0 false) 116) (hd : Deep TxsR w S 1 tv L.txs)
    (h8 : w.cell? ⟨p8, 0, none⟩ = some (.pointer (some ⟨pf, 0, none⟩))) (h4 : w.cell? ⟨p4, 0, none⟩ = some (.int .i64 tx)) :
    Calls Tryz.prog 44 (#[] ++ #[.pointer (some ⟨p8, 0, none⟩), .pointer (some ⟨p4, 0, none⟩)]) w fun e w' => e = .returned (.tuple #[]) ∧ FndR L tx pf ov (.slice Ab L.blks.length cb) tv w w' := by
  have FA := Lib.hid (find_any L hL hbt tx pf ov tv _ _ _ Ab cb S hS w hb hd)
  clear hb hd hL hbt hS
  go_enter Tryz.func44, Tryz.ntmps44
  go_wp2_with fail
  refine FA.out.mono ?_
  rintro e w' ⟨rfl, a, b, is, h⟩
  have HH := Lib.hid h
  clear FA h
  go_wp2_with fail
  go_end0
  exact ⟨rfl, a, b, is, HH.out⟩
theorem once_find (L : Led) (hL : L.ok) (hbt : L.blks.length = L.txs.length) (tx : Int) (pf p8 p4 : Nat) (h8n : p8 ≠ pf) (h4n : p4 ≠ pf) (ov tv : Value) (Ab : Option Addr) (cb : Nat) (S : Nat → Prop) (hS : ¬ S pf) (w : World)
    (hb : Blk w pf (fcs L.next ov (.slice Ab L.blks.length cb) tv (.int .u32 0) (.int .i32 0) (.int .u32 0) 0 0 false) 116) (hd : Deep TxsR w S 1 tv L.txs)
    (h8 : w.cell? ⟨p8, 0, none⟩ = some (.pointer (some ⟨pf, 0, none⟩))) (h4 : w.cell? ⟨p4, 0, none⟩ = some (.int .i64 tx)) :
    Calls Tryz.prog 32 #[.pointer (some ⟨pf, 4, none⟩), .func (.func 44) #[] #[.pointer (some ⟨p8, 0, none⟩), .pointer (some ⟨p4, 0, none⟩)]] w fun e w' => e = .returned (.tuple #[]) ∧
      ∃ a b is, Blk w' pf (fcs L.next ov (.slice Ab L.blks.length cb) tv (.int .u32 1) (.int .i32 0) (.int .u32 0) a b is) 116 ∧ FndK L tx L.txs.length 0 a b is ∧ Turns [pf] w w' := by
  have t4 : Turns [pf] w (w.setCell ⟨pf, 5, none⟩ (.int .i32 1)) := (Turns.refl _ w).setCell (.inl (by simp)) _
  have b4 : Blk (w.setCell ⟨pf, 5, none⟩ (.int .i32 1)) pf (fcs L.next ov (.slice Ab L.blks.length cb) tv (.int .u32 0) (.int .i32 1) (.int .u32 0) 0 0 false) 116 := hb.set 5 (.int .i32 1)
  have MK := mk1_any L hL hbt tx pf p8 p4 ov tv Ab cb S hS _ b4 (hd.keep TxsR.lasts (t4.keepsB S (fun x hx _ h => by simp at hx; subst hx; exact hS h))) (cellL t4 h8 (by simpa using h8n)) (cellL t4 h4 (by simpa using h4n))
  have hF : Calls Tryz.prog 44 (#[] ++ #[.pointer (some ⟨p8, 0, none⟩), .pointer (some ⟨p4, 0, none⟩)]) (w.setCell ⟨pf, 5, none⟩ (.int .i32 1)) fun e w' => e = .returned (.tuple #[]) ∧ FndR L tx pf ov (.slice Ab L.blks.length cb) tv (w.setCell ⟨pf, 5, none⟩ (.int .i32 1)) w' ∧ Once.Held pf 4 w' :=
    MK.mono fun e w' ⟨he, a, b, is, hb, hf, ht⟩ => ⟨he, ⟨a, b, is, hb, hf, ht⟩, ⟨⟨_, hb.cell 4⟩, hb.free 4, hb.cell 5, hb.free 5⟩⟩
  refine (Once.do_first pf 4 44 #[] #[.pointer (some ⟨p8, 0, none⟩), .pointer (some ⟨p4, 0, none⟩)] _ w (fun W => by rfl) (hb.cell 4) (hb.cell 5) (hb.free 4) (hb.free 5) hF).mono ?_
  rintro e w' ⟨rfl, w2, ⟨a, b, is, hb, hf, ht⟩, rfl⟩
  have tt : Turns [pf] w2 ((w2.drew.setCell ⟨pf, 4, none⟩ (.int .u32 1)).setCell ⟨pf, 5, none⟩ (.int .i32 0)) := (((Turns.refl _ w2).drew).setCell (.inl (by simp)) _).setCell (.inl (by simp)) _
  exact ⟨rfl, a, b, is, (hb.drew.set 4 (.int .u32 1)).set 5 (.int .i32 0), hf, (t4.trans ht (fun x hx => .inl hx)).trans tt (fun x hx => .inl hx)⟩
end Go.Proofs.YtoahnhphfabajaaGreat
