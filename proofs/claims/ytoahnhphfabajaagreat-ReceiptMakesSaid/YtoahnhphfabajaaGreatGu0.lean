/- The program's receipt as the document's, walked. -/
import Derived.Test.YtoahnhphfabajaaGreatRc5
import Derived.Test.YtoahnhphfabajaaGreatGt2
import Derived.Test.YtoahnhphfabajaaGreatLdL
namespace Go.Proofs.YtoahnhphfabajaaGreat
open Go.RowKit
set_option linter.unusedVariables false
set_option maxRecDepth 10000
set_option linter.unusedSimpArgs false
set_option linter.unnecessarySimpa false

theorem zero_rrec : (Tryz.prog.info? 77).bind (·.zero) = some (.agg rz.toArray) := by kernel_rfl
theorem size_rrec (cs : List Value) (h : cs.length = 75) : (Tryz.prog.info? 77).map (·.size) = some cs.length := by rw [h]; kernel_rfl
theorem built_rrec0 : Tryz.prog.built 77 [] = some rz.toArray := by kernel_rfl
set_option maxRecDepth 100000 in
theorem built_rblo5 (b : Blo) (h : b.ok) : Tryz.prog.built 75 [(0, .int .i64 b.n), (1, .agg (bvs b.prev).toArray), (2, .agg (bvs b.root).toArray), (3, .int .i64 b.cnt)] = some b.cells.toArray := by
  obtain ⟨n, p, r, c⟩ := b
  obtain ⟨h1, h2⟩ := h
  simp only at h1 h2
  match p, h1, r, h2 with
  | [a0, a1, a2, a3, a4, a5, a6, a7, a8, a9, a10, a11, a12, a13, a14, a15, a16, a17, a18, a19, a20, a21, a22, a23, a24, a25, a26, a27, a28, a29, a30, a31], _, [b0, b1, b2, b3, b4, b5, b6, b7, b8, b9, b10, b11, b12, b13, b14, b15, b16, b17, b18, b19, b20, b21, b22, b23, b24, b25, b26, b27, b28, b29, b30, b31], _ => show _ = _; kernel_rfl
set_option maxRecDepth 100000 in
theorem built_rrec8 (r : Rec) (h : r.blk.ok) (rv : Value) (A2 A3 : Option Addr) (n2 k2 n3 k3 : Nat) : Tryz.prog.built 77 [(0, .int .i64 r.tx), (1, .int .i64 r.seq), (2, .int .i64 r.chgs), (3, .agg #[.string r.c.table, .int .i64 r.c.op, rv]), (4, .slice A2 n2 k2), (5, .int .i64 r.place), (6, .slice A3 n3 k3), (7, .agg r.blk.cells.toArray)] = some (recCells r rv (.slice A2 n2 k2) (.slice A3 n3 k3)).toArray := by
  obtain ⟨tx, seq, chgs, c, rows, place, ents, ⟨n, pv, rt, cn⟩⟩ := r
  match pv, h.prev, rt, h.root with
  | [a0, a1, a2, a3, a4, a5, a6, a7, a8, a9, a10, a11, a12, a13, a14, a15, a16, a17, a18, a19, a20, a21, a22, a23, a24, a25, a26, a27, a28, a29, a30, a31], _, [b0, b1, b2, b3, b4, b5, b6, b7, b8, b9, b10, b11, b12, b13, b14, b15, b16, b17, b18, b19, b20, b21, b22, b23, b24, b25, b26, b27, b28, b29, b30, b31], _ => show _ = _; kernel_rfl
set_option maxRecDepth 100000 in
set_option maxHeartbeats 8000000 in
theorem RecToRef_any (r : Rec) (hr : r.blk.ok) (rv hv ev : Value) (w0 : World) (h : RecR w0 r rv hv ev) :
    Calls Tryz.prog 27 #[.agg (recCells r rv hv ev).toArray] w0 fun e w' => e = .returned (.agg (recCells r rv hv ev).toArray) ∧ Turns [] w0 w' := by
  have h1 := h.one
  have hl := recCells_len hr rv hv ev
  have ho := recCells_one r h1.1 h1.2.1 h1.2.2
  obtain ⟨A1, k1, rfl, _⟩ := h.row.form
  obtain ⟨A2, k2, rfl, _⟩ := h.rows.form
  obtain ⟨A3, k3, rfl, _⟩ := h.ents.form
  have hb := built_rrec8 r hr (.slice A1 r.c.row.length k1) A2 A3 r.rows.length k2 r.ents.length k3
  obtain ⟨rcs, hrcs⟩ : ∃ x, x = recCells r (.slice A1 r.c.row.length k1) (.slice A2 r.rows.length k2) (.slice A3 r.ents.length k3) := ⟨_, rfl⟩
  rw [← hrcs] at hl ho hb ⊢
  obtain ⟨zz, hzz⟩ : ∃ z, z = rz := ⟨_, rfl⟩
  have hz2 := zero_rrec
  rw [← hzz] at hz2
  obtain ⟨cs, hcs⟩ : ∃ c, c = r.blk.cells := ⟨_, rfl⟩
  have hcl : cs.length = 66 := by rw [hcs]; exact Blo.cells_len hr
  have hc1 : ∀ u ∈ cs, u.oneCell' = true := by rw [hcs]; exact Blo.cells_one _
  obtain ⟨p1, hp1⟩ : ∃ x, x = w0.heap.size := ⟨_, rfl⟩
  obtain ⟨x1, hx1⟩ : ∃ x, x = w0.alloc (.cells rcs.toArray 72) := ⟨_, rfl⟩
  obtain ⟨x2, hx2⟩ : ∃ x, x = x1.alloc (.cells zz.toArray 77) := ⟨_, rfl⟩
  have b1 := Blk.new w0 rcs 72
  rw [← hx1, ← hp1] at b1
  have t1 : Turns [] w0 x1 := by rw [hx1]; exact (Turns.refl _ _).alloc _
  have b2 := Blk.new x1 zz 77
  have hs1 : x1.heap.size = p1 + 1 := by rw [hx1, hp1]; simp
  rw [← hx2, hs1] at b2
  have t2 : Turns [] x1 x2 := by rw [hx2]; exact (Turns.refl _ _).alloc _
  have b12 := b1.turns t2 (by simp)
  have c0 : x2.cell? ⟨p1, 0, none⟩ = some (.int .i64 r.tx) := (b12.cell 0).trans (by rw [hrcs]; rfl)
  have c1 : x2.cell? ⟨p1, 1, none⟩ = some (.int .i64 r.seq) := (b12.cell 1).trans (by rw [hrcs]; rfl)
  have c2 : x2.cell? ⟨p1, 2, none⟩ = some (.int .i64 r.chgs) := (b12.cell 2).trans (by rw [hrcs]; rfl)
  have c6 : x2.cell? ⟨p1, 6, none⟩ = some (.slice A2 r.rows.length k2) := (b12.cell 6).trans (by rw [hrcs]; rfl)
  have c7 : x2.cell? ⟨p1, 7, none⟩ = some (.int .i64 r.place) := (b12.cell 7).trans (by rw [hrcs]; rfl)
  have c8 : x2.cell? ⟨p1, 8, none⟩ = some (.slice A3 r.ents.length k3) := (b12.cell 8).trans (by rw [hrcs]; rfl)
  have RC : x2.rangeAt p1 3 [.string r.c.table, .int .i64 r.c.op, .slice A1 r.c.row.length k1] := fun j v hj => (b12.cell (3 + j)).trans (by
    rw [hrcs]
    match j, hj with
    | 0, hj => exact hj
    | 1, hj => exact hj
    | 2, hj => exact hj)
  have RB : x2.rangeAt p1 9 cs := by rw [hrcs] at b12; rw [hcs]; exact rec_blk b12
  have hzc := size_chg r.c.table r.c.op (.slice A1 r.c.row.length k1)
  have hzb := size_blo cs hcl
  have hzr := zero_blo
  have HB5 := Lib.hid (And.intro (Blk.new x2 blo0.cells 70) (And.intro ((Turns.refl [] x2).alloc (.cells blo0.cells.toArray 70)) (And.intro (show blo0.cells.length = cs.length by rw [hcl, Blo.cells_len blo0_ok]) hc1)))
  have hbr := built_rblo5 r.blk hr
  rw [← hcs] at hbr hb
  have HBB := Lib.hid (And.intro hbr hb)
  have HX := Lib.hid (And.intro hx1 (And.intro hx2 (And.intro hp1 hs1)))
  have HQB := Lib.hid (And.intro b2 (show zz.length = rcs.length by rw [hzz, rz_len, hl]))
  have HT0 := Lib.hid (t1.trans t2 (by simp))
  have HR1 := Lib.hid (And.intro (size_rrec rcs hl) ho)
  have HCS := Lib.hid (And.intro hcs hr)
  clear h h1 hl ho hb hrcs hzz hc1 hx1 hx2 hp1 b1 t1 b2 hs1 t2 b12 hbr hcl
  go_enter Tryz.func27, Tryz.ntmps27
  go_upto_region 1 with (first | (refine wpList_alloc_arr (o := ⟨some 2, _, _, _, _, _⟩) rfl 77 rfl zz.toArray hz2 ?_) | fail)
  try simp only [Act.put, List.setIfInBounds_toArray, List.set_cons_succ, List.set_cons_zero]
  rw [← HX.out.1, ← HX.out.2.1, HX.out.2.2.2, ← HX.out.2.2.1]
  go_upto_region 2 with (first
    | (refine wpList_load_mid rfl 70 (.tmp 4) rfl p1 9 rfl cs _ RB Tryz.underlying70 rfl hzb ?_)
    | (refine wpList_alloc_arr (o := ⟨some 3, _, _, _, _, _⟩) rfl 70 rfl blo0.cells.toArray hzr ?_)
    | (refine wpList_store_blk rfl 70 (.tmp 3) (.tmp 5) rfl x2.heap.size (by kernel_rfl) cs blo0.cells 70 (by kernel_rfl) HB5.out.1 HB5.out.2.2.1 hzb HB5.out.2.2.2 (fun y1 hb1 ht1 hs1 => ?_); have HQ := Lib.hid (And.intro hb1 ht1); clear hb1 ht1 hs1)
    | fail)
  try simp only [Act.put, List.setIfInBounds_toArray, List.set_cons_succ, List.set_cons_zero]
  obtain ⟨p3, hp3⟩ : ∃ x, x = x2.heap.size := ⟨_, rfl⟩
  rw [← hp3] at HQ ⊢
  have ty : Turns [] x2 y1 := HB5.out.2.1.trans HQ.out.2 (by intro x hx; simp at hx; exact .inr (by omega))
  have c0 := cellV ty c0
  have c1 := cellV ty c1
  have c2 := cellV ty c2
  have c6 := cellV ty c6
  have c7 := cellV ty c7
  have c8 := cellV ty c8
  have RC := rangeV ty RC
  have d0 : y1.cell? ⟨p3, 0, none⟩ = some (.int .i64 r.blk.n) := (HQ.out.1.cell 0).trans (show cs[0]? = some (.int .i64 r.blk.n) from HCS.out.1 ▸ r.blk.get0)
  have d65 : y1.cell? ⟨p3, 65, none⟩ = some (.int .i64 r.blk.cnt) := (HQ.out.1.cell 65).trans (show cs[65]? = some (.int .i64 r.blk.cnt) from HCS.out.1 ▸ Blo.get65 HCS.out.2)
  have RP : y1.rangeAt p3 1 (bvs r.blk.prev) := fun j v hv => (HQ.out.1.cell (1 + j)).trans (HCS.out.1 ▸ r.blk.getP HCS.out.2 j v hv)
  have RR : y1.rangeAt p3 33 (bvs r.blk.root) := fun j v hv => (HQ.out.1.cell (33 + j)).trans (HCS.out.1 ▸ r.blk.getR HCS.out.2 j v hv)
  have hsp : (Tryz.prog.info? 53).map (·.size) = some (bvs r.blk.prev).length := by rw [bvs_length, HCS.out.2.prev]; exact size_hash
  have hsr : (Tryz.prog.info? 53).map (·.size) = some (bvs r.blk.root).length := by rw [bvs_length, HCS.out.2.root]; exact size_hash
  have HBQ := Lib.hid (HQB.out.1.turns ty (by simp))
  have HTY := Lib.hid ty
  clear ty hp3 RB
  go_wp2_with (first
    | (refine wpList_load_mid rfl 67 (.tmp 12) rfl p1 3 (by kernel_rfl) [.string r.c.table, .int .i64 r.c.op, .slice A1 r.c.row.length k1] _ RC Tryz.underlying67 rfl hzc ?_)
    | (refine wpList_load_mid rfl 53 (.tmp 22) rfl p3 1 (by kernel_rfl) (bvs r.blk.prev) _ RP Tryz.underlying53 rfl hsp ?_)
    | (refine wpList_load_mid rfl 53 (.tmp 24) rfl p3 33 (by kernel_rfl) (bvs r.blk.root) _ RR Tryz.underlying53 rfl hsr ?_)
    | (refine wpList_buildTo rfl 75 _ rfl (some 28) rfl cs.toArray ((congrArg (Tryz.prog.built 75) (by kernel_rfl)).trans HBB.out.1) ?_)
    | (refine wpList_buildTo rfl 77 _ rfl (some 29) rfl rcs.toArray ((congrArg (Tryz.prog.built 77) (by kernel_rfl)).trans HBB.out.2) ?_)
    | (refine wpList_store_blk rfl 77 (.tmp 2) (.tmp 29) rfl (p1 + 1) (by kernel_rfl) rcs zz 77 (by kernel_rfl) HBQ.out HQB.out.2 HR1.out.1 HR1.out.2 (fun w9 hb9 ht9 hs9 => ?_); have HQ9 := Lib.hid (And.intro hb9 ht9); clear hb9 ht9 hs9)
    | fail)
  refine bodyPost_ret (results_cell_row rfl _ _ (p1 + 1) _ _ _ _ (by kernel_rfl) HQ9.out.1 Tryz.underlying77 rfl (by rw [List.size_toArray]; exact HR1.out.1)) rfl ?_
  have hq := HX.out.2.2
  exact ⟨rfl, (HT0.out.trans HTY.out (by simp)).trans HQ9.out.2 (by intro x hx; simp at hx; exact .inr (by omega))⟩
end Go.Proofs.YtoahnhphfabajaaGreat
