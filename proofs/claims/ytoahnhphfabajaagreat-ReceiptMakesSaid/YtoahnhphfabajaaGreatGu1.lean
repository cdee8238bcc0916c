/- The document's sameness of receipts: the same ones are the same. -/
import Derived.Test.YtoahnhphfabajaaGreatGu0
namespace Go.Proofs.YtoahnhphfabajaaGreat
open Go.RowKit
set_option linter.unusedVariables false
set_option maxRecDepth 10000
set_option linter.unusedSimpArgs false
set_option linter.unnecessarySimpa false

theorem chg_lit {w : World} {c : Chg} {rv : Value} (h : Sl w w.heap.size 3 rv c.row.length (valCells c.row)) : Deep ChgR (w.alloc (.cells #[.string c.table, .int .i64 c.op, rv] 67)) (fun _ => True) 3 (.slice (some ⟨w.heap.size, 0, none⟩) 1 1) [c] :=
  Deep.mk' (css := [[.string c.table, .int .i64 c.op, rv]]) rfl (by intro x hx; simp at hx; subst hx; rfl) (fun i hi hi' => by
    obtain rfl : i = 0 := by simp at hi; omega
    have t := (Turns.refl [] w).alloc (.cells #[.string c.table, .int .i64 c.op, rv] 67)
    exact ⟨_, rfl, (t.slice h (Nat.le_refl _) (by simp)).slS (fun _ _ _ => trivial)⟩)
    ((Sl.new w #[.string c.table, .int .i64 c.op, rv] 67 1 3 rfl (by simp [maxLen])).slS (fun _ _ _ => trivial))
theorem tx_lit1 {w : World} {S : Nat → Prop} {id : Int} {cv : Value} {cs : List Chg} (h : Deep ChgR w S 3 cv cs) : Deep TxR (w.alloc (.cells #[.int .i64 id, cv] 45)) (fun _ => True) 2 (.slice (some ⟨w.heap.size, 0, none⟩) 1 1) [⟨id, cs⟩] :=
  Deep.mk' (css := [[.int .i64 id, cv]]) rfl (by intro x hx; simp at hx; subst hx; rfl) (fun i hi hi' => by
    obtain rfl : i = 0 := by simp at hi; omega
    exact ⟨_, rfl, (h.keep ChgR.lasts (((Turns.refl [] w).alloc _).keeps0 _)).mono ChgR.lasts (fun _ _ _ => trivial)⟩)
    ((Sl.new w #[.int .i64 id, cv] 45 1 2 rfl (by simp [maxLen])).slS (fun _ _ _ => trivial))
set_option maxRecDepth 100000 in
set_option maxHeartbeats 8000000 in
theorem RecSame_same (r : Rec) (hr : r.blk.ok) (hc : r.c.ok) (hrl : r.rows.length ≤ 100000) (hel : r.ents.length ≤ 100000) (rv hv ev rv' hv' ev' : Value) (w0 : World) (h : RecR w0 r rv hv ev) (h' : RecR w0 r rv' hv' ev') :
    Calls Tryz.prog 26 #[.agg (recCells r rv hv ev).toArray, .agg (recCells r rv' hv' ev').toArray] w0 fun e w' => e = .returned (.bool true) ∧ Turns [] w0 w' := by
  obtain ⟨A1, k1, rfl, _⟩ := h.row.form
  obtain ⟨A2, k2, rfl, _⟩ := h.rows.form
  obtain ⟨A3, k3, rfl, _⟩ := h.ents.form
  obtain ⟨B1, j1, rfl, _⟩ := h'.row.form
  obtain ⟨B2, j2, rfl, _⟩ := h'.rows.form
  obtain ⟨B3, j3, rfl, _⟩ := h'.ents.form
  obtain ⟨nR, hnR⟩ : ∃ n, n = r.rows.length := ⟨_, rfl⟩
  obtain ⟨nE, hnE⟩ : ∃ n, n = r.ents.length := ⟨_, rfl⟩
  rw [← hnR] at hrl
  rw [← hnE] at hel
  obtain ⟨rcs, hrcs⟩ : ∃ x, x = recCells r (.slice A1 r.c.row.length k1) (.slice A2 r.rows.length k2) (.slice A3 r.ents.length k3) := ⟨_, rfl⟩
  obtain ⟨rds, hrds⟩ : ∃ x, x = recCells r (.slice B1 r.c.row.length j1) (.slice B2 r.rows.length j2) (.slice B3 r.ents.length j3) := ⟨_, rfl⟩
  rw [← hrcs, ← hrds]
  obtain ⟨p1, hp1⟩ : ∃ x, x = w0.heap.size := ⟨_, rfl⟩
  obtain ⟨x1, hx1⟩ : ∃ x, x = w0.alloc (.cells rcs.toArray 77) := ⟨_, rfl⟩
  obtain ⟨x2, hx2⟩ : ∃ x, x = x1.alloc (.cells rds.toArray 77) := ⟨_, rfl⟩
  have b1 := Blk.new w0 rcs 77
  rw [← hx1, ← hp1] at b1
  have t1 : Turns [] w0 x1 := by rw [hx1]; exact (Turns.refl _ _).alloc _
  have b2 := Blk.new x1 rds 77
  have hs1 : x1.heap.size = p1 + 1 := by rw [hx1, hp1]; simp
  rw [← hx2, hs1] at b2
  have t2 : Turns [] x1 x2 := by rw [hx2]; exact (Turns.refl _ _).alloc _
  have b12 := b1.turns t2 (by simp)
  obtain ⟨p2, hp2⟩ : ∃ x, x = p1 + 1 := ⟨_, rfl⟩
  rw [← hp2] at b2 hs1
  have tt := t1.trans t2 (by simp)
  have c0 : x2.cell? ⟨p1, 0, none⟩ = some (.int .i64 r.tx) := (b12.cell 0).trans (by rw [hrcs]; rfl)
  have c1 : x2.cell? ⟨p1, 1, none⟩ = some (.int .i64 r.seq) := (b12.cell 1).trans (by rw [hrcs]; rfl)
  have c2 : x2.cell? ⟨p1, 2, none⟩ = some (.int .i64 r.chgs) := (b12.cell 2).trans (by rw [hrcs]; rfl)
  have c6 : x2.cell? ⟨p1, 6, none⟩ = some (.slice A2 nR k2) := (b12.cell 6).trans (by rw [hrcs, hnR]; rfl)
  have c7 : x2.cell? ⟨p1, 7, none⟩ = some (.int .i64 r.place) := (b12.cell 7).trans (by rw [hrcs]; rfl)
  have c8 : x2.cell? ⟨p1, 8, none⟩ = some (.slice A3 nE k3) := (b12.cell 8).trans (by rw [hrcs, hnE]; rfl)
  have d0 : x2.cell? ⟨p2, 0, none⟩ = some (.int .i64 r.tx) := (b2.cell 0).trans (by rw [hrds]; rfl)
  have d1 : x2.cell? ⟨p2, 1, none⟩ = some (.int .i64 r.seq) := (b2.cell 1).trans (by rw [hrds]; rfl)
  have d2 : x2.cell? ⟨p2, 2, none⟩ = some (.int .i64 r.chgs) := (b2.cell 2).trans (by rw [hrds]; rfl)
  have d6 : x2.cell? ⟨p2, 6, none⟩ = some (.slice B2 nR j2) := (b2.cell 6).trans (by rw [hrds, hnR]; rfl)
  have d7 : x2.cell? ⟨p2, 7, none⟩ = some (.int .i64 r.place) := (b2.cell 7).trans (by rw [hrds]; rfl)
  have d8 : x2.cell? ⟨p2, 8, none⟩ = some (.slice B3 nE j3) := (b2.cell 8).trans (by rw [hrds, hnE]; rfl)
  have RC : x2.rangeAt p1 3 [.string r.c.table, .int .i64 r.c.op, .slice A1 r.c.row.length k1] := fun j v hj => (b12.cell (3 + j)).trans (by
    rw [hrcs]
    match j, hj with
    | 0, hj => exact hj
    | 1, hj => exact hj
    | 2, hj => exact hj)
  have RD : x2.rangeAt p2 3 [.string r.c.table, .int .i64 r.c.op, .slice B1 r.c.row.length j1] := fun j v hj => (b2.cell (3 + j)).trans (by
    rw [hrds]
    match j, hj with
    | 0, hj => exact hj
    | 1, hj => exact hj
    | 2, hj => exact hj)
  obtain ⟨cs, hcs⟩ : ∃ c, c = r.blk.cells := ⟨_, rfl⟩
  have hcl : cs.length = 66 := by rw [hcs]; exact Blo.cells_len hr
  have RB : x2.rangeAt p1 9 cs := by rw [hrcs] at b12; rw [hcs]; exact rec_blk b12
  have RE : x2.rangeAt p2 9 cs := by rw [hrds] at b2; rw [hcs]; exact rec_blk b2
  have heq := eqlRBlo r.blk hr
  rw [← hcs] at heq
  have hzb := size_rblo cs hcl
  have hzc := size_chg r.c.table r.c.op (.slice A1 r.c.row.length k1)
  have hzd := size_chg r.c.table r.c.op (.slice B1 r.c.row.length j1)
  have HX := Lib.hid (And.intro hx1 (And.intro hx2 (And.intro hp1 (And.intro hs1 hp2))))
  have HR := Lib.hid (And.intro (h.on tt) (And.intro (h'.on tt) hc))
  have HN := Lib.hid (And.intro hnR hnE)
  have HT := Lib.hid tt
  obtain ⟨nC, hnC⟩ : ∃ n, n = r.c.row.length := ⟨_, rfl⟩
  have HNC := Lib.hid hnC
  rw [← hnC] at RC RD hzc hzd HR
  rw [← hnR, ← hnE] at HR
  have hne1 : (r.tx == r.tx) = true := beq_self_eq_true _
  clear h h' hrcs hrds hcs hcl hx1 hx2 hp1 b1 t1 b2 hs1 t2 b12 tt hc hnR hnE hp2 hnC hr
  go_enter Tryz.func26, Tryz.ntmps26
  go_upto_region 1 with fail
  rw [← HX.out.1, ← HX.out.2.1, ← HX.out.2.2.1, ← HX.out.2.2.2.2]
  go_wp2_with (first
    | (refine wpList_load_g (by rfl) 75 (.tmp 34) rfl p1 9 rfl cs _ RB Tryz.underlying75 rfl hzb ?_)
    | (refine wpList_load_g (by rfl) 75 (.tmp 36) rfl p2 9 rfl cs _ RE Tryz.underlying75 rfl hzb ?_)
    | fail)
  clear heq RB RE c0 c1 c2 c7 d0 d1 d2 d7 hne1
  go_loopw [5] (fun u wr => ∃ i : Nat, i ≤ nR ∧ u = .int .i64 i ∧ Turns [] x2 wr) (fun u _ => nR - (intOf u).toNat)
  case atStart => exact ⟨0, by omega, rfl, Turns.refl _ _⟩
  case round =>
    rename World => wr
    obtain ⟨i, hi, rfl, tr⟩ := hrel
    have q6 := cellV tr c6
    by_cases hlt : i < nR
    · have hii : (i : Int) < (nR : Int) := by omega
      have hil : i < r.rows.length := by have := HN.out.1; omega
      obtain ⟨b, off, rfl, _, rg⟩ := HR.out.1.rows.at_ hil
      obtain ⟨b', off', rfl, _, rg'⟩ := HR.out.2.1.rows.at_ hil
      have hxl : (r.rows[i]).length = 32 := HR.out.1.rows.all _ (List.getElem_mem hil)
      obtain ⟨x, hx⟩ : ∃ x, x = r.rows[i] := ⟨_, rfl⟩
      rw [← hx] at rg rg' hxl
      have HEQ := Lib.hid (eqlS x hxl)
      have hz1 : (Tryz.prog.info? 53).map (·.size) = some (bvs x).length := by rw [bvs_length, hxl]; exact size_hash
      obtain ⟨Y, hY⟩ : ∃ q, q = wr.drew := ⟨_, rfl⟩
      have tY : Turns [] wr Y := by rw [hY]; exact (Turns.refl _ _).drew
      have HYY := Lib.hid hY
      have tyY := tr.trans tY (by simp)
      have C2 := cellV tyY c6
      have D2 := cellV tyY d6
      have r1 := rangeV tyY rg
      have r2 := rangeV tyY rg'
      have HTR := Lib.hid tyY
      have S0 : Turns [] Y Y := Turns.refl _ _
      clear hY tY tyY rg rg' hx hxl tr hil
      go_upto_region 6 with fail
      refine rk0 (fun W => Turns [] Y W) (fun _ => True) 11 11 ?_
      rw [← HYY.out]
      refine rkA 0 65 1 (v := ?_) ?_ (.mk' S0 trivial) ?_
      rotate_left
      · intro W hS; go_simp; all_goals with_reducible rfl
      try simp only [sI, sS, sZ]
      refine rkA 1 66 3 (v := ?_) ?_ (.mk' S0 trivial) ?_
      rotate_left
      · intro W hS; have c0 := cellL hS C2 (by simp); go_simp; all_goals with_reducible rfl
      try simp only [sI, sS, sZ]
      refine rkA 2 67 7 (v := ?_) ?_ (.mk' S0 trivial) ?_
      rotate_left
      · intro W hS; go_simp; all_goals with_reducible rfl
      try simp only [sI, sS, sZ]
      refine rkA 3 68 15 (v := ?_) ?_ (.mk' S0 trivial) ?_
      rotate_left
      · intro W hS; go_simp; all_goals with_reducible rfl
      try simp only [sI, sS, sZ]
      refine rkY 4 69 31 rfl (yieldsIf_load_mid (by rfl) _ _ rfl b (off + i * 32) (by rfl) (bvs x) _ (fun W hS => rangeV hS r1) Tryz.underlying53 rfl hz1) (.mk' S0 trivial) ?_
      try simp only [sI, sS, sZ]
      refine rkA 5 70 63 (v := ?_) ?_ (.mk' S0 trivial) ?_
      rotate_left
      · intro W hS; go_simp; all_goals with_reducible rfl
      try simp only [sI, sS, sZ]
      refine rkA 6 71 127 (v := ?_) ?_ (.mk' S0 trivial) ?_
      rotate_left
      · intro W hS; have c0 := cellL hS D2 (by simp); go_simp; all_goals with_reducible rfl
      try simp only [sI, sS, sZ]
      refine rkA 7 72 255 (v := ?_) ?_ (.mk' S0 trivial) ?_
      rotate_left
      · intro W hS; go_simp; all_goals with_reducible rfl
      try simp only [sI, sS, sZ]
      refine rkA 8 73 511 (v := ?_) ?_ (.mk' S0 trivial) ?_
      rotate_left
      · intro W hS; go_simp; all_goals with_reducible rfl
      try simp only [sI, sS, sZ]
      refine rkY 9 74 1023 rfl (yieldsIf_load_mid (by rfl) _ _ rfl b' (off' + i * 32) (by rfl) (bvs x) _ (fun W hS => rangeV hS r2) Tryz.underlying53 rfl hz1) (.mk' S0 trivial) ?_
      try simp only [sI, sS, sZ]
      refine rkY 10 75 2047 rfl (yields_neqS (by rfl) _ _ _ _ rfl (by kernel_rfl) (bvs x).toArray HEQ.out (by rfl) (by rfl)) (.mk' S0 trivial) ?_
      try simp only [sI, sS, sZ]
      refine rkZ ?_
      clear C2 D2 r1 r2 S0 q6
      go_wp2_with fail
      go_roundw
      case rel => exact ⟨i + 1, by omega, by go_num, HTR.out⟩
      case measure => (simp [intOf] <;> omega)
    · obtain rfl : nR = i := by omega
      have e8 := cellV tr c8
      have f8 := cellV tr d8
      have HT1 := Lib.hid tr
      clear tr hi hlt
      go_wp2_with fail
      go_loopw [6] (fun u wv => ∃ i : Nat, i ≤ nE ∧ u = .int .i64 i ∧ Turns [] wr wv) (fun u _ => nE - (intOf u).toNat)
      case atStart => exact ⟨0, by omega, rfl, Turns.refl _ _⟩
      case round =>
        rename World => wv
        obtain ⟨i, hi, rfl, tr⟩ := hrel
        have q8 := cellV tr e8
        by_cases hlt : i < nE
        · have hii : (i : Int) < (nE : Int) := by omega
          have hil : i < r.ents.length := by have := HN.out.2; omega
          obtain ⟨b, off, rfl, _, rg⟩ := HR.out.1.ents.at_ hil
          obtain ⟨b', off', rfl, _, rg'⟩ := HR.out.2.1.ents.at_ hil
          have hxl : (r.ents[i]).length = 32 := HR.out.1.ents.all _ (List.getElem_mem hil)
          obtain ⟨x, hx⟩ : ∃ x, x = r.ents[i] := ⟨_, rfl⟩
          rw [← hx] at rg rg' hxl
          have HEQ := Lib.hid (eqlS x hxl)
          have hz1 : (Tryz.prog.info? 53).map (·.size) = some (bvs x).length := by rw [bvs_length, hxl]; exact size_hash
          obtain ⟨Y, hY⟩ : ∃ q, q = wv.drew := ⟨_, rfl⟩
          have tY : Turns [] wv Y := by rw [hY]; exact (Turns.refl _ _).drew
          have HYY := Lib.hid hY
          have tyY := tr.trans tY (by simp)
          have C2 := cellV tyY e8
          have D2 := cellV tyY f8
          have t2Y := HT1.out.trans tyY (by simp)
          have r1 := rangeV t2Y rg
          have r2 := rangeV t2Y rg'
          have HTR := Lib.hid tyY
          have S0 : Turns [] Y Y := Turns.refl _ _
          clear hY tY tyY t2Y rg rg' hx hxl tr hil
          go_upto_region 11 with fail
          refine rk0 (fun W => Turns [] Y W) (fun _ => True) 11 11 ?_
          rw [← HYY.out]
          refine rkA 0 83 1 (v := ?_) ?_ (.mk' S0 trivial) ?_
          rotate_left
          · intro W hS; go_simp; all_goals with_reducible rfl
          try simp only [sI, sS, sZ]
          refine rkA 1 84 3 (v := ?_) ?_ (.mk' S0 trivial) ?_
          rotate_left
          · intro W hS; have c0 := cellL hS C2 (by simp); go_simp; all_goals with_reducible rfl
          try simp only [sI, sS, sZ]
          refine rkA 2 85 7 (v := ?_) ?_ (.mk' S0 trivial) ?_
          rotate_left
          · intro W hS; go_simp; all_goals with_reducible rfl
          try simp only [sI, sS, sZ]
          refine rkA 3 86 15 (v := ?_) ?_ (.mk' S0 trivial) ?_
          rotate_left
          · intro W hS; go_simp; all_goals with_reducible rfl
          try simp only [sI, sS, sZ]
          refine rkY 4 87 31 rfl (yieldsIf_load_mid (by rfl) _ _ rfl b (off + i * 32) (by rfl) (bvs x) _ (fun W hS => rangeV hS r1) Tryz.underlying53 rfl hz1) (.mk' S0 trivial) ?_
          try simp only [sI, sS, sZ]
          refine rkA 5 88 63 (v := ?_) ?_ (.mk' S0 trivial) ?_
          rotate_left
          · intro W hS; go_simp; all_goals with_reducible rfl
          try simp only [sI, sS, sZ]
          refine rkA 6 89 127 (v := ?_) ?_ (.mk' S0 trivial) ?_
          rotate_left
          · intro W hS; have c0 := cellL hS D2 (by simp); go_simp; all_goals with_reducible rfl
          try simp only [sI, sS, sZ]
          refine rkA 7 90 255 (v := ?_) ?_ (.mk' S0 trivial) ?_
          rotate_left
          · intro W hS; go_simp; all_goals with_reducible rfl
          try simp only [sI, sS, sZ]
          refine rkA 8 91 511 (v := ?_) ?_ (.mk' S0 trivial) ?_
          rotate_left
          · intro W hS; go_simp; all_goals with_reducible rfl
          try simp only [sI, sS, sZ]
          refine rkY 9 92 1023 rfl (yieldsIf_load_mid (by rfl) _ _ rfl b' (off' + i * 32) (by rfl) (bvs x) _ (fun W hS => rangeV hS r2) Tryz.underlying53 rfl hz1) (.mk' S0 trivial) ?_
          try simp only [sI, sS, sZ]
          refine rkY 10 93 2047 rfl (yields_neqS (by rfl) _ _ _ _ rfl (by kernel_rfl) (bvs x).toArray HEQ.out (by rfl) (by rfl)) (.mk' S0 trivial) ?_
          try simp only [sI, sS, sZ]
          refine rkZ ?_
          clear C2 D2 r1 r2 S0 q8
          go_wp2_with fail
          go_roundw
          case rel => exact ⟨i + 1, by omega, by go_num, HTR.out⟩
          case measure => (simp [intOf] <;> omega)
        · obtain rfl : nE = i := by omega
          have t2v := HT1.out.trans tr (by simp)
          have rC := rangeV t2v RC
          have rD := rangeV t2v RD
          have hr2 := HR.out.1.on t2v
          have hr3 := HR.out.2.1.on t2v
          obtain ⟨q1, hq1⟩ : ∃ x, x = wv.heap.size := ⟨_, rfl⟩
          obtain ⟨v1, hv1⟩ : ∃ x, x = wv.alloc (.cells #[.string r.c.table, .int .i64 r.c.op, .slice A1 nC k1] 67) := ⟨_, rfl⟩
          obtain ⟨q2, hq2⟩ : ∃ x, x = q1 + 1 := ⟨_, rfl⟩
          have hq2v : q2 = v1.heap.size := by rw [hq2, hv1, hq1]; simp
          obtain ⟨v2, hv2⟩ : ∃ x, x = v1.alloc (.cells #[.int .i64 0, .slice (some ⟨q1, 0, none⟩) 1 1] 45) := ⟨_, rfl⟩
          obtain ⟨q3, hq3⟩ : ∃ x, x = v2.heap.size := ⟨_, rfl⟩
          obtain ⟨v3, hv3⟩ : ∃ x, x = v2.alloc (.cells #[.string r.c.table, .int .i64 r.c.op, .slice B1 nC j1] 67) := ⟨_, rfl⟩
          obtain ⟨q4, hq4⟩ : ∃ x, x = q3 + 1 := ⟨_, rfl⟩
          have hq4v : q4 = v3.heap.size := by rw [hq4, hv3, hq3]; simp
          obtain ⟨v4, hv4⟩ : ∃ x, x = v3.alloc (.cells #[.int .i64 0, .slice (some ⟨q3, 0, none⟩) 1 1] 45) := ⟨_, rfl⟩
          have s1 : Turns [] wv v1 := by rw [hv1]; exact (Turns.refl _ _).alloc _
          have s2 : Turns [] v1 v2 := by rw [hv2]; exact (Turns.refl _ _).alloc _
          have s3 : Turns [] v2 v3 := by rw [hv3]; exact (Turns.refl _ _).alloc _
          have s4 : Turns [] v3 v4 := by rw [hv4]; exact (Turns.refl _ _).alloc _
          have g1 := chg_lit (by rw [← HNC.out]; have := hr2.row; rw [← HNC.out] at this; exact this : Sl wv wv.heap.size 3 (.slice A1 nC k1) r.c.row.length (valCells r.c.row))
          rw [← hv1, ← hq1] at g1
          have g2 := tx_lit1 (id := 0) g1
          rw [← hv2, ← hq2v] at g2
          have g3 := chg_lit (by have h := (hr3.on ((s1.trans s2 (by simp)))).row; exact h : Sl v2 v2.heap.size 3 (.slice B1 nC j1) r.c.row.length (valCells r.c.row))
          rw [← hv3, ← hq3] at g3
          have g4 := tx_lit1 (id := 0) g3
          rw [← hv4, ← hq4v] at g4
          have hto : ∀ t ∈ [(⟨0, [r.c]⟩ : Txn)], t.ok := by
            intro t ht
            simp at ht
            subst ht
            exact ⟨⟨by show (-9223372036854775808 : Int) ≤ 0; omega, by show (0 : Int) ≤ _; omega⟩, by show (1 : Nat) ≤ 1000; omega, by intro c hc; simp at hc; subst hc; exact HR.out.2.2⟩
          have SX := Lib.hid (SameTxs_same [⟨0, [r.c]⟩] (by simp) hto _ _ _ _ v4 (g2.keep TxR.lasts ((s3.trans s4 (by simp)).keeps0 _)) g4)
          have rD := rangeV (s1.trans s2 (by simp)) rD
          have HV := Lib.hid (And.intro hv1 (And.intro hv2 (And.intro hv3 (And.intro hv4 (And.intro hq1 (And.intro hq2 (And.intro hq3 hq4)))))))
          have HE := Lib.hid (((HT.out.trans t2v (by simp)).trans (s1.trans s2 (by simp)) (by simp)).trans (s3.trans s4 (by simp)) (by simp))
          clear tr hi hlt t2v hr2 hr3 hv1 hv2 hv3 hv4 hq1 hq2 hq3 hq4 hq2v hq4v s1 s2 s3 s4 g1 g2 g3 g4 hto
          go_wp2_with (first
            | (refine wpList_load_mid rfl 67 (.tmp 94) rfl p1 3 rfl _ _ rC Tryz.underlying67 rfl hzc ?_)
            | (rw [← HV.out.1, ← HV.out.2.2.2.2.1, ← HV.out.2.1, ← HV.out.2.2.2.2.2.1]; refine wpList_load_mid rfl 67 (.tmp 99) rfl p2 3 rfl _ _ rD Tryz.underlying67 rfl hzd ?_)
            | fail)
          rw [← HV.out.2.2.1, ← HV.out.2.2.2.2.2.2.1, ← HV.out.2.2.2.1, ← HV.out.2.2.2.2.2.2.2]
          refine SX.out.mono ?_
          rintro e v5 ⟨rfl, s5⟩
          have HF := Lib.hid (HE.out.trans s5 (by simp))
          clear s5 SX
          go_wp2_with fail
          go_ret
          exact ⟨rfl, HF.out⟩
end Go.Proofs.YtoahnhphfabajaaGreat
