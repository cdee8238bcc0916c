/- Receipts: checked. -/
import Derived.Test.YtoahnhphfabajaaGreatRc0
import Derived.Test.YtoahnhphfabajaaGreatNdk
namespace Go.Proofs.YtoahnhphfabajaaGreat
open Go.RowKit
set_option linter.unusedVariables false
set_option maxRecDepth 10000
set_option linter.unusedSimpArgs false
set_option linter.unnecessarySimpa false

/-- A receipt. -/
structure Rec where
  tx : Int
  seq : Nat
  chgs : Nat
  c : Chg
  rows : List (List UInt8)
  place : Nat
  ents : List (List UInt8)
  blk : Blo
def recCells (r : Rec) (rv hv ev : Value) : List Value := [.int .i64 r.tx, .int .i64 r.seq, .int .i64 r.chgs, .string r.c.table, .int .i64 r.c.op, rv, hv, .int .i64 r.place, ev] ++ r.blk.cells
structure Rec.ok (r : Rec) : Prop where
  chg : r.c.ok
  blk : r.blk.ok
  seq : r.seq < r.chgs
  chgs : r.chgs ≤ 1000
  rows : (mway r.seq r.chgs).length = r.rows.length
  ents : r.ents.length ≤ 1000
structure RecR (w : World) (r : Rec) (rv hv ev : Value) : Prop where
  row : Sl w w.heap.size 3 rv r.c.row.length (valCells r.c.row)
  rows : Hs w w.heap.size hv r.rows
  ents : Hs w w.heap.size ev r.ents
theorem RecR.on {w w' : World} {r : Rec} {rv hv ev : Value} (h : RecR w r rv hv ev) (t : Turns [] w w') : RecR w' r rv hv ev :=
  ⟨(t.slice h.row (Nat.le_refl _) (by simp)).more t.size, (h.rows.turns t (Nat.le_refl _) (by simp)).more t.size, (h.ents.turns t (Nat.le_refl _) (by simp)).more t.size⟩
theorem recCells_len {r : Rec} (h : r.blk.ok) (rv hv ev : Value) : (recCells r rv hv ev).length = 75 := by
  unfold recCells
  rw [List.length_append, Blo.cells_len h]; rfl
theorem recCells_one (r : Rec) {rv hv ev : Value} (h1 : rv.oneCell' = true) (h2 : hv.oneCell' = true) (h3 : ev.oneCell' = true) : ∀ u ∈ recCells r rv hv ev, u.oneCell' = true := by
  intro u hu
  rcases List.mem_append.1 hu with hu | hu
  · simp at hu
    rcases hu with rfl | rfl | rfl | rfl | rfl | rfl | rfl | rfl | rfl <;> first | rfl | assumption
  · exact Blo.cells_one _ u hu
theorem rec_blk {w : World} {p : Nat} {r : Rec} {rv hv ev : Value} {t : TypeId} (hb : Blk w p (recCells r rv hv ev) t) : w.rangeAt p 9 r.blk.cells := fun j v hj => by
  have := hb.cell (9 + j)
  rw [this]
  unfold recCells
  rw [List.getElem?_append_right (by simp), show 9 + j - [Value.int .i64 r.tx, .int .i64 r.seq, .int .i64 r.chgs, .string r.c.table, .int .i64 r.c.op, rv, hv, .int .i64 r.place, ev].length = j by simp]
  exact hj
/-- The parts of a block's cells. -/
theorem blo_part {w : World} {b o : Nat} {x : Blo} (hx : x.ok) (h : w.rangeAt b o x.cells) : w.cell? ⟨b, o, none⟩ = some (.int .i64 x.n) ∧ w.rangeAt b (o + 33) (bvs x.root) ∧ w.cell? ⟨b, o + 65, none⟩ = some (.int .i64 x.cnt) :=
  ⟨h 0 _ rfl, fun i v hv => by rw [Nat.add_assoc]; exact h _ v (Blo.getR hx i v hv), h 65 _ (Blo.get65 hx)⟩
theorem CInt2 {w : World} {v : Value} {bs : List UInt8} (n : Int) (h : Sl w w.heap.size 1 v bs.length (bvs bs)) (hm : bs.length ≤ 1000000000) :
    Calls Tryz.prog 55 #[v, .int .i64 n] w fun e w' => ∃ v', e = .returned v' ∧ Mine w w' v' (bs ++ le8 n) :=
  (Int_any v bs.length bs n w h hm).mono fun e w' ⟨v', he, ho, hb⟩ => ⟨v', he, mine_new (Turns.refl [] w) ho hb⟩
theorem mine_append2 {W0 w : World} {v : Value} {bs : List UInt8} (h : Mine W0 w v bs) {B : Nat} {x : Value} {cs : List UInt8} (hx : Sl w B 1 x cs.length (bvs cs)) (hm : bs.length + cs.length ≤ 2000000000) (ty : TypeId) :
    ∃ v' w', (Builtin.append_ #[129, 129] ty #[v, x]).run Tryz.prog w = .ok v' w' ∧ Mine W0 w' v' (bs ++ cs) ∧ Turns v.ownBlock.toList w w' := by
  obtain ⟨v1, w1, hr1, ap1⟩ := run_append_rd (P := Tryz.prog) w T8 ty h.own hx (bvs_one _) (by simp only [maxLen]; omega) (by omega) h.turns.size
  rw [← bvs_append] at ap1
  exact ⟨v1, w1, hr1, mine_apd h ap1, Turns.of_grown ap1.grown (by intro k hk; exact .inl (by simpa using hk))⟩
set_option maxRecDepth 100000 in
set_option maxHeartbeats 8000000 in
theorem Check_yes (r : Rec) (hr : r.ok) (rv hv ev : Value) (w0 : World) (h : RecR w0 r rv hv ev) :
    Calls Tryz.prog 28 #[.agg (recCells r rv hv ev).toArray, .agg (digCells r.blk.n (bloH r.blk)).toArray] w0 fun e w' => e = .returned (.bool (mcheckZ r.blk.root (leafH (entText r.tx r.chgs (mled (chgSum r.tx r.seq r.c) r.seq r.chgs r.rows))) r.place r.blk.cnt r.ents)) ∧ Turns [] w0 w' := by
  obtain ⟨dn, hdn⟩ : ∃ n, n = r.blk.n := ⟨_, rfl⟩
  obtain ⟨dh, hdh⟩ : ∃ n, n = bloH r.blk := ⟨_, rfl⟩
  have hd : dh.length = 32 := by rw [hdh]; exact bloH_len _
  rw [← hdn, ← hdh]
  obtain ⟨cs, hcs⟩ : ∃ c, c = recCells r rv hv ev := ⟨_, rfl⟩
  obtain ⟨ds, hds⟩ : ∃ c, c = digCells dn dh := ⟨_, rfl⟩
  rw [← hcs, ← hds]
  obtain ⟨p2, hp2⟩ : ∃ q, q = w0.heap.size := ⟨_, rfl⟩
  obtain ⟨x1, hx1⟩ : ∃ x, x = w0.alloc (.cells cs.toArray 72) := ⟨_, rfl⟩
  have b2 := Blk.new w0 cs 72
  rw [← hx1, ← hp2] at b2
  have hs1 : x1.heap.size = p2 + 1 := by rw [hx1, hp2]; simp
  have t1 : Turns [] w0 x1 := by rw [hx1]; exact (Turns.refl _ _).alloc _
  obtain ⟨p3, hp3⟩ : ∃ q, q = p2 + 1 := ⟨_, rfl⟩
  obtain ⟨x2, hx2⟩ : ∃ x, x = x1.alloc (.cells ds.toArray 55) := ⟨_, rfl⟩
  have b3 := Blk.new x1 ds 55
  rw [← hx2, hs1, ← hp3] at b3
  have t2 : Turns [] x1 x2 := by rw [hx2]; exact (Turns.refl _ _).alloc _
  have HX := Lib.hid (And.intro hx1 (And.intro hx2 (And.intro hp2 hp3)))
  obtain ⟨Y, hY⟩ : ∃ q, q = x2.drew := ⟨_, rfl⟩
  have tY : Turns [] x2 Y := by rw [hY]; exact (Turns.refl _ _).drew
  have HYY := Lib.hid hY
  have b2Y := (b2.turns t2 (by simp)).turns tY (by simp)
  have b3Y := b3.turns tY (by simp)
  rw [hcs] at b2Y
  rw [hds] at b3Y
  have B9 := (blo_part hr.blk (rec_blk b2Y)).1
  have D0 : Y.cell? ⟨p3, 0, none⟩ = some (.int .i64 dn) := b3Y.cell 0
  have H0 := Lib.hid (t1.trans t2 (by simp))
  have HTY := Lib.hid tY
  have HBB := Lib.hid (And.intro b2Y b3Y)
  have HR := Lib.hid (And.intro hr h)
  have S0 : Turns [] Y Y := Turns.refl _ _
  clear hp2 hx1 b2 hs1 t1 hp3 hx2 b3 t2 hY tY b2Y b3Y hcs hds hr h
  obtain ⟨zz, hzz⟩ : ∃ z, z = bvs (zeros 32) := ⟨_, rfl⟩
  have hzl : zz.length = 32 := by rw [hzz, bvs_length, zeros_length]
  have hz32 := zero_hash
  rw [← hzz] at hz32
  rw [← hdn] at B9
  obtain ⟨bcs, hbcs⟩ : ∃ c, c = r.blk.cells := ⟨_, rfl⟩
  have hbl : bcs.length = 66 := by rw [hbcs]; exact Blo.cells_len HR.out.1.blk
  have FH := Lib.hid (show ∀ W, Calls Tryz.prog 29 #[.agg bcs.toArray] W fun e w' => e = .returned (.agg (bvs dh).toArray) ∧ Turns [] W w' by rw [hbcs, hdh]; exact fun W => CHash_any r.blk HR.out.1.blk W)
  have RB := rec_blk HBB.out.1
  rw [← hbcs] at RB
  have RD : Y.rangeAt p3 1 (bvs dh) := fun j v hv => by rw [Nat.add_comm 1 j]; exact (HBB.out.2.cell (j + 1)).trans (by simpa [digCells] using hv)
  have eqb := eqlS dh hd
  have hzh : (Tryz.prog.info? 53).map (·.size) = some (bvs dh).length := by rw [size_hash, bvs_length, hd]
  have hzb := size_blo bcs hbl
  obtain ⟨lf, hlf⟩ : ∃ x, x = chgSum r.tx r.seq r.c := ⟨_, rfl⟩
  obtain ⟨rt, hrt⟩ : ∃ x, x = mled lf r.seq r.chgs r.rows := ⟨_, rfl⟩
  obtain ⟨en, hen⟩ : ∃ x, x = leafH (entText r.tx r.chgs rt) := ⟨_, rfl⟩
  have hlfl : lf.length = 32 := by rw [hlf]; exact chgSum_len _ _ _
  have hrtl : rt.length = 32 := by rw [hrt]; exact fold2_len lf hlfl _
  have henl : en.length = 32 := by rw [hen]; exact sha_len _
  have HEN := Lib.hid (show mcheckZ r.blk.root (leafH (entText r.tx r.chgs (mled (chgSum r.tx r.seq r.c) r.seq r.chgs r.rows))) r.place r.blk.cnt r.ents = mcheckZ r.blk.root en r.place r.blk.cnt r.ents by rw [hen, hrt, hlf])
  have HLL := Lib.hid (And.intro hlfl (And.intro hrtl henl))
  have HRT := Lib.hid (And.intro (show zz.length = (bvs rt).length by rw [hzl, bvs_length, hrtl]) (show (Tryz.prog.info? 53).map (·.size) = some (bvs rt).length by rw [size_hash, bvs_length, hrtl]))
  have HET := Lib.hid (And.intro (show zz.length = (bvs en).length by rw [hzl, bvs_length, henl]) (show (Tryz.prog.info? 53).map (·.size) = some (bvs en).length by rw [size_hash, bvs_length, henl]))
  obtain ⟨Ah, ch, rfl, _, _⟩ := HR.out.2.rows.form
  obtain ⟨Ae, ce, rfl, _, _⟩ := HR.out.2.ents.form
  have FR := Lib.hid (show ∀ W, Turns [] w0 W → Calls Tryz.prog 47 #[.int .i64 r.tx, .int .i64 r.seq, .agg #[.string r.c.table, .int .i64 r.c.op, rv]] W fun e w' => e = .returned (.agg (bvs lf).toArray) ∧ Turns [] W w' by rw [hlf]; exact fun W t => CRow_any r.tx r.seq r.c HR.out.1.chg rv W (HR.out.2.on t).row)
  have FL := Lib.hid (show ∀ W, Turns [] w0 W → Calls Tryz.prog 53 #[.agg (bvs lf).toArray, .int .i64 r.seq, .int .i64 r.chgs, .slice Ah r.rows.length ch] W fun e w' => e = .returned (.tuple #[.agg (bvs rt).toArray, .bool true]) ∧ Turns [] W w' by rw [hrt]; exact fun W t => led_in lf hlfl r.seq r.chgs HR.out.1.seq (by have := HR.out.1.chgs; omega) r.rows _ rfl HR.out.1.rows Ah ch _ W (HR.out.2.on t).rows (Nat.le_refl _))
  have HEB := Lib.hid (show [] ++ le8 r.tx ++ le8 r.chgs ++ rt = entText r.tx r.chgs rt by simp [entText])
  have HEL := Lib.hid (show (entText r.tx r.chgs rt).length ≤ 100000000 by simp [entText, le8_length, hrtl])
  have HLF := Lib.hid hen
  clear hdn hdh hd hzz hzl hbcs hbl hlf hrt hen hlfl hrtl henl
  go_enter Tryz.func28, Tryz.ntmps28
  go_upto_region 1 with fail
  rw [← HX.out.1, ← HX.out.2.1, ← HX.out.2.2.1, ← HX.out.2.2.2]
  refine rk0 (fun W => Turns [] Y W) (fun _ => True) 14 14 ?_
  rw [← HYY.out]
  refine rkA 0 8 1 (v := ?_) ?_ (.mk' S0 trivial) ?_
  rotate_left
  · intro W hS; go_simp; all_goals with_reducible rfl
  try simp only [sI, sS, sZ]
  refine rkA 1 9 3 (v := ?_) ?_ (.mk' S0 trivial) ?_
  rotate_left
  · intro W hS; have c0 := cellL hS D0 (by simp); go_simp; all_goals with_reducible rfl
  try simp only [sI, sS, sZ]
  refine rkA 2 10 7 (v := ?_) ?_ (.mk' S0 trivial) ?_
  rotate_left
  · intro W hS; go_simp; all_goals with_reducible rfl
  try simp only [sI, sS, sZ]
  refine rkA 3 11 15 (v := ?_) ?_ (.mk' S0 trivial) ?_
  rotate_left
  · intro W hS; go_simp; all_goals with_reducible rfl
  try simp only [sI, sS, sZ]
  refine rkA 4 12 31 (v := ?_) ?_ (.mk' S0 trivial) ?_
  rotate_left
  · intro W hS; have c0 := cellL hS B9 (by simp); go_simp; all_goals with_reducible rfl
  try simp only [sI, sS, sZ]
  refine rkA 5 13 63 (v := ?_) ?_ (.mk' S0 trivial) ?_
  rotate_left
  · intro W hS; go_simp; all_goals with_reducible rfl
  try simp only [sI, sS, sZ]
  refine rkA 6 14 127 (v := ?_) ?_ (.mk' S0 trivial) ?_
  rotate_left
  · intro W hS; go_simp; all_goals with_reducible rfl
  try simp only [sI, sS, sZ]
  refine rkA 7 15 255 (v := ?_) ?_ (.mk' S0 trivial) ?_
  rotate_left
  · intro W hS; go_simp; all_goals with_reducible rfl
  try simp only [sI, sS, sZ]
  refine rkY 8 16 511 rfl (yieldsIf_load_mid (by rfl) _ _ rfl p3 1 (by rfl) (bvs dh) _ (fun W hS => rangeV hS RD) Tryz.underlying53 rfl hzh) (.mk' S0 trivial) ?_
  try simp only [sI, sS, sZ]
  refine rkA 9 17 1023 (v := ?_) ?_ (.mk' S0 trivial) ?_
  rotate_left
  · intro W hS; go_simp; all_goals with_reducible rfl
  try simp only [sI, sS, sZ]
  refine rkY 10 18 2047 rfl (yieldsIf_load_mid (by rfl) _ _ rfl p2 9 (by rfl) bcs _ (fun W hS => rangeV hS RB) Tryz.underlying70 rfl hzb) (.mk' S0 trivial) ?_
  try simp only [sI, sS, sZ]
  refine rk1 11 4095 (fun K hK => ?_)
  go_simp
  refine (FH.out Y).mono ?_
  rintro e X19 ⟨rfl, D19⟩
  refine hK _ _ (.mk' ((Turns.refl [] Y).trans D19 (by simp)) trivial) ?_
  clear hK K
  try simp only [sI, sS, sZ]
  refine rkA 12 20 8191 (v := ?_) ?_ (.mk' ((Turns.refl [] Y).trans D19 (by simp)) trivial) ?_
  rotate_left
  · intro W hS; go_simp; all_goals with_reducible rfl
  try simp only [sI, sS, sZ]
  refine rkA 13 21 16383 (v := ?_) ?_ (.mk' ((Turns.refl [] Y).trans D19 (by simp)) trivial) ?_
  rotate_left
  · intro W hS; go_simp; all_goals with_reducible rfl
  try simp only [sI, sS, sZ]
  refine rkZ ?_
  have H1 := Lib.hid (show Turns [] Y X19 from ((Turns.refl [] Y).trans D19 (by simp)))
  go_wp2_with fail
  clear B9 D0 RB RD eqb hzh hzb S0 FH
  obtain ⟨V, hV⟩ : ∃ q, q = X19.drew := ⟨_, rfl⟩
  have tV : Turns [] X19 V := by rw [hV]; exact (Turns.refl _ _).drew
  have HVV := Lib.hid hV
  have t0V : Turns [] w0 V := ((H0.out.trans HTY.out (by simp)).trans H1.out (by simp)).trans tV (by simp)
  have b2V := HBB.out.1.turns (H1.out.trans tV (by simp)) (by simp)
  have B0 : V.cell? ⟨p2, 0, none⟩ = some (.int .i64 r.tx) := b2V.cell 0
  have B1 : V.cell? ⟨p2, 1, none⟩ = some (.int .i64 r.seq) := b2V.cell 1
  have B2 : V.cell? ⟨p2, 2, none⟩ = some (.int .i64 r.chgs) := b2V.cell 2
  have B6 : V.cell? ⟨p2, 6, none⟩ = some (.slice Ah r.rows.length ch) := b2V.cell 6
  have RC : V.rangeAt p2 3 [.string r.c.table, .int .i64 r.c.op, rv] := fun j v hv => by
    have hj := (List.getElem?_eq_some_iff.1 hv).1
    refine (b2V.cell (3 + j)).trans ?_
    rw [← hv]
    rcases j with _ | _ | _ | j
    · rfl
    · rfl
    · rfl
    · simp at hj; omega
  have hzc := size_chg r.c.table r.c.op rv
  have HTV := Lib.hid t0V
  have HB2 := Lib.hid b2V
  have S0 : Turns [] V V := Turns.refl _ _
  clear hV tV t0V b2V
  go_upto_region 3 with fail
  go_cut [5, 6] (fun u5 u6 wy => ∃ g, u5 = .pointer (some ⟨g, 0, none⟩) ∧ u6 = .bool true ∧ Blk wy g (bvs rt) 53 ∧ Turns [] V wy)
  case first =>
    refine rk0 (fun W => Turns [] V W) (fun _ => True) 20 20 ?_
    rw [← HVV.out]
    refine rkA 0 23 1 (v := ?_) ?_ (.mk' S0 trivial) ?_
    rotate_left
    · intro W hS; go_simp; all_goals with_reducible rfl
    try simp only [sI, sS, sZ]
    refine rkA 1 24 3 (v := ?_) ?_ (.mk' S0 trivial) ?_
    rotate_left
    · intro W hS; have c0 := cellL hS B0 (by simp); go_simp; all_goals with_reducible rfl
    try simp only [sI, sS, sZ]
    refine rkA 2 25 7 (v := ?_) ?_ (.mk' S0 trivial) ?_
    rotate_left
    · intro W hS; go_simp; all_goals with_reducible rfl
    try simp only [sI, sS, sZ]
    refine rkA 3 26 15 (v := ?_) ?_ (.mk' S0 trivial) ?_
    rotate_left
    · intro W hS; have c0 := cellL hS B1 (by simp); go_simp; all_goals with_reducible rfl
    try simp only [sI, sS, sZ]
    refine rkA 4 27 31 (v := ?_) ?_ (.mk' S0 trivial) ?_
    rotate_left
    · intro W hS; go_simp; all_goals with_reducible rfl
    try simp only [sI, sS, sZ]
    refine rkY 5 28 63 rfl (yieldsIf_load_mid (by rfl) _ _ rfl p2 3 (by rfl) [.string r.c.table, .int .i64 r.c.op, rv] _ (fun W hS => rangeV hS RC) Tryz.underlying67 rfl hzc) (.mk' S0 trivial) ?_
    try simp only [sI, sS, sZ]
    refine rkA 7 30 191 (v := ?_) ?_ (.mk' S0 trivial) ?_
    rotate_left
    · intro W hS; go_simp; all_goals with_reducible rfl
    try simp only [sI, sS, sZ]
    refine rkA 8 31 447 (v := ?_) ?_ (.mk' S0 trivial) ?_
    rotate_left
    · intro W hS; have c0 := cellL hS B1 (by simp); go_simp; all_goals with_reducible rfl
    try simp only [sI, sS, sZ]
    refine rkA 9 32 959 (v := ?_) ?_ (.mk' S0 trivial) ?_
    rotate_left
    · intro W hS; go_simp; all_goals with_reducible rfl
    try simp only [sI, sS, sZ]
    refine rkA 10 33 1983 (v := ?_) ?_ (.mk' S0 trivial) ?_
    rotate_left
    · intro W hS; have c0 := cellL hS B2 (by simp); go_simp; all_goals with_reducible rfl
    try simp only [sI, sS, sZ]
    refine rkA 11 34 4031 (v := ?_) ?_ (.mk' S0 trivial) ?_
    rotate_left
    · intro W hS; go_simp; all_goals with_reducible rfl
    try simp only [sI, sS, sZ]
    refine rkA 12 35 8127 (v := ?_) ?_ (.mk' S0 trivial) ?_
    rotate_left
    · intro W hS; have c0 := cellL hS B6 (by simp); go_simp; all_goals with_reducible rfl
    try simp only [sI, sS, sZ]
    refine rk2 6 17 8191 139199 (fun K hK => ?_) (fun K hK => ?_)
    · go_simp
      refine (FR.out V (HTV.out.trans (Turns.refl [] V) (by simp))).mono ?_
      rintro e X29 ⟨rfl, D29⟩
      refine hK _ _ (.mk' ((Turns.refl [] V).trans D29 (by simp)) trivial) ?_
      clear hK K
      try simp only [sI, sS, sZ]
      refine rk2 13 17 16383 139263 (fun K hK => ?_) (fun K hK => ?_)
      · go_simp
        refine (FL.out X29 (HTV.out.trans ((Turns.refl [] V).trans D29 (by simp)) (by simp))).mono ?_
        rintro e X36 ⟨rfl, D36⟩
        refine hK _ _ (.mk' (((Turns.refl [] V).trans D29 (by simp)).trans D36 (by simp)) trivial) ?_
        clear hK K
        try simp only [sI, sS, sZ]
        refine rkA 14 22 32767 (v := ?_) ?_ (.mk' (((Turns.refl [] V).trans D29 (by simp)).trans D36 (by simp)) trivial) ?_
        rotate_left
        · intro W hS; go_simp; all_goals with_reducible rfl
        try simp only [sI, sS, sZ]
        refine rkA 15 37 65535 (v := ?_) ?_ (.mk' (((Turns.refl [] V).trans D29 (by simp)).trans D36 (by simp)) trivial) ?_
        rotate_left
        · intro W hS; go_simp; all_goals with_reducible rfl
        try simp only [sI, sS, sZ]
        refine rkA 16 38 131071 (v := ?_) ?_ (.mk' (((Turns.refl [] V).trans D29 (by simp)).trans D36 (by simp)) trivial) ?_
        rotate_left
        · intro W hS; go_simp; all_goals with_reducible rfl
        try simp only [sI, sS, sZ]
        refine rk1 17 262143 (fun K hK => ?_)
        refine wp_alloc_arr 53 (by rfl) zz.toArray hz32 ?_
        have B5 := Blk.new X36 zz 53
        have D5 : Turns [] X36 (X36.alloc (.cells zz.toArray 53)) := (Turns.refl _ _).alloc _
        obtain ⟨g5, hg5⟩ : ∃ g, g = X36.heap.size := ⟨_, rfl⟩
        have G5 := Lib.hid (show V.heap.size ≤ g5 by rw [hg5]; exact (((Turns.refl [] V).trans D29 (by simp)).trans D36 (by simp)).size)
        rw [← hg5] at B5 ⊢
        have GL5 := Lib.hid (show X36.heap.size ≤ g5 ∧ g5 < (X36.alloc (.cells zz.toArray 53)).heap.size by rw [hg5]; simp)
        clear hg5
        generalize X36.alloc (.cells zz.toArray 53) = X5 at B5 D5 GL5 ⊢
        refine hK _ _ (.mk' ((((Turns.refl [] V).trans D29 (by simp)).trans D36 (by simp)).trans D5 (by simp)) trivial) ?_
        clear hK K
        try simp only [sI, sS, sZ]
        refine rk1 18 524287 (fun K hK => ?_)
        refine wp_store_blk 53 _ _ (by rfl) g5 (by rfl) (bvs rt) zz 53 (by rfl) (B5.turns (Turns.refl [] X5) (by simp)) HRT.out.1 HRT.out.2 (bvs_one _) (fun X18 hb18 ht18 => ?_)
        have D18 : Turns [] V X18 := ((((Turns.refl [] V).trans D29 (by simp)).trans D36 (by simp)).trans D5 (by simp)).trans ht18 (by intro x hx; simp at hx; exact .inr (by rw [hx]; exact G5.out))
        refine hK _ _ (.mk' D18 trivial) ?_
        clear hK K
        try simp only [sI, sS, sZ]
        refine rkA 19 6 1048575 (v := ?_) ?_ (.mk' D18 trivial) ?_
        rotate_left
        · intro W hS; go_simp; all_goals with_reducible rfl
        try simp only [sI, sS, sZ]
        refine rkZ ?_
        go_wp2_with fail
        go_meet
        exact ⟨g5, rfl, rfl, hb18, D18⟩
      · refine wp_alloc_arr 53 (by rfl) zz.toArray hz32 ?_
        have B5 := Blk.new X29 zz 53
        have D5 : Turns [] X29 (X29.alloc (.cells zz.toArray 53)) := (Turns.refl _ _).alloc _
        obtain ⟨g5, hg5⟩ : ∃ g, g = X29.heap.size := ⟨_, rfl⟩
        have G5 := Lib.hid (show V.heap.size ≤ g5 by rw [hg5]; exact ((Turns.refl [] V).trans D29 (by simp)).size)
        rw [← hg5] at B5 ⊢
        have GL5 := Lib.hid (show X29.heap.size ≤ g5 ∧ g5 < (X29.alloc (.cells zz.toArray 53)).heap.size by rw [hg5]; simp)
        clear hg5
        generalize X29.alloc (.cells zz.toArray 53) = X5 at B5 D5 GL5 ⊢
        refine hK _ _ (.mk' (((Turns.refl [] V).trans D29 (by simp)).trans D5 (by simp)) trivial) ?_
        clear hK K
        try simp only [sI, sS, sZ]
        refine rk1 13 147455 (fun K hK => ?_)
        go_simp
        refine (FL.out X5 (HTV.out.trans (((Turns.refl [] V).trans D29 (by simp)).trans D5 (by simp)) (by simp))).mono ?_
        rintro e X36 ⟨rfl, D36⟩
        refine hK _ _ (.mk' ((((Turns.refl [] V).trans D29 (by simp)).trans D5 (by simp)).trans D36 (by simp)) trivial) ?_
        clear hK K
        try simp only [sI, sS, sZ]
        refine rkA 14 22 163839 (v := ?_) ?_ (.mk' ((((Turns.refl [] V).trans D29 (by simp)).trans D5 (by simp)).trans D36 (by simp)) trivial) ?_
        rotate_left
        · intro W hS; go_simp; all_goals with_reducible rfl
        try simp only [sI, sS, sZ]
        refine rkA 15 37 196607 (v := ?_) ?_ (.mk' ((((Turns.refl [] V).trans D29 (by simp)).trans D5 (by simp)).trans D36 (by simp)) trivial) ?_
        rotate_left
        · intro W hS; go_simp; all_goals with_reducible rfl
        try simp only [sI, sS, sZ]
        refine rkA 16 38 262143 (v := ?_) ?_ (.mk' ((((Turns.refl [] V).trans D29 (by simp)).trans D5 (by simp)).trans D36 (by simp)) trivial) ?_
        rotate_left
        · intro W hS; go_simp; all_goals with_reducible rfl
        try simp only [sI, sS, sZ]
        refine rk1 18 524287 (fun K hK => ?_)
        refine wp_store_blk 53 _ _ (by rfl) g5 (by rfl) (bvs rt) zz 53 (by rfl) (B5.turns ((Turns.refl [] X5).trans D36 (by simp)) (by simp)) HRT.out.1 HRT.out.2 (bvs_one _) (fun X18 hb18 ht18 => ?_)
        have D18 : Turns [] V X18 := ((((Turns.refl [] V).trans D29 (by simp)).trans D5 (by simp)).trans D36 (by simp)).trans ht18 (by intro x hx; simp at hx; exact .inr (by rw [hx]; exact G5.out))
        refine hK _ _ (.mk' D18 trivial) ?_
        clear hK K
        try simp only [sI, sS, sZ]
        refine rkA 19 6 1048575 (v := ?_) ?_ (.mk' D18 trivial) ?_
        rotate_left
        · intro W hS; go_simp; all_goals with_reducible rfl
        try simp only [sI, sS, sZ]
        refine rkZ ?_
        go_wp2_with fail
        go_meet
        exact ⟨g5, rfl, rfl, hb18, D18⟩
    · refine wp_alloc_arr 53 (by rfl) zz.toArray hz32 ?_
      have B5 := Blk.new V zz 53
      have D5 : Turns [] V (V.alloc (.cells zz.toArray 53)) := (Turns.refl _ _).alloc _
      obtain ⟨g5, hg5⟩ : ∃ g, g = V.heap.size := ⟨_, rfl⟩
      have G5 := Lib.hid (show V.heap.size ≤ g5 by rw [hg5]; exact (Turns.refl [] V).size)
      rw [← hg5] at B5 ⊢
      have GL5 := Lib.hid (show V.heap.size ≤ g5 ∧ g5 < (V.alloc (.cells zz.toArray 53)).heap.size by rw [hg5]; simp)
      clear hg5
      generalize V.alloc (.cells zz.toArray 53) = X5 at B5 D5 GL5 ⊢
      refine hK _ _ (.mk' ((Turns.refl [] V).trans D5 (by simp)) trivial) ?_
      clear hK K
      try simp only [sI, sS, sZ]
      refine rk1 6 139263 (fun K hK => ?_)
      go_simp
      refine (FR.out X5 (HTV.out.trans ((Turns.refl [] V).trans D5 (by simp)) (by simp))).mono ?_
      rintro e X29 ⟨rfl, D29⟩
      refine hK _ _ (.mk' (((Turns.refl [] V).trans D5 (by simp)).trans D29 (by simp)) trivial) ?_
      clear hK K
      try simp only [sI, sS, sZ]
      refine rk1 13 147455 (fun K hK => ?_)
      go_simp
      refine (FL.out X29 (HTV.out.trans (((Turns.refl [] V).trans D5 (by simp)).trans D29 (by simp)) (by simp))).mono ?_
      rintro e X36 ⟨rfl, D36⟩
      refine hK _ _ (.mk' ((((Turns.refl [] V).trans D5 (by simp)).trans D29 (by simp)).trans D36 (by simp)) trivial) ?_
      clear hK K
      try simp only [sI, sS, sZ]
      refine rkA 14 22 163839 (v := ?_) ?_ (.mk' ((((Turns.refl [] V).trans D5 (by simp)).trans D29 (by simp)).trans D36 (by simp)) trivial) ?_
      rotate_left
      · intro W hS; go_simp; all_goals with_reducible rfl
      try simp only [sI, sS, sZ]
      refine rkA 15 37 196607 (v := ?_) ?_ (.mk' ((((Turns.refl [] V).trans D5 (by simp)).trans D29 (by simp)).trans D36 (by simp)) trivial) ?_
      rotate_left
      · intro W hS; go_simp; all_goals with_reducible rfl
      try simp only [sI, sS, sZ]
      refine rkA 16 38 262143 (v := ?_) ?_ (.mk' ((((Turns.refl [] V).trans D5 (by simp)).trans D29 (by simp)).trans D36 (by simp)) trivial) ?_
      rotate_left
      · intro W hS; go_simp; all_goals with_reducible rfl
      try simp only [sI, sS, sZ]
      refine rk1 18 524287 (fun K hK => ?_)
      refine wp_store_blk 53 _ _ (by rfl) g5 (by rfl) (bvs rt) zz 53 (by rfl) (B5.turns (((Turns.refl [] X5).trans D29 (by simp)).trans D36 (by simp)) (by simp)) HRT.out.1 HRT.out.2 (bvs_one _) (fun X18 hb18 ht18 => ?_)
      have D18 : Turns [] V X18 := ((((Turns.refl [] V).trans D5 (by simp)).trans D29 (by simp)).trans D36 (by simp)).trans ht18 (by intro x hx; simp at hx; exact .inr (by rw [hx]; exact G5.out))
      refine hK _ _ (.mk' D18 trivial) ?_
      clear hK K
      try simp only [sI, sS, sZ]
      refine rkA 19 6 1048575 (v := ?_) ?_ (.mk' D18 trivial) ?_
      rotate_left
      · intro W hS; go_simp; all_goals with_reducible rfl
      try simp only [sI, sS, sZ]
      refine rkZ ?_
      go_wp2_with fail
      go_meet
      exact ⟨g5, rfl, rfl, hb18, D18⟩
  case rest =>
    generalize wc = wy at *
    obtain ⟨g5, rfl, rfl, b5, ty⟩ := hcut
    clear B0 B1 B2 B6 RC hzc S0 FR FL
    obtain ⟨U, hU⟩ : ∃ q, q = wy.drew := ⟨_, rfl⟩
    have tU : Turns [] wy U := by rw [hU]; exact (Turns.refl _ _).drew
    have HUU := Lib.hid hU
    have tVU := ty.trans tU (by simp)
    have b2U := HB2.out.turns tVU (by simp)
    have A0 : U.cell? ⟨p2, 0, none⟩ = some (.int .i64 r.tx) := b2U.cell 0
    have A2 : U.cell? ⟨p2, 2, none⟩ = some (.int .i64 r.chgs) := b2U.cell 2
    have H5 := Lib.hid (And.intro (bytes32 (b5.turns tU (by simp)) HLL.out.2.1) (show g5 + 1 ≤ U.heap.size by have := b5.lt; have := tU.size; omega))
    have HTU := Lib.hid (HTV.out.trans tVU (by simp))
    have HB2U := Lib.hid b2U
    have S0 : Turns [] U U := Turns.refl _ _
    clear b5 ty hU tU tVU b2U
    go_upto_region 6 with fail
    go_cut [7] (fun u7 wz => ∃ g, u7 = .pointer (some ⟨g, 0, none⟩) ∧ Blk wz g (bvs en) 53 ∧ Turns [] U wz)
    case first =>
      refine rk0 (fun W => Turns [] U W) (fun _ => True) 11 11 ?_
      rw [← HUU.out]
      refine rkA 0 41 1 (v := ?_) ?_ (.mk' S0 trivial) ?_
      rotate_left
      · intro W hS; go_simp; all_goals with_reducible rfl
      try simp only [sI, sS, sZ]
      refine rkA 1 42 3 (v := ?_) ?_ (.mk' S0 trivial) ?_
      rotate_left
      · intro W hS; have c0 := cellL hS A0 (by simp); go_simp; all_goals with_reducible rfl
      try simp only [sI, sS, sZ]
      refine rkA 3 44 11 (v := ?_) ?_ (.mk' S0 trivial) ?_
      rotate_left
      · intro W hS; go_simp; all_goals with_reducible rfl
      try simp only [sI, sS, sZ]
      refine rkA 4 45 27 (v := ?_) ?_ (.mk' S0 trivial) ?_
      rotate_left
      · intro W hS; have c0 := cellL hS A2 (by simp); go_simp; all_goals with_reducible rfl
      try simp only [sI, sS, sZ]
      refine rkA 6 47 91 (v := ?_) ?_ (.mk' S0 trivial) ?_
      rotate_left
      · intro W hS; go_simp; all_goals with_reducible rfl
      try simp only [sI, sS, sZ]
      refine rk2 2 9 95 603 (fun K hK => ?_) (fun K hK => ?_)
      · go_simp
        refine (CInt2 (bs := []) r.tx Sl.nil (by simp)).mono ?_
        rintro e X43 ⟨v43, rfl, m43⟩
        have D43 := m43.turns
        refine hK _ _ (.mk' ((Turns.refl [] U).trans D43 (by simp)) trivial) ?_
        clear hK K
        try simp only [sI, sS, sZ]
        refine rk2 5 9 127 607 (fun K hK => ?_) (fun K hK => ?_)
        · go_simp
          refine (CInt2 r.chgs (m43.on (Turns.refl [] X43)).sl (by simp [le8_length])).mono ?_
          rintro e X46 ⟨v46, rfl, m46⟩
          have D46 := m46.turns
          refine hK _ _ (.mk' (((Turns.refl [] U).trans D43 (by simp)).trans D46 (by simp)) trivial) ?_
          clear hK K
          try simp only [sI, sS, sZ]
          refine rk2 7 9 255 639 (fun K hK => ?_) (fun K hK => ?_)
          · obtain ⟨v48, X48, hr48, m48, t48⟩ := mine_append2 (m46.on (Turns.refl [] X46)) ((((Turns.refl [] U).trans D43 (by simp)).trans D46 (by simp)).slice H5.out.1 H5.out.2 (by simp)) (by rw [HLL.out.2.1]; simp [le8_length]) 129
            rw [HEB.out] at m48
            obtain ⟨A48, c48, rfl, _⟩ := m48.len
            have D48 : Turns [] U X48 := ((Turns.refl [] U).trans D43 (by simp)).trans m48.turns (by simp)
            refine wp_append_run (P := Tryz.prog) (w := X46) (.tmp 46) (.tmp 47) (by rfl) (vs := _) (vx := _) (by rfl) (by rfl) (R := fun v w' => Value.slice A48 _ c48 = v ∧ X48 = w') ⟨_, _, hr48, rfl, rfl⟩ ?_
            rintro _ _ ⟨rfl, rfl⟩
            refine hK _ _ (.mk' D48 trivial) ?_
            clear hK K
            try simp only [sI, sS, sZ]
            refine rk2 8 9 511 767 (fun K hK => ?_) (fun K hK => ?_)
            · go_simp
              refine (Leaf_any _ _ _ _ (entText r.tx r.chgs rt) _ (m48.on (Turns.refl [] X48)).sl (Nat.le_refl _) HEL.out).mono ?_
              rintro e X49 ⟨rfl, D49⟩
              rw [← HLF.out]
              refine hK _ _ (.mk' (((Turns.refl [] U).trans D48 (by simp)).trans D49 (by simp)) trivial) ?_
              clear hK K
              try simp only [sI, sS, sZ]
              refine rk1 9 1023 (fun K hK => ?_)
              refine wp_alloc_arr 53 (by rfl) zz.toArray hz32 ?_
              have B7 := Blk.new X49 zz 53
              have D7 : Turns [] X49 (X49.alloc (.cells zz.toArray 53)) := (Turns.refl _ _).alloc _
              obtain ⟨g7, hg7⟩ : ∃ g, g = X49.heap.size := ⟨_, rfl⟩
              have G7 := Lib.hid (show U.heap.size ≤ g7 by rw [hg7]; exact (((Turns.refl [] U).trans D48 (by simp)).trans D49 (by simp)).size)
              rw [← hg7] at B7 ⊢
              have GL7 := Lib.hid (show X49.heap.size ≤ g7 ∧ g7 < (X49.alloc (.cells zz.toArray 53)).heap.size by rw [hg7]; simp)
              clear hg7
              generalize X49.alloc (.cells zz.toArray 53) = X7 at B7 D7 GL7 ⊢
              refine hK _ _ (.mk' ((((Turns.refl [] U).trans D48 (by simp)).trans D49 (by simp)).trans D7 (by simp)) trivial) ?_
              clear hK K
              try simp only [sI, sS, sZ]
              refine rk1 10 2047 (fun K hK => ?_)
              refine wp_store_blk 53 _ _ (by rfl) g7 (by rfl) (bvs en) zz 53 (by rfl) (B7.turns (Turns.refl [] X7) (by simp)) HET.out.1 HET.out.2 (bvs_one _) (fun X50 hb50 ht50 => ?_)
              have D50 : Turns [] U X50 := ((((Turns.refl [] U).trans D48 (by simp)).trans D49 (by simp)).trans D7 (by simp)).trans ht50 (by intro x hx; simp at hx; exact .inr (by rw [hx]; exact G7.out))
              refine hK _ _ (.mk' D50 trivial) ?_
              clear hK K
              try simp only [sI, sS, sZ]
              refine rkZ ?_
              go_wp2_with fail
              go_meet
              exact ⟨g7, rfl, hb50, D50⟩
            · refine wp_alloc_arr 53 (by rfl) zz.toArray hz32 ?_
              have B7 := Blk.new X48 zz 53
              have D7 : Turns [] X48 (X48.alloc (.cells zz.toArray 53)) := (Turns.refl _ _).alloc _
              obtain ⟨g7, hg7⟩ : ∃ g, g = X48.heap.size := ⟨_, rfl⟩
              have G7 := Lib.hid (show U.heap.size ≤ g7 by rw [hg7]; exact ((Turns.refl [] U).trans D48 (by simp)).size)
              rw [← hg7] at B7 ⊢
              have GL7 := Lib.hid (show X48.heap.size ≤ g7 ∧ g7 < (X48.alloc (.cells zz.toArray 53)).heap.size by rw [hg7]; simp)
              clear hg7
              generalize X48.alloc (.cells zz.toArray 53) = X7 at B7 D7 GL7 ⊢
              refine hK _ _ (.mk' (((Turns.refl [] U).trans D48 (by simp)).trans D7 (by simp)) trivial) ?_
              clear hK K
              try simp only [sI, sS, sZ]
              refine rk1 8 1023 (fun K hK => ?_)
              go_simp
              refine (Leaf_any _ _ _ _ (entText r.tx r.chgs rt) _ (m48.on ((Turns.refl [] X48).trans D7 (by simp))).sl (Nat.le_refl _) HEL.out).mono ?_
              rintro e X49 ⟨rfl, D49⟩
              rw [← HLF.out]
              refine hK _ _ (.mk' ((((Turns.refl [] U).trans D48 (by simp)).trans D7 (by simp)).trans D49 (by simp)) trivial) ?_
              clear hK K
              try simp only [sI, sS, sZ]
              refine rk1 10 2047 (fun K hK => ?_)
              refine wp_store_blk 53 _ _ (by rfl) g7 (by rfl) (bvs en) zz 53 (by rfl) (B7.turns ((Turns.refl [] X7).trans D49 (by simp)) (by simp)) HET.out.1 HET.out.2 (bvs_one _) (fun X50 hb50 ht50 => ?_)
              have D50 : Turns [] U X50 := ((((Turns.refl [] U).trans D48 (by simp)).trans D7 (by simp)).trans D49 (by simp)).trans ht50 (by intro x hx; simp at hx; exact .inr (by rw [hx]; exact G7.out))
              refine hK _ _ (.mk' D50 trivial) ?_
              clear hK K
              try simp only [sI, sS, sZ]
              refine rkZ ?_
              go_wp2_with fail
              go_meet
              exact ⟨g7, rfl, hb50, D50⟩
          · refine wp_alloc_arr 53 (by rfl) zz.toArray hz32 ?_
            have B7 := Blk.new X46 zz 53
            have D7 : Turns [] X46 (X46.alloc (.cells zz.toArray 53)) := (Turns.refl _ _).alloc _
            obtain ⟨g7, hg7⟩ : ∃ g, g = X46.heap.size := ⟨_, rfl⟩
            have G7 := Lib.hid (show U.heap.size ≤ g7 by rw [hg7]; exact (((Turns.refl [] U).trans D43 (by simp)).trans D46 (by simp)).size)
            rw [← hg7] at B7 ⊢
            have GL7 := Lib.hid (show X46.heap.size ≤ g7 ∧ g7 < (X46.alloc (.cells zz.toArray 53)).heap.size by rw [hg7]; simp)
            clear hg7
            generalize X46.alloc (.cells zz.toArray 53) = X7 at B7 D7 GL7 ⊢
            refine hK _ _ (.mk' ((((Turns.refl [] U).trans D43 (by simp)).trans D46 (by simp)).trans D7 (by simp)) trivial) ?_
            clear hK K
            try simp only [sI, sS, sZ]
            refine rk1 7 767 (fun K hK => ?_)
            obtain ⟨v48, X48, hr48, m48, t48⟩ := mine_append2 (m46.on ((Turns.refl [] X46).trans D7 (by simp))) (((((Turns.refl [] U).trans D43 (by simp)).trans D46 (by simp)).trans D7 (by simp)).slice H5.out.1 H5.out.2 (by simp)) (by rw [HLL.out.2.1]; simp [le8_length]) 129
            rw [HEB.out] at m48
            obtain ⟨A48, c48, rfl, _⟩ := m48.len
            have D48 : Turns [] U X48 := ((Turns.refl [] U).trans D43 (by simp)).trans m48.turns (by simp)
            have B7 := (B7.turns (Turns.refl [] X7) (by simp)).turns t48 (by
              intro hm
              have hk : v46.ownBlock = some g7 := by simpa using hm
              have := GL7.out.1; have := (Turns.refl [] X46).size; have := (m46.own.lt _ hk).2; omega)
            refine wp_append_run (P := Tryz.prog) (w := X7) (.tmp 46) (.tmp 47) (by rfl) (vs := _) (vx := _) (by rfl) (by rfl) (R := fun v w' => Value.slice A48 _ c48 = v ∧ X48 = w') ⟨_, _, hr48, rfl, rfl⟩ ?_
            rintro _ _ ⟨rfl, rfl⟩
            refine hK _ _ (.mk' D48 trivial) ?_
            clear hK K
            try simp only [sI, sS, sZ]
            refine rk1 8 1023 (fun K hK => ?_)
            go_simp
            refine (Leaf_any _ _ _ _ (entText r.tx r.chgs rt) _ (m48.on (Turns.refl [] X48)).sl (Nat.le_refl _) HEL.out).mono ?_
            rintro e X49 ⟨rfl, D49⟩
            rw [← HLF.out]
            refine hK _ _ (.mk' (((Turns.refl [] U).trans D48 (by simp)).trans D49 (by simp)) trivial) ?_
            clear hK K
            try simp only [sI, sS, sZ]
            refine rk1 10 2047 (fun K hK => ?_)
            refine wp_store_blk 53 _ _ (by rfl) g7 (by rfl) (bvs en) zz 53 (by rfl) (B7.turns ((Turns.refl [] X48).trans D49 (by simp)) (by simp)) HET.out.1 HET.out.2 (bvs_one _) (fun X50 hb50 ht50 => ?_)
            have D50 : Turns [] U X50 := (((Turns.refl [] U).trans D48 (by simp)).trans D49 (by simp)).trans ht50 (by intro x hx; simp at hx; exact .inr (by rw [hx]; exact G7.out))
            refine hK _ _ (.mk' D50 trivial) ?_
            clear hK K
            try simp only [sI, sS, sZ]
            refine rkZ ?_
            go_wp2_with fail
            go_meet
            exact ⟨g7, rfl, hb50, D50⟩
        · refine wp_alloc_arr 53 (by rfl) zz.toArray hz32 ?_
          have B7 := Blk.new X43 zz 53
          have D7 : Turns [] X43 (X43.alloc (.cells zz.toArray 53)) := (Turns.refl _ _).alloc _
          obtain ⟨g7, hg7⟩ : ∃ g, g = X43.heap.size := ⟨_, rfl⟩
          have G7 := Lib.hid (show U.heap.size ≤ g7 by rw [hg7]; exact ((Turns.refl [] U).trans D43 (by simp)).size)
          rw [← hg7] at B7 ⊢
          have GL7 := Lib.hid (show X43.heap.size ≤ g7 ∧ g7 < (X43.alloc (.cells zz.toArray 53)).heap.size by rw [hg7]; simp)
          clear hg7
          generalize X43.alloc (.cells zz.toArray 53) = X7 at B7 D7 GL7 ⊢
          refine hK _ _ (.mk' (((Turns.refl [] U).trans D43 (by simp)).trans D7 (by simp)) trivial) ?_
          clear hK K
          try simp only [sI, sS, sZ]
          refine rk1 5 639 (fun K hK => ?_)
          go_simp
          refine (CInt2 r.chgs (m43.on ((Turns.refl [] X43).trans D7 (by simp))).sl (by simp [le8_length])).mono ?_
          rintro e X46 ⟨v46, rfl, m46⟩
          have D46 := m46.turns
          refine hK _ _ (.mk' ((((Turns.refl [] U).trans D43 (by simp)).trans D7 (by simp)).trans D46 (by simp)) trivial) ?_
          clear hK K
          try simp only [sI, sS, sZ]
          refine rk1 7 767 (fun K hK => ?_)
          obtain ⟨v48, X48, hr48, m48, t48⟩ := mine_append2 (m46.on (Turns.refl [] X46)) (((((Turns.refl [] U).trans D43 (by simp)).trans D7 (by simp)).trans D46 (by simp)).slice H5.out.1 H5.out.2 (by simp)) (by rw [HLL.out.2.1]; simp [le8_length]) 129
          rw [HEB.out] at m48
          obtain ⟨A48, c48, rfl, _⟩ := m48.len
          have D48 : Turns [] U X48 := (((Turns.refl [] U).trans D43 (by simp)).trans D7 (by simp)).trans m48.turns (by simp)
          have B7 := (B7.turns ((Turns.refl [] X7).trans D46 (by simp)) (by simp)).turns t48 (by
            intro hm
            have hk : v46.ownBlock = some g7 := by simpa using hm
            have := GL7.out.2; have := (Turns.refl [] X7).size; have := (m46.own.lt _ hk).1; omega)
          refine wp_append_run (P := Tryz.prog) (w := X46) (.tmp 46) (.tmp 47) (by rfl) (vs := _) (vx := _) (by rfl) (by rfl) (R := fun v w' => Value.slice A48 _ c48 = v ∧ X48 = w') ⟨_, _, hr48, rfl, rfl⟩ ?_
          rintro _ _ ⟨rfl, rfl⟩
          refine hK _ _ (.mk' D48 trivial) ?_
          clear hK K
          try simp only [sI, sS, sZ]
          refine rk1 8 1023 (fun K hK => ?_)
          go_simp
          refine (Leaf_any _ _ _ _ (entText r.tx r.chgs rt) _ (m48.on (Turns.refl [] X48)).sl (Nat.le_refl _) HEL.out).mono ?_
          rintro e X49 ⟨rfl, D49⟩
          rw [← HLF.out]
          refine hK _ _ (.mk' (((Turns.refl [] U).trans D48 (by simp)).trans D49 (by simp)) trivial) ?_
          clear hK K
          try simp only [sI, sS, sZ]
          refine rk1 10 2047 (fun K hK => ?_)
          refine wp_store_blk 53 _ _ (by rfl) g7 (by rfl) (bvs en) zz 53 (by rfl) (B7.turns ((Turns.refl [] X48).trans D49 (by simp)) (by simp)) HET.out.1 HET.out.2 (bvs_one _) (fun X50 hb50 ht50 => ?_)
          have D50 : Turns [] U X50 := (((Turns.refl [] U).trans D48 (by simp)).trans D49 (by simp)).trans ht50 (by intro x hx; simp at hx; exact .inr (by rw [hx]; exact G7.out))
          refine hK _ _ (.mk' D50 trivial) ?_
          clear hK K
          try simp only [sI, sS, sZ]
          refine rkZ ?_
          go_wp2_with fail
          go_meet
          exact ⟨g7, rfl, hb50, D50⟩
      · refine wp_alloc_arr 53 (by rfl) zz.toArray hz32 ?_
        have B7 := Blk.new U zz 53
        have D7 : Turns [] U (U.alloc (.cells zz.toArray 53)) := (Turns.refl _ _).alloc _
        obtain ⟨g7, hg7⟩ : ∃ g, g = U.heap.size := ⟨_, rfl⟩
        have G7 := Lib.hid (show U.heap.size ≤ g7 by rw [hg7]; exact (Turns.refl [] U).size)
        rw [← hg7] at B7 ⊢
        have GL7 := Lib.hid (show U.heap.size ≤ g7 ∧ g7 < (U.alloc (.cells zz.toArray 53)).heap.size by rw [hg7]; simp)
        clear hg7
        generalize U.alloc (.cells zz.toArray 53) = X7 at B7 D7 GL7 ⊢
        refine hK _ _ (.mk' ((Turns.refl [] U).trans D7 (by simp)) trivial) ?_
        clear hK K
        try simp only [sI, sS, sZ]
        refine rk1 2 607 (fun K hK => ?_)
        go_simp
        refine (CInt2 (bs := []) r.tx Sl.nil (by simp)).mono ?_
        rintro e X43 ⟨v43, rfl, m43⟩
        have D43 := m43.turns
        refine hK _ _ (.mk' (((Turns.refl [] U).trans D7 (by simp)).trans D43 (by simp)) trivial) ?_
        clear hK K
        try simp only [sI, sS, sZ]
        refine rk1 5 639 (fun K hK => ?_)
        go_simp
        refine (CInt2 r.chgs (m43.on (Turns.refl [] X43)).sl (by simp [le8_length])).mono ?_
        rintro e X46 ⟨v46, rfl, m46⟩
        have D46 := m46.turns
        refine hK _ _ (.mk' ((((Turns.refl [] U).trans D7 (by simp)).trans D43 (by simp)).trans D46 (by simp)) trivial) ?_
        clear hK K
        try simp only [sI, sS, sZ]
        refine rk1 7 767 (fun K hK => ?_)
        obtain ⟨v48, X48, hr48, m48, t48⟩ := mine_append2 (m46.on (Turns.refl [] X46)) (((((Turns.refl [] U).trans D7 (by simp)).trans D43 (by simp)).trans D46 (by simp)).slice H5.out.1 H5.out.2 (by simp)) (by rw [HLL.out.2.1]; simp [le8_length]) 129
        rw [HEB.out] at m48
        obtain ⟨A48, c48, rfl, _⟩ := m48.len
        have D48 : Turns [] U X48 := (((Turns.refl [] U).trans D7 (by simp)).trans D43 (by simp)).trans m48.turns (by simp)
        have B7 := (B7.turns (((Turns.refl [] X7).trans D43 (by simp)).trans D46 (by simp)) (by simp)).turns t48 (by
          intro hm
          have hk : v46.ownBlock = some g7 := by simpa using hm
          have := GL7.out.2; have := ((Turns.refl [] X7).trans D43 (by simp)).size; have := (m46.own.lt _ hk).1; omega)
        refine wp_append_run (P := Tryz.prog) (w := X46) (.tmp 46) (.tmp 47) (by rfl) (vs := _) (vx := _) (by rfl) (by rfl) (R := fun v w' => Value.slice A48 _ c48 = v ∧ X48 = w') ⟨_, _, hr48, rfl, rfl⟩ ?_
        rintro _ _ ⟨rfl, rfl⟩
        refine hK _ _ (.mk' D48 trivial) ?_
        clear hK K
        try simp only [sI, sS, sZ]
        refine rk1 8 1023 (fun K hK => ?_)
        go_simp
        refine (Leaf_any _ _ _ _ (entText r.tx r.chgs rt) _ (m48.on (Turns.refl [] X48)).sl (Nat.le_refl _) HEL.out).mono ?_
        rintro e X49 ⟨rfl, D49⟩
        rw [← HLF.out]
        refine hK _ _ (.mk' (((Turns.refl [] U).trans D48 (by simp)).trans D49 (by simp)) trivial) ?_
        clear hK K
        try simp only [sI, sS, sZ]
        refine rk1 10 2047 (fun K hK => ?_)
        refine wp_store_blk 53 _ _ (by rfl) g7 (by rfl) (bvs en) zz 53 (by rfl) (B7.turns ((Turns.refl [] X48).trans D49 (by simp)) (by simp)) HET.out.1 HET.out.2 (bvs_one _) (fun X50 hb50 ht50 => ?_)
        have D50 : Turns [] U X50 := (((Turns.refl [] U).trans D48 (by simp)).trans D49 (by simp)).trans ht50 (by intro x hx; simp at hx; exact .inr (by rw [hx]; exact G7.out))
        refine hK _ _ (.mk' D50 trivial) ?_
        clear hK K
        try simp only [sI, sS, sZ]
        refine rkZ ?_
        go_wp2_with fail
        go_meet
        exact ⟨g7, rfl, hb50, D50⟩
    case rest =>
      generalize wc = wz at *
      obtain ⟨g7, rfl, b7, tz⟩ := hcut
      clear A0 A2 S0
      have b2Z := HB2U.out.turns tz (by simp)
      have bp := blo_part HR.out.1.blk (rec_blk b2Z)
      have C7 : wz.cell? ⟨p2, 7, none⟩ = some (.int .i64 r.place) := b2Z.cell 7
      have C8 : wz.cell? ⟨p2, 8, none⟩ = some (.slice Ae r.ents.length ce) := b2Z.cell 8
      have RR : wz.rangeAt p2 42 (bvs r.blk.root) := bp.2.1
      have CC : wz.cell? ⟨p2, 74, none⟩ = some (.int .i64 r.blk.cnt) := bp.2.2
      have hzr : (Tryz.prog.info? 53).map (·.size) = some (bvs r.blk.root).length := by rw [size_hash, bvs_length, HR.out.1.blk.root]
      have hze := HET.out.2
      have CK := Lib.hid (Check_any r.blk.root en HR.out.1.blk.root HLL.out.2.2 r.place r.blk.cnt r.ents _ rfl HR.out.1.ents Ae ce _ wz (HR.out.2.on (HTU.out.trans tz (by simp))).ents (Nat.le_refl _))
      have HTZ := Lib.hid (HTU.out.trans tz (by simp))
      clear b2Z bp tz
      go_wp2_with (first
        | (refine wpList_load_mid rfl 53 (.tmp 51) rfl p2 42 rfl _ _ RR Tryz.underlying53 rfl hzr ?_)
        | (refine wpList_load_blk rfl 53 (.tmp 7) rfl g7 (by kernel_rfl) (bvs en) _ _ b7 Tryz.underlying53 rfl hze ?_)
        | fail)
      refine CK.out.mono ?_
      rintro e x9 ⟨rfl, t9⟩
      have HT9 := Lib.hid (HTZ.out.trans t9 (by simp))
      clear t9 CK
      go_wp2_with fail
      go_ret
      exact ⟨by rw [HEN.out]; rfl, HT9.out⟩
end Go.Proofs.YtoahnhphfabajaaGreat
