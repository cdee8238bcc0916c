/- All pages are looked at: look. -/
import Derived.Test.YtdhbaepmbgoobaaWByt
import Derived.Test.YtdhbaepmbgoobaaRegl
import Derived.Test.YtdhbaepmbgoobaaRtsL
import Derived.Laws.ResultCell
namespace Go.Proofs.Ytdhbaepmbgoobaa
open Go.RowKit
set_option linter.unusedVariables false
set_option maxRecDepth 10000
set_option linter.unusedSimpArgs false
set_option linter.unnecessarySimpa false

theorem results_two {P : Program} {fn : Func} {p u : Tmp} {ty : TypeId} (h : fn.results = #[.cell p ty, .tmp u]) (tmps : Array Value) (w : World) (g : Nat) (t : TypeId) (cs : List Value) (d : TypeDesc) (x : Value)
    (hp : tmps.getD p undef = .pointer (some ⟨g, 0, none⟩)) (hx : tmps.getD u undef = x) (hg : Blk w g cs t)
    (hu : P.underlying ty = some d) (hd : (match d with | .struct _ | .array _ _ => true | _ => false) = true) (hi : (P.info? ty).map (·.size) = some cs.toArray.size) :
    (results fn tmps).run P w = .ok (.tuple #[.agg cs.toArray, x]) w := by
  rw [results_cell_tmp h tmps P w, hp, hx]
  simp [asAddr, run_loadVar_row w g t ty cs.toArray (0, 0) d hg hu hd hi]
theorem zero_found (w : World) : (zeroValue 82).run Try.prog w = .ok (.agg #[.int .i64 0, .int .i64 0, .slice none 0 0, .bool false]) w := by kernel_rfl
theorem zero_lazy (w : World) : (zeroValue 116).run Try.prog w = .ok (.agg #[.pointer none, .int .u32 0, .int .i32 0, .int .u32 0, .slice none 0 0, .int .i64 0]) w := by kernel_rfl
def FC (sz ct : Int) (v : Value) (b : Bool) : List Value := [.int .i64 sz, .int .i64 ct, v, .bool b]
theorem size_found (sz ct : Int) (v : Value) (b : Bool) : (Try.prog.info? 82).map (·.size) = some ([.int .i64 sz, .int .i64 ct, v, .bool b] : List Value).length := by kernel_rfl
/-- What look hands back. -/
structure Looked (w : World) (st : DS) (e : Ending) (w' : World) : Prop where
  turns : Turns [] w w'
  gone : st.dead = true → e = .returned (.tuple #[.agg #[.int .i64 0, .int .i64 0, .slice none 0 0, .bool true], .int .i64 15])
  here : st.dead = false → ∃ A n c, e = .returned (.tuple #[.agg #[.int .i64 st.look.size, .int .i64 st.look.count, .slice A n c, .bool st.look.bad], .int .i64 0]) ∧ SlsF w.heap.size w' (.slice A n c) n st.look.recs
theorem turns_same {w : World} {g : Nat} {cs : List Value} {t : TypeId} (h : Blk w g cs t) : Turns [] w (w.setCells g 0 cs) := by
  have h1 := h.setCells cs 0
  rw [spl_whole _ _ rfl] at h1
  have h2 := Turns.setCells (L := [g]) (b := g) (.inl (by simp)) cs 0 (Turns.refl [g] w)
  refine ⟨h2.os, h2.tape, h2.output, h2.size, fun k hk _ => ?_⟩
  by_cases e : k = g
  · subst e
    exact h1.trans h.symm
  · exact h2.block k hk (by simpa using e)
theorem ints_two (l : List UInt8) (h : 16 ≤ l.length) : (RS.readInt ⟨l, 0⟩).1 = leInt (l.take 8) ∧ (RS.readInt (RS.readInt ⟨l, 0⟩).2).1 = leInt ((l.drop 8).take 8) := by
  have e1 : RS.readInt ⟨l, 0⟩ = (leInt (l.take 8), ⟨l.drop 8, 0⟩) := by
    unfold RS.readInt RS.number
    rw [ok_take _ 8 rfl (by show 8 ≤ l.length; omega)]
  refine ⟨by rw [e1], ?_⟩
  rw [e1]
  unfold RS.readInt RS.number
  rw [ok_take _ 8 rfl (by show 8 ≤ (l.drop 8).length; rw [List.length_drop]; omega)]
theorem leInt_bd (l : List UInt8) : -9223372036854775808 ≤ leInt l ∧ leInt l ≤ 9223372036854775807 := by
  unfold leInt
  rw [IntKind.wrap_i64]
  omega

set_option maxRecDepth 100000 in
set_option maxHeartbeats 8000000 in
theorem look_any (w : World) (B : Nat) (D : DL) (p : Nat) (st : DS) (h : DiskIs w B D p st) :
    Calls Try.prog 29 #[.pointer (some ⟨D.g, 0, none⟩)] w (Looked w st) := by
  have hp := h.pages
  have zF := zero_found
  obtain ⟨X0, hX0⟩ : ∃ X0, X0 = w.alloc (.cells #[.int .i64 0, .int .i64 0, .slice none 0 0, .bool false] 82) := ⟨_, rfl⟩
  have v2 := Blk.new w [.int .i64 0, .int .i64 0, .slice none 0 0, .bool false] 82
  rw [show w.alloc (.cells [.int .i64 0, .int .i64 0, .slice none 0 0, .bool false].toArray 82) = X0 from hX0.symm] at v2
  have t0 : Turns [] w X0 := by rw [hX0]; exact (Turns.refl _ _).alloc _
  obtain ⟨p2, hp2⟩ : ∃ p2, p2 = w.heap.size := ⟨_, rfl⟩
  rw [← hp2] at v2
  have d0 := h.turns t0 (by simp)
  have hl2 := v2.lt
  have HX := Lib.hid (And.intro hX0 hp2)
  have hpD : p2 ∉ D.all := by intro hm; have := h.lt _ hm; omega
  cases hd : st.dead
  · have RD := Lib.hid (Read_any X0 B D p 0 st d0 (by omega) hd)
    have H0 := Lib.hid (And.intro v2 (And.intro t0 d0))
    have hln := h.lenN
    clear hX0 hp2 v2 t0 d0 h
    go_enter Try.func29, Try.ntmps29
    go_upto_region 1 with fail
    rw [← HX.out.1, ← HX.out.2]
    go_wp2_with fail
    refine RD.out.mono ?_
    rintro e x1 ⟨v1, rfl, o1, bel⟩
    have t1 := Turns.of_below (L := []) bel
    have v2 := H0.out.1.turns t1 (by simp)
    have t0 := H0.out.2.1.trans t1 (by simp)
    have d0 := H0.out.2.2.turns t1 (by simp)
    have hpl : (pageAt st.now 0).length = 64 := pageAt_length st.now 0 p hln (by omega)
    have s1 := Sl.of_own o1
    have NW := New_any v1 (pageAt st.now 0) x1 (by rw [hpl]; exact s1) (by omega)
    obtain ⟨A1, c1, rfl⟩ := own_formV o1
    replace NW := Lib.hid NW
    have H1 := Lib.hid (And.intro v2 (And.intro t0 d0))
    have h2 := ints_two (pageAt st.now 0) (by omega)
    clear v2 t0 d0 t1 bel o1 s1 RD
    go_wp2_with fail
    refine NW.out.mono ?_
    rintro e x2 ⟨g, rfl, hg, R0, bel⟩
    have t1 := Turns.of_below (L := []) bel
    have v2 := H1.out.1.turns t1 (by simp)
    have t0 := H1.out.2.1.trans t1 (by simp)
    have d0 := H1.out.2.2.turns t1 (by simp)
    have RI := RInt8_any g g _ x2 R0
    rw [h2.1] at RI
    replace RI := Lib.hid RI
    have hgp : p2 < g := by have := H1.out.1.lt; omega
    have hgD : g ∉ D.all := by intro hm; have := H1.out.2.2.lt _ hm; omega
    have hgw : w.heap.size ≤ g := by have := H1.out.2.1.size; omega
    have H2 := Lib.hid (And.intro v2 (And.intro t0 d0))
    clear v2 t0 d0 t1 bel R0 NW
    go_wp2_with fail
    refine RI.out.mono ?_
    rintro e x3 ⟨rfl, dd⟩
    have t1 : Turns [g] x2 x3 := Turns.of_grown dd.only (by intro k hk; injection hk with hk; simp [hk])
    have v2 := H2.out.1.turns t1 (by simp; omega)
    have t0 := H2.out.2.1.trans t1 (by intro x hx; simp at hx; subst hx; exact .inr hgw)
    have d0 := H2.out.2.2.turns t1 (by intro x hx; simp at hx; subst hx; exact hgD)
    have RI2 := RInt8_any g g _ x3 dd.is
    rw [h2.2] at RI2
    replace RI2 := Lib.hid RI2
    have H3 := Lib.hid (And.intro v2 (And.intro t0 d0))
    clear v2 t0 d0 t1 dd RI
    go_wp2_with fail
    refine RI2.out.mono ?_
    rintro e x4 ⟨rfl, dd⟩
    have t1 : Turns [g] x3 x4 := Turns.of_grown dd.only (by intro k hk; injection hk with hk; simp [hk])
    have v2 := H3.out.1.turns t1 (by simp; omega)
    have t0 := H3.out.2.1.trans t1 (by intro x hx; simp at hx; subst hx; exact .inr hgw)
    have d0 := H3.out.2.2.turns t1 (by intro x hx; simp at hx; subst hx; exact hgD)
    obtain ⟨sz, hsz⟩ : ∃ sz, sz = leInt ((pageAt st.now 0).take 8) := ⟨_, rfl⟩
    obtain ⟨ct, hct⟩ : ∃ ct, ct = leInt (((pageAt st.now 0).drop 8).take 8) := ⟨_, rfl⟩
    have bsz := leInt_bd ((pageAt st.now 0).take 8)
    have bct := leInt_bd (((pageAt st.now 0).drop 8).take 8)
    rw [← hsz] at bsz ⊢
    rw [← hct] at bct ⊢
    have HSZ := Lib.hid (show st.size0 = sz from hsz.symm)
    have HCT := Lib.hid (show st.count0 = ct from hct.symm)
    have q0 := v2.cell 0
    have q1 := v2.cell 1
    have f0 := v2.free 0
    have f1 := v2.free 1
    simp only [List.getElem?_cons_zero, List.getElem?_cons_succ] at q0 q1
    have v2 := (v2.set 0 (.int .i64 sz)).set 1 (.int .i64 ct)
    simp only [List.set_cons_succ, List.set_cons_zero] at v2
    have ts : Turns [p2] x4 ((x4.setCell ⟨p2, 0, none⟩ (.int .i64 sz)).setCell ⟨p2, 1, none⟩ (.int .i64 ct)) := ((Turns.refl [p2] x4).setCell (p := ⟨p2, 0, none⟩) (.inl (by simp)) _).setCell (p := ⟨p2, 1, none⟩) (.inl (by simp)) _
    have t0 := t0.trans ts (by intro x hx; simp at hx; subst hx; exact .inr (by rw [HX.out.2]; omega))
    have d0 := d0.turns ts (by intro x hx; simp at hx; subst hx; exact hpD)
    obtain ⟨x5, hx5⟩ : ∃ x5, x5 = (x4.setCell ⟨p2, 0, none⟩ (.int .i64 sz)).setCell ⟨p2, 1, none⟩ (.int .i64 ct) := ⟨_, rfl⟩
    rw [← hx5] at v2 t0 d0
    obtain ⟨x6, hx6⟩ : ∃ x6, x6 = x5.alloc (.cells #[.pointer (some ⟨D.g, 0, none⟩), .int .u32 0, .int .i32 0, .int .u32 0, .slice none 0 0, .int .i64 0] 116) := ⟨_, rfl⟩
    have bl := Blk.new x5 (LZ D.g 0 0 (.slice none 0 0) 0) 116
    rw [show x5.alloc (.cells (LZ D.g 0 0 (.slice none 0 0) 0).toArray 116) = x6 from hx6.symm] at bl
    have ta : Turns [] x5 x6 := by rw [hx6]; exact (Turns.refl _ _).alloc _
    have v2 := v2.turns ta (by simp)
    have t0 := t0.trans ta (by simp)
    have d0 := d0.turns ta (by simp)
    obtain ⟨gl, hgl⟩ : ∃ gl, gl = x5.heap.size := ⟨_, rfl⟩
    rw [← hgl] at bl
    have hglD : gl ∉ D.all := by intro hm; have := (H3.out.2.2.lt _ hm); have h1 := t1.size; have h2 := ts.size; rw [← hx5] at h2; omega
    have hglp : p2 ≠ gl := by have h0 := H3.out.1.lt; have h1 := t1.size; have h2 := ts.size; rw [← hx5] at h2; omega
    have hglw : w.heap.size ≤ gl := by have h0 := H3.out.2.1.size; have h1 := t1.size; have h2 := ts.size; rw [← hx5] at h2; omega
    have BY := Lib.hid (bytes_any x6 B D p st d0 gl bl hglD)
    have HX5 := Lib.hid hx5
    have HX6 := Lib.hid (And.intro hx6 hgl)
    have H4 := Lib.hid (And.intro v2 t0)
    clear v2 t0 d0 t1 dd RI2 hsz hct hx5 ts ta bl hx6 hgl
    go_upto_region 6 with fail
    rw [← HX5.out]
    clear q0 q1 f0 f1
    go_upto_region 7 with fail
    rw [← HX6.out.1, ← HX6.out.2]
    go_wp2_with fail
    refine BY.out.mono ?_
    rintro e x7 ⟨tb, -, hh⟩
    obtain ⟨A7, c7, rfl, o7⟩ := hh hd
    have v2 := H4.out.1.turns tb (by simpa using hglp)
    have t0 := H4.out.2.trans tb (by intro x hx; simp at hx; subst hx; exact .inr hglw)
    have q0 := v2.cell 0
    have q1 := v2.cell 1
    simp only [List.getElem?_cons_zero, List.getElem?_cons_succ] at q0 q1
    have hbl := body_len st p hln
    have s7 := Sl.of_own o7
    have H5 := Lib.hid (And.intro v2 (And.intro t0 s7))
    have hcb : st.body.length ≤ c7 ∧ c7 ≤ 9223372036854775807 := by
      obtain ⟨_, _, _, ee, h1, h2, _⟩ := s7
      injection ee with _ _ e3
      subst e3
      unfold maxLen at h2
      omega
    clear v2 t0 tb o7 hh BY s7 H0 H1 H2 H3 H4
    obtain ⟨bl, hbl2⟩ : ∃ bl, bl = st.body.length := ⟨_, rfl⟩
    rw [← hbl2] at hcb hbl ⊢
    have HBL := Lib.hid hbl2
    have hbn : bl ≤ 300000 := by omega
    clear hbl2 hbl
    by_cases hbad : sz < 0 ∨ ct < 0 ∨ (bl : Int) < sz
    · have HL := Lib.hid (show st.look = ⟨sz, ct, [], true⟩ by unfold DS.look; rw [HSZ.out, HCT.out, ← HBL.out, if_pos hbad])
      have hb3 : sz < 0 ∨ (¬ sz < 0 ∧ ct < 0) ∨ (¬ sz < 0 ∧ ¬ ct < 0 ∧ (bl : Int) < sz) := by omega
      clear hbad
      have q3 := H5.out.1.cell 3
      have f3 := H5.out.1.free 3
      simp only [List.getElem?_cons_zero, List.getElem?_cons_succ] at q3
      have v3 := H5.out.1.set 3 (.bool true)
      simp only [List.set_cons_succ, List.set_cons_zero] at v3
      obtain ⟨x8, hx8⟩ : ∃ x8, x8 = x7.setCell ⟨p2, 3, none⟩ (.bool true) := ⟨_, rfl⟩
      have ts : Turns [p2] x7 x8 := by rw [hx8]; exact Turns.setCell (L := [p2]) (p := ⟨p2, 3, none⟩) (Turns.refl [p2] x7) (.inl (by simp)) _
      rw [← hx8] at v3
      have t0 := H5.out.2.1.trans ts (by intro x hx; simp at hx; subst hx; exact .inr (by rw [HX.out.2]; omega))
      have HX8 := Lib.hid hx8
      have H6 := Lib.hid (And.intro v3 t0)
      clear v3 t0 ts hx8
      rcases hb3 with h1 | ⟨h1, h2⟩ | ⟨h1, h2, h3⟩
      all_goals
        go_upto_region 12 with fail
        rw [← HX8.out]
        have qe := H6.out.1
        have q0 := qe.cell 0
        have q1 := qe.cell 1
        have q2 := qe.cell 2
        have q3 := qe.cell 3
        have f0 := qe.free 0
        have f1 := qe.free 1
        have f2 := qe.free 2
        have f3 := qe.free 3
        simp only [List.getElem?_cons_zero, List.getElem?_cons_succ] at q0 q1 q2 q3
        have r2 := qe.range 0 4
        rw [List.drop_zero, List.take_of_length_le (by simp)] at r2
        have hszf := size_found sz ct (.slice none 0 0) true
        have tz := turns_same qe
        have vz := qe.setCells [.int .i64 sz, .int .i64 ct, .slice none 0 0, .bool true] 0
        rw [spl_whole _ _ (by rfl)] at vz
        have HE := Lib.hid (And.intro vz tz)
        clear vz tz qe
        go_wp2_with (first
          | (refine wpList_load_mid rfl 82 (.tmp 2) rfl p2 0 rfl _ _ r2 Try.underlying82 rfl hszf ?_)
          | fail)
        (try simp only [Exit.inBlock, Exit.then])
        refine bodyPost_ret (results_two rfl _ _ p2 _ _ _ _ rfl rfl HE.out.1 Try.underlying82 rfl (by kernel_rfl)) rfl ?_
        exact ⟨H6.out.2.trans HE.out.2 (by simp), fun h => (by rw [hd] at h; cases h), fun _ => ⟨none, 0, 0, by rw [HL.out]; rfl, by rw [HL.out]; exact SlsF.nil⟩⟩
    · have hs0 : ¬ sz < 0 := by omega
      have hc0 : ¬ ct < 0 := by omega
      have hl0 : ¬ (bl : Int) < sz := by omega
      obtain ⟨k, rfl⟩ : ∃ k : Nat, sz = k := ⟨sz.toNat, by omega⟩
      have hkb : k ≤ bl := by omega
      have rt : ∀ w, (Instr.sliceAt 34 (.slice A7 bl c7) none (some (.int .i64 (k : Int))) none).run Try.prog w = .ok (.slice A7 k c7) w := fun w => run_to A7 bl c7 k hkb hcb.1 w
      have CU := cut_any (.slice A7 k c7) (st.body.take k) ct x7.drew (by
        have h := (H5.out.2.2.to (show k ≤ st.body.length by rw [← HBL.out]; exact hkb))
        rw [bvs_take] at h
        rw [List.length_take, Nat.min_eq_left (by rw [← HBL.out]; exact hkb)]
        exact h.drew) (by omega) (by omega) (by rw [List.length_take]; omega)
      obtain ⟨⟨recs, rest⟩, hcr⟩ : ∃ r, r = cutL ct.toNat (st.body.take k) := ⟨_, rfl⟩
      rw [← hcr] at CU
      have HL := Lib.hid (show st.look = ⟨(k : Int), ct, recs, !decide (rest = []) || (recs.length : Int) != ct⟩ by unfold DS.look; rw [HSZ.out, HCT.out, ← HBL.out, if_neg hbad, Int.toNat_natCast, ← hcr])
      dsimp only at CU
      obtain ⟨zb, hzb⟩ : ∃ z, z = decide (rest = []) := ⟨_, rfl⟩
      rw [← hzb] at CU HL
      replace CU := Lib.hid CU
      have S0 : Turns [] x7 x7.drew := (Turns.refl _ _).drew
      have B7 : Blk x7.drew p2 [.int .i64 (k : Int), .int .i64 ct, .slice none 0 0, .bool false] 82 := H5.out.1.drew
      clear hcr hzb hbad
      go_upto_region 14 with fail
      clear hs0 hc0 hl0
      refine reg_begin (fun _ => True) (fun W => Turns [] x7 W ∧ Blk W p2 [.int .i64 (k : Int), .int .i64 ct, .slice none 0 0, .bool false] 82) 11 13 #[false, false, false, false, false, false, false, false, false, false, false, false, false] (by kernel_rfl) (by kernel_rfl) (by kernel_rfl) ?_
      refine reg_take 0 56 12 #[true, false, false, false, false, false, false, false, false, false, false, false, false] (by rfl) (v := ?_) rfl rfl (by kernel_rfl) (by kernel_rfl) (by kernel_rfl) (by kernel_rfl) (fun _ _ _ h => h) (by rfl) ?_ (Till.mk' trivial ⟨S0, B7⟩) ?_
      rotate_left
      · intro W hS; go_simp; all_goals with_reducible rfl
      try simp only [List.setIfInBounds_toArray, List.set_cons_succ, List.set_cons_zero]
      refine reg_take 1 57 11 #[true, true, false, false, false, false, false, false, false, false, false, false, false] (by rfl) (v := ?_) rfl rfl (by kernel_rfl) (by kernel_rfl) (by kernel_rfl) (by kernel_rfl) (fun _ _ _ h => h) (by rfl) ?_ (Till.mk' trivial ⟨S0, B7⟩) ?_
      rotate_left
      · intro W hS; go_simp; all_goals with_reducible rfl
      try simp only [List.setIfInBounds_toArray, List.set_cons_succ, List.set_cons_zero]
      refine reg_take_t 2 58 10 #[true, true, true, false, false, false, false, false, false, false, false, false, false] (by rfl) (v := ?_) rfl rfl (by kernel_rfl) (by kernel_rfl) (by kernel_rfl) (by kernel_rfl) (fun _ _ _ h => h) (by rfl) (by kernel_rfl) (by kernel_rfl) ?_ (Till.mk' trivial ⟨S0, B7⟩) ?_
      rotate_left
      · rintro W ⟨-, hS, b⟩; have c2 := b.cell 0; simp only [List.getElem?_cons_zero, List.getElem?_cons_succ] at c2; go_simp; all_goals with_reducible rfl
      try simp only [List.setIfInBounds_toArray, List.set_cons_succ, List.set_cons_zero]
      refine reg_take 3 59 9 #[true, true, true, true, false, false, false, false, false, false, false, false, false] (by rfl) (v := ?_) rfl rfl (by kernel_rfl) (by kernel_rfl) (by kernel_rfl) (by kernel_rfl) (fun _ _ _ h => h) (by rfl) ?_ (Till.mk' trivial ⟨S0, B7⟩) ?_
      rotate_left
      · intro W hS; go_simp; all_goals with_reducible rfl
      try simp only [List.setIfInBounds_toArray, List.set_cons_succ, List.set_cons_zero]
      refine reg_take 4 60 8 #[true, true, true, true, true, false, false, false, false, false, false, false, false] (by rfl) (v := ?_) rfl rfl (by kernel_rfl) (by kernel_rfl) (by kernel_rfl) (by kernel_rfl) (fun _ _ _ h => h) (by rfl) ?_ (Till.mk' trivial ⟨S0, B7⟩) ?_
      rotate_left
      · intro W hS; go_simp; all_goals with_reducible rfl
      try simp only [List.setIfInBounds_toArray, List.set_cons_succ, List.set_cons_zero]
      refine reg_take_t 5 61 7 #[true, true, true, true, true, true, false, false, false, false, false, false, false] (by rfl) (v := ?_) rfl rfl (by kernel_rfl) (by kernel_rfl) (by kernel_rfl) (by kernel_rfl) (fun _ _ _ h => h) (by rfl) (by kernel_rfl) (by kernel_rfl) ?_ (Till.mk' trivial ⟨S0, B7⟩) ?_
      rotate_left
      · rintro W ⟨-, hS, b⟩; have c2 := b.cell 1; simp only [List.getElem?_cons_zero, List.getElem?_cons_succ] at c2; go_simp; all_goals with_reducible rfl
      try simp only [List.setIfInBounds_toArray, List.set_cons_succ, List.set_cons_zero]
      refine reg_one 6 6 #[true, true, true, true, true, true, true, false, false, false, false, false, false] (by kernel_rfl) rfl (by rfl) (by kernel_rfl) (fun K hK => ?_)
      go_simp
      refine CU.out.mono ?_
      rintro e x8 ⟨A8, n8, c8, rfl, sl8, t8⟩
      have S1 := S0.trans t8 (by simp)
      have B8 := B7.turns t8 (by simp)
      have q2 := B8.cell 2
      have f2 := B8.free 2
      simp only [List.getElem?_cons_zero, List.getElem?_cons_succ] at q2
      clear t8
      refine hK _ _ (Till.mk' trivial ⟨S1, B8⟩) ?_
      clear hK K
      try simp only [List.setIfInBounds_toArray, List.set_cons_succ, List.set_cons_zero]
      refine reg_take 7 55 5 #[true, true, true, true, true, true, true, true, false, false, false, false, false] (by rfl) (v := ?_) rfl rfl (by kernel_rfl) (by kernel_rfl) (by kernel_rfl) (by kernel_rfl) (fun _ _ _ h => h) (by rfl) ?_ (Till.mk' trivial ⟨S1, B8⟩) ?_
      rotate_left
      · intro W hS; go_simp; all_goals with_reducible rfl
      try simp only [List.setIfInBounds_toArray, List.set_cons_succ, List.set_cons_zero]
      refine reg_take 8 63 4 #[true, true, true, true, true, true, true, true, true, false, false, false, false] (by rfl) (v := ?_) rfl rfl (by kernel_rfl) (by kernel_rfl) (by kernel_rfl) (by kernel_rfl) (fun _ _ _ h => h) (by rfl) ?_ (Till.mk' trivial ⟨S1, B8⟩) ?_
      rotate_left
      · intro W hS; go_simp; all_goals with_reducible rfl
      try simp only [List.setIfInBounds_toArray, List.set_cons_succ, List.set_cons_zero]
      refine reg_take 9 64 3 #[true, true, true, true, true, true, true, true, true, true, false, false, false] (by rfl) (v := ?_) rfl rfl (by kernel_rfl) (by kernel_rfl) (by kernel_rfl) (by kernel_rfl) (fun _ _ _ h => h) (by rfl) ?_ (Till.mk' trivial ⟨S1, B8⟩) ?_
      rotate_left
      · intro W hS; go_simp; all_goals with_reducible rfl
      try simp only [List.setIfInBounds_toArray, List.set_cons_succ, List.set_cons_zero]
      refine reg_take 10 65 2 #[true, true, true, true, true, true, true, true, true, true, true, false, false] (by rfl) (v := ?_) rfl rfl (by kernel_rfl) (by kernel_rfl) (by kernel_rfl) (by kernel_rfl) (fun _ _ _ h => h) (by rfl) ?_ (Till.mk' trivial ⟨S1, B8⟩) ?_
      rotate_left
      · intro W hS; go_simp; all_goals with_reducible rfl
      try simp only [List.setIfInBounds_toArray, List.set_cons_succ, List.set_cons_zero]
      refine reg_one 11 1 #[true, true, true, true, true, true, true, true, true, true, true, true, false] (by kernel_rfl) rfl (by rfl) (by kernel_rfl) (fun K hK => ?_)
      go_simp
      refine hK _ _ (Till.past trivial (by kernel_rfl)) ?_
      clear hK K
      try simp only [List.setIfInBounds_toArray, List.set_cons_succ, List.set_cons_zero]
      refine reg_take 12 8 0 #[true, true, true, true, true, true, true, true, true, true, true, true, true] (by rfl) (v := ?_) rfl rfl (by kernel_rfl) (by kernel_rfl) (by kernel_rfl) (by kernel_rfl) (fun _ _ _ h => h) (by rfl) ?_ (Till.past trivial (by kernel_rfl)) ?_
      rotate_left
      · intro W hS; go_simp; all_goals with_reducible rfl
      try simp only [List.setIfInBounds_toArray, List.set_cons_succ, List.set_cons_zero]
      refine reg_done (by kernel_rfl) ?_ _
      have v3 := B8.set 2 (.slice A8 n8 c8)
      simp only [List.set_cons_succ, List.set_cons_zero] at v3
      obtain ⟨x9, hx9⟩ : ∃ x9, x9 = x8.setCell ⟨p2, 2, none⟩ (.slice A8 n8 c8) := ⟨_, rfl⟩
      have ts : Turns [p2] x8 x9 := by rw [hx9]; exact Turns.setCell (L := [p2]) (p := ⟨p2, 2, none⟩) (Turns.refl [p2] x8) (.inl (by simp)) _
      rw [← hx9] at v3
      have hp2w : p2 < x7.heap.size := H5.out.1.lt
      have t0 := (H5.out.2.1.trans S1 (by simp)).trans ts (by intro x hx; simp at hx; subst hx; exact .inr (by rw [HX.out.2]; omega))
      have sl9 := sl8.on ts (by intro x hx; simp at hx; subst hx; exact hp2w)
      have hn8 : n8 = recs.length := by obtain ⟨vs, h1, _⟩ := sl9; exact h1.symm
      subst hn8
      have q1 := v3.cell 1
      have q2 := v3.cell 2
      have q3 := v3.cell 3
      have f3 := v3.free 3
      simp only [List.getElem?_cons_zero, List.getElem?_cons_succ] at q1 q2 q3
      have HX9 := Lib.hid hx9
      have H6 := Lib.hid (And.intro v3 (And.intro t0 sl9))
      clear v3 t0 sl9 ts hx9 S0 S1 B7 B8 sl8 q0 CU rt
      obtain ⟨bd, hbd⟩ : ∃ b, b = (!zb || (recs.length : Int) != ct) := ⟨_, rfl⟩
      rw [← hbd] at HL
      have HBD := Lib.hid hbd
      clear hbd
      have v4 := H6.out.1.set 3 (.bool bd)
      simp only [List.set_cons_succ, List.set_cons_zero] at v4
      obtain ⟨y1, hy1⟩ : ∃ y1, y1 = x9.setCell ⟨p2, 3, none⟩ (.bool bd) := ⟨_, rfl⟩
      have ts : Turns [p2] x9 y1 := by rw [hy1]; exact Turns.setCell (L := [p2]) (p := ⟨p2, 3, none⟩) (Turns.refl [p2] x9) (.inl (by simp)) _
      rw [← hy1] at v4
      have t0 := H6.out.2.1.trans ts (by intro x hx; simp at hx; subst hx; exact .inr (by rw [HX.out.2]; omega))
      have sl := (H6.out.2.2.on ts (by intro x hx; simp at hx; subst hx; exact hp2w)).mono (show w.heap.size ≤ x7.drew.heap.size from H5.out.2.1.size)
      have HY1 := Lib.hid hy1
      have H7 := Lib.hid (And.intro v4 (And.intro t0 sl))
      clear v4 t0 sl ts hy1
      go_upto_region 15 with fail
      rw [← HX9.out]
      cases zb
      · have eb : bd = true := by rw [HBD.out]; rfl
        subst eb
        go_upto_region 16 with fail
        rw [← HY1.out]
        have qe := H7.out.1
        have q0 := qe.cell 0
        have q1 := qe.cell 1
        have q2 := qe.cell 2
        have q3 := qe.cell 3
        have f0 := qe.free 0
        have f1 := qe.free 1
        have f2 := qe.free 2
        have f3 := qe.free 3
        simp only [List.getElem?_cons_zero, List.getElem?_cons_succ] at q0 q1 q2 q3
        have r2 := qe.range 0 4
        rw [List.drop_zero, List.take_of_length_le (by simp)] at r2
        have hszf := size_found (k : Int) ct (.slice A8 recs.length c8) true
        have tz := turns_same qe
        have vz := qe.setCells [.int .i64 (k : Int), .int .i64 ct, .slice A8 recs.length c8, .bool true] 0
        rw [spl_whole _ _ (by rfl)] at vz
        have HE := Lib.hid (And.intro vz tz)
        clear vz tz qe
        go_wp2_with (first
          | (refine wpList_load_mid rfl 82 (.tmp 2) rfl p2 0 rfl _ _ r2 Try.underlying82 rfl hszf ?_)
          | fail)
        (try simp only [Exit.inBlock, Exit.then])
        refine bodyPost_ret (results_two rfl _ _ p2 _ _ _ _ rfl rfl HE.out.1 Try.underlying82 rfl (by kernel_rfl)) rfl ?_
        exact ⟨H7.out.2.1.trans HE.out.2 (by simp), fun h => (by rw [hd] at h; cases h), fun _ => ⟨A8, recs.length, c8, by rw [HL.out]; rfl, by rw [HL.out]; exact H7.out.2.2.on HE.out.2 (by simp)⟩⟩
      · have eb : ((recs.length : Int) != ct) = bd := by rw [HBD.out]; rfl
        go_upto_region 16 with fail
        rw [← HY1.out]
        have qe := H7.out.1
        have q0 := qe.cell 0
        have q1 := qe.cell 1
        have q2 := qe.cell 2
        have q3 := qe.cell 3
        have f0 := qe.free 0
        have f1 := qe.free 1
        have f2 := qe.free 2
        have f3 := qe.free 3
        simp only [List.getElem?_cons_zero, List.getElem?_cons_succ] at q0 q1 q2 q3
        have r2 := qe.range 0 4
        rw [List.drop_zero, List.take_of_length_le (by simp)] at r2
        have hszf := size_found (k : Int) ct (.slice A8 recs.length c8) bd
        have tz := turns_same qe
        have vz := qe.setCells [.int .i64 (k : Int), .int .i64 ct, .slice A8 recs.length c8, .bool bd] 0
        rw [spl_whole _ _ (by rfl)] at vz
        have HE := Lib.hid (And.intro vz tz)
        clear vz tz qe
        go_wp2_with (first
          | (refine wpList_load_mid rfl 82 (.tmp 2) rfl p2 0 rfl _ _ r2 Try.underlying82 rfl hszf ?_)
          | fail)
        (try simp only [Exit.inBlock, Exit.then])
        refine bodyPost_ret (results_two rfl _ _ p2 _ _ _ _ rfl rfl HE.out.1 Try.underlying82 rfl (by kernel_rfl)) rfl ?_
        exact ⟨H7.out.2.1.trans HE.out.2 (by simp), fun h => (by rw [hd] at h; cases h), fun _ => ⟨A8, recs.length, c8, by rw [HL.out]; rfl, by rw [HL.out]; exact H7.out.2.2.on HE.out.2 (by simp)⟩⟩
  · have RD := Read_bad X0 B D p 0 st d0 (by unfold DS.checked; rw [if_pos hd]; decide)
    have hc : st.checked p 0 0 = 15 := by unfold DS.checked; rw [if_pos hd]
    rw [hc] at RD
    replace RD := Lib.hid RD
    have vz := v2.setCells [.int .i64 0, .int .i64 0, .slice none 0 0, .bool true] 0
    rw [spl_whole _ _ (by rfl)] at vz
    have tz := Turns.setCells (L := []) (b := p2) (.inr (by rw [hp2]; omega)) [.int .i64 0, .int .i64 0, .slice none 0 0, .bool true] 0 t0
    have q0 := v2.cell 0
    have q1 := v2.cell 1
    have q2 := v2.cell 2
    have q3 := v2.cell 3
    have f0 := v2.free 0
    have f1 := v2.free 1
    have f2 := v2.free 2
    have f3 := v2.free 3
    simp only [List.getElem?_cons_zero, List.getElem?_cons_succ] at q0 q1 q2 q3
    have HE := Lib.hid (And.intro vz tz)
    clear vz tz hX0 hp2 v2 t0 d0 h hc
    go_enter Try.func29, Try.ntmps29
    go_upto_region 1 with fail
    rw [← HX.out.1, ← HX.out.2]
    go_wp2_with fail
    refine RD.out.mono ?_
    rintro e ww ⟨rfl, rfl⟩
    go_wp2_with fail
    (try simp only [Exit.inBlock, Exit.then])
    refine bodyPost_ret (results_two rfl _ _ p2 _ _ _ _ rfl rfl HE.out.1 Try.underlying82 rfl (by kernel_rfl)) rfl ?_
    exact ⟨HE.out.2, fun _ => rfl, fun h => (by rw [hd] at h; cases h)⟩
end Go.Proofs.Ytdhbaepmbgoobaa
