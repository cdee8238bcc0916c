/- Schemas are read: the document's Parse. -/
import Derived.Test.YtdllgnccjejhiaaParse
namespace Go.Proofs.Ytdllgnccjejhiaa
open Go.RowKit
set_option linter.unusedVariables false
set_option maxRecDepth 10000
set_option linter.unusedSimpArgs false
set_option linter.unnecessarySimpa false

theorem IsX.err {w : World} {B g : Nat} {s : RS} (h : IsX w B g s) : w.cell? ⟨g, 2, none⟩ = some (.int .i64 s.err) := by
  obtain ⟨A, c, all, p, h1, _⟩ := h
  rw [cell_of_row w g 2 _ _ _ h1]; rfl

set_option maxRecDepth 100000 in
set_option maxHeartbeats 8000000 in
theorem refParse_any (v : Value) (bs : List UInt8) (w : World) (h : Sl w w.heap.size 1 v bs.length (bvs bs)) (hm : bs.length ≤ 1000000) :
    Calls Try.prog 24 #[v] w (PRes w (parseRes bs)) := by
  obtain ⟨res, hres⟩ : ∃ r, r = parseRes bs := ⟨_, rfl⟩
  rw [← hres]
  obtain ⟨s0, hs0⟩ : ∃ s0, s0 = RS.mk bs 0 := ⟨_, rfl⟩
  have hfin := Lib.hid (show res = s0.schema by rw [hres, hs0]; rfl)
  clear hres
  obtain ⟨X0, hX0⟩ : ∃ X0, X0 = w.alloc (.cells #[.string ⟨#[]⟩, .slice none 0 0, .int .i64 0, .bool false] 30) := ⟨_, rfl⟩
  have v2 := Blk.new w [.string ⟨#[]⟩, .slice none 0 0, .int .i64 0, .bool false] 30
  have t0 := (Turns.refl [] w).alloc (.cells #[.string ⟨#[]⟩, .slice none 0 0, .int .i64 0, .bool false] 30)
  rw [← hX0] at t0
  rw [show w.alloc (.cells [.string ⟨#[]⟩, .slice none 0 0, .int .i64 0, .bool false].toArray 30) = X0 from hX0.symm] at v2
  have hz0 : X0.heap.size = w.heap.size + 1 := by rw [hX0]; simp
  obtain ⟨p2, hp2⟩ : ∃ p2, p2 = w.heap.size := ⟨_, rfl⟩
  rw [← hp2] at v2
  have NW := Lib.hid (XNew_any w.heap.size v bs X0 (t0.slice h (Nat.le_refl _) (by simp)) t0.size)
  have HX0 := Lib.hid hX0
  have HP2 := Lib.hid hp2
  have z30 := zero30
  clear hX0 h hp2
  go_enter Try.func24, Try.ntmps24
  go_wp2_with fail
  rw [← HX0.out]
  refine NW.out.mono ?_
  rintro e x1 ⟨g, rfl, hg, R0, bel⟩
  rw [← hs0] at R0
  have hp2 := HP2.out
  have tt := Turns.of_below (L := []) bel
  have v2 := v2.turns tt (by simp)
  have t0 := t0.trans tt (by simp)
  have hgp : p2 ≠ g := by omega
  rw [← HP2.out]
  have H1 := Lib.hid (And.intro v2 t0)
  clear tt bel NW v2 t0 hp2
  go_wp2_with fail
  refine (XText_read w.heap.size g s0 x1 R0).mono ?_
  rintro e x2 ⟨rfl, dd⟩
  have R0 := dd.is
  have tt := dd.turns
  have v2 := H1.out.1.turns tt (by simpa using hgp)
  have t0 := H1.out.2.trans tt (by intro x hx; simp at hx; have := HP2.out; exact .inr (by omega))
  have hgx := R0.lt
  obtain ⟨nm, hnm⟩ : ∃ nm, nm = strOf s0.readText.1 := ⟨_, rfl⟩
  rw [← hnm]
  obtain ⟨p5, hp5⟩ : ∃ p5, p5 = x2.heap.size := ⟨_, rfl⟩
  obtain ⟨X5, hX5⟩ : ∃ X5, X5 = x2.alloc (.cells #[.string nm, .slice none 0 0, .int .i64 0, .bool false] 30) := ⟨_, rfl⟩
  have v5 := Blk.new x2 [.string nm, .slice none 0 0, .int .i64 0, .bool false] 30
  rw [show x2.alloc (.cells [.string nm, .slice none 0 0, .int .i64 0, .bool false].toArray 30) = X5 from hX5.symm, ← hp5] at v5
  have ta : Turns [] x2 X5 := by rw [hX5]; exact (Turns.refl _ _).alloc _
  have v2 := v2.turns ta (by simp)
  have t0 := t0.trans ta (by simp)
  have R0 := R0.turns ta (by simp) (by simp)
  have BY := Lib.hid (XByte1_any w.heap.size g s0.readText.2 X5 R0)
  have HN := Lib.hid hnm
  have HX5 := Lib.hid hX5
  have hgp5 : g < p5 := by omega
  have hp25 : p2 < p5 := by have := HP2.out; omega
  have HP5 := Lib.hid hp5
  have H1 := Lib.hid (And.intro v2 (And.intro v5 t0))
  have hbd := readByte_bd s0.readText.2
  clear dd tt R0 v2 t0 hnm ta hX5 hp5 v5 hgx
  go_wp2_with fail
  rw [← HX5.out, ← HP5.out]
  refine BY.out.mono ?_
  rintro e x3 ⟨rfl, dd⟩
  have tt := dd.turns
  have v2 := H1.out.1.turns tt (by simpa using hgp)
  have v5 := H1.out.2.1.turns tt (by simp; omega)
  have t0 := H1.out.2.2.trans tt (by intro x hx; simp at hx; have := HP2.out; exact .inr (by omega))
  have H2 := Lib.hid (And.intro v2 (And.intro v5 t0))
  have R0 := dd.is
  have hhd := Lib.hid (show s0.headN = if 6 < s0.readText.2.readByte.1 then (0, s0.readText.2.readByte.2.fail 4) else (s0.readText.2.readByte.1.toNat, s0.readText.2.readByte.2) from rfl)
  generalize s0.readText.2.readByte.2 = s2 at R0 hhd
  generalize s0.readText.2.readByte.1 = n at hhd hbd
  have h06 := headN_le s0
  obtain ⟨⟨m, s3⟩, hms⟩ : ∃ p, p = s0.headN := ⟨_, rfl⟩
  rw [← hms] at h06 hhd
  have HMS := Lib.hid hms
  replace h06 : m ≤ 6 := h06
  have HN2 := Lib.hid HN.out
  clear dd tt v2 v5 t0 BY hms HN
  go_upto_if 18 with fail
  have hmn : (m : Int) = n ∨ (m = 0 ∧ 6 < n ∧ s3.err ≠ 0) := by
    have he := hhd.out
    by_cases h6 : 6 < n
    · rw [if_pos h6] at he
      injection he with e1 e2
      refine .inr ⟨e1, h6, ?_⟩
      rw [e2]
      show failed 4 s2.err ≠ 0
      unfold failed
      split
      · decide
      · assumption
    · rw [if_neg h6] at he
      injection he with e1 e2
      exact .inl (by omega)
  have HMN := Lib.hid hmn
  clear hmn
  go_cut [] (fun wx => IsX wx w.heap.size g s3 ∧ Turns [g] x3 wx)
  case first =>
    by_cases h6 : 6 < n
    · have FL := Lib.hid (XFail_any w.heap.size g s2 4 x3 R0)
      have he := hhd.out
      rw [if_pos h6] at he
      injection he with e1 e2
      subst e1 e2
      clear hhd R0
      go_wp2_with fail
      refine FL.out.mono ?_
      rintro e x4 ⟨rfl, dd⟩
      have tt := dd.turns
      have rr := dd.is
      clear FL dd
      go_wp2_with fail
      go_meet
      exact ⟨rr, tt⟩
    · have he := hhd.out
      rw [if_neg h6] at he
      injection he with e1 e2
      subst e2
      have RR := Lib.hid R0
      clear hhd e1 R0
      go_wp2_with fail
      go_meet
      exact ⟨RR.out, Turns.refl _ _⟩
  case rest =>
    obtain ⟨R0, tt⟩ := hcut
    have v2 := H2.out.1.turns tt (by simpa using hgp)
    have v5 := H2.out.2.1.turns tt (by simp; omega)
    have t0 := H2.out.2.2.trans tt (by intro x hx; simp at hx; have := HP2.out; exact .inr (by omega))
    clear tt H1 H2 hhd
    have hgl := R0.lt
    have hp5l := v5.lt
    have hp2l := v2.lt
    have hw0 := t0.size
    have hwp := HP2.out
    obtain ⟨X6, hX6⟩ : ∃ X6, X6 = wc := ⟨_, rfl⟩
    subst hX6
    have hgw : w.heap.size ≤ g := by omega
    have H3 := Lib.hid (And.intro R0 (And.intro v2 (And.intro v5 t0)))
    clear R0 v2 v5 t0 hwp
    go_wp2_with fail
    go_loopw [7] (fun i wr => ∃ (k : Nat) (A : Option Addr) (c : Nat), k ≤ m ∧ i = .int .i64 k ∧ IsX wr w.heap.size g (s3.cols k).2 ∧ Blk wr p2 [.string ⟨#[]⟩, .slice none 0 0, .int .i64 0, .bool false] 30 ∧ Blk wr p5 [.string nm, .slice A k c, .int .i64 0, .bool false] 30 ∧ wr.ownsRow X6.heap.size 27 3 (.slice A k c) k (colCells (s3.cols k).1) ∧ Turns [] w wr ∧ X6.heap.size ≤ wr.heap.size) (fun i _ => m - (intOf i).toNat)
    case atStart => exact ⟨0, none, 0, by omega, rfl, H3.out.1, H3.out.2.1, H3.out.2.2.1, World.ownsRow_nil _ _ _ _, H3.out.2.2.2, Nat.le_refl _⟩
    case round =>
      obtain ⟨k, A, c, hk, rfl, R0, v2, v5, o0, t0, hx6⟩ := hrel
      have hnx : s3.cols (k + 1) = ((s3.cols k).1 ++ [(s3.cols k).2.readCol.1], (s3.cols k).2.readCol.2) := rfl
      have hstop := s0.schema_stop k 0
      rw [← HMS.out] at hstop
      dsimp only at hstop
      have hfull : k = m → res = finish ⟨nm, (s3.cols k).1, (s3.cols k).2.tailKey.1, (s3.cols k).2.tailKey.2.1⟩ (s3.cols k).2.tailKey.2.2.endErr := by
        intro hkm
        rw [hfin.out]
        unfold RS.schema
        dsimp only
        rw [← HMS.out, hkm, HN2.out]
      have hres : (k = m ∨ (s3.cols k).2.err ≠ 0) → res = finish ⟨nm, (s3.cols k).1, (s3.cols k).2.tailKey.1, (s3.cols k).2.tailKey.2.1⟩ (s3.cols k).2.tailKey.2.2.endErr := by
        rintro (h | h)
        · exact hfull h
        · rw [hfin.out]; exact hstop hk h nm
      have hk0 : k = 0 → (s3.cols k).2 = s3 := by intro h; subst h; rfl
      have hnms := colsN_names s3 k
      have hlen := colsN_len s3 k
      obtain ⟨⟨l, s⟩, hls⟩ : ∃ p, p = s3.cols k := ⟨_, rfl⟩
      rw [← hls] at R0 o0 hnx hres hk0 hnms hlen
      dsimp only at R0 o0 hnx hres hk0 hnms hlen
      have HNX := Lib.hid hnx
      have HRES := Lib.hid hres
      have HNMS := Lib.hid hnms
      have q5 := v5.cell 1
      have ce := R0.err
      simp only [List.getElem?_cons_zero, List.getElem?_cons_succ] at q5
      have hcase : (k < m ∧ s.err = 0) ∨ (((m : Int) = n ∧ k = m) ∨ ((k : Int) < n ∧ s.err ≠ 0)) := by
        rcases HMN.out with h | ⟨h1, h2, h3⟩
        · by_cases hkm : k = m
          · exact .inr (.inl ⟨h, hkm⟩)
          · by_cases hs : s.err = 0
            · exact .inl ⟨by omega, hs⟩
            · exact .inr (.inr ⟨by omega, hs⟩)
        · have hkz : k = 0 := by omega
          exact .inr (.inr ⟨by omega, by rw [hk0 hkz]; exact h3⟩)
      have hkn : k < m → (k : Int) < n := by
        intro h
        rcases HMN.out with h' | ⟨h1, h2, h3⟩ <;> omega
      clear hnx hres hnms hstop hfull hk0 hls
      rcases hcase with ⟨hlt, hs0⟩ | hexit
      · have hki := hkn hlt
        rw [hs0] at ce
        have TX := Lib.hid (XText_read w.heap.size g s wr R0)
        have H4 := Lib.hid (And.intro v2 (And.intro v5 (And.intro o0 (And.intro t0 hx6))))
        have z27 := zero27
        clear hkn hs0 R0 v2 v5 o0 t0 hx6
        go_wp2_with fail
        refine TX.out.mono ?_
        rintro e y1 ⟨rfl, dd⟩
        obtain ⟨v2, v5, o0, t0, hx6⟩ := H4.out
        have R0 := dd.is
        have tt := dd.turns
        have hx6 := Nat.le_trans hx6 tt.size
        have o0 := own_tL o0 tt (by intro x hx; simp at hx; subst hx; intro e; have := (o0.lt _ e).1; omega)
        have v5 := v5.turns tt (by simp; omega)
        have v2 := v2.turns tt (by simp; omega)
        have t0 := t0.trans tt (by intro x hx; simp at hx; exact .inr (by omega))
        obtain ⟨tx, htx⟩ : ∃ tx, tx = strOf s.readText.1 := ⟨_, rfl⟩
        rw [← htx]
        obtain ⟨p8, hp8⟩ : ∃ p8, p8 = y1.heap.size := ⟨_, rfl⟩
        obtain ⟨y2, hy2⟩ : ∃ y2, y2 = y1.alloc (.cells #[.string tx, .int .i64 0, .bool false] 27) := ⟨_, rfl⟩
        have v8 := Blk.new y1 [.string tx, .int .i64 0, .bool false] 27
        rw [show y1.alloc (.cells [.string tx, .int .i64 0, .bool false].toArray 27) = y2 from hy2.symm, ← hp8] at v8
        have ta : Turns [] y1 y2 := by rw [hy2]; exact (Turns.refl _ _).alloc _
        have hp85 : p5 ≠ p8 := by have := v5.lt; omega
        have hp82 : p2 ≠ p8 := by have := v2.lt; omega
        have hgp8 : g ≠ p8 := by have := R0.lt; omega
        have hop8 : (Value.slice A k c).ownBlock ≠ some p8 := by intro e; have := (o0.lt _ e).2; omega
        have hp8x : X6.heap.size ≤ p8 := by omega
        have R0 := R0.turns ta (by simp) (by simp)
        have v2 := v2.turns ta (by simp)
        have v5 := v5.turns ta (by simp)
        have o0 := own_t0 o0 ta
        have t0 := t0.trans ta (by simp)
        have hx6 := Nat.le_trans hx6 ta.size
        have BY := Lib.hid (XByte1_any w.heap.size g s.readText.2 y2 R0)
        have HTX := Lib.hid htx
        have HP8 := Lib.hid hp8
        have HY2 := Lib.hid hy2
        have H5 := Lib.hid (And.intro v2 (And.intro v5 (And.intro o0 (And.intro t0 (And.intro hx6 v8)))))
        clear v2 v5 o0 t0 hx6 v8 ta tt dd R0 htx hp8 hy2 TX H4 q5 ce
        go_wp2_with fail
        rw [← HY2.out, ← HP8.out]
        refine BY.out.mono ?_
        rintro e y3 ⟨rfl, dd⟩
        obtain ⟨v2, v5, o0, t0, hx6, v8⟩ := H5.out
        have R0 := dd.is
        have tt := dd.turns
        have hx6 := Nat.le_trans hx6 tt.size
        have o0 := own_tL o0 tt (by intro x hx; simp at hx; subst hx; intro e; have := (o0.lt _ e).1; omega)
        have v5 := v5.turns tt (by simp; omega)
        have v2 := v2.turns tt (by simp; omega)
        have v8 := v8.turns tt (by simp; omega)
        have t0 := t0.trans tt (by intro x hx; simp at hx; exact .inr (by omega))
        obtain ⟨kd, hkd⟩ : ∃ kd, kd = s.readText.2.readByte.1 := ⟨_, rfl⟩
        rw [← hkd]
        have HKD := Lib.hid hkd
        have q8 := v8.cell 1
        have f8 := v8.free 1
        simp only [List.getElem?_cons_zero, List.getElem?_cons_succ] at q8
        have ts := Turns.setCell (L := [p8]) (p := ⟨p8, 1, none⟩) (Turns.refl [p8] y3) (.inl (by simp)) (.int .i64 kd)
        have v8 := v8.set 1 (.int .i64 kd)
        simp only [List.set_cons_succ, List.set_cons_zero] at v8
        have R0 := R0.turns ts (by simp; omega) (by intro x hx; simp at hx; omega)
        have v2 := v2.turns ts (by simp; omega)
        have v5 := v5.turns ts (by simp; omega)
        have o0 := own_tL o0 ts (by intro x hx; simp at hx; subst hx; exact hop8)
        have t0 := t0.trans ts (by intro x hx; simp at hx; exact .inr (by omega))
        have hx6 := Nat.le_trans hx6 ts.size
        obtain ⟨y4, hy4⟩ : ∃ y4, y4 = y3.setCell ⟨p8, 1, none⟩ (.int .i64 kd) := ⟨_, rfl⟩
        rw [← hy4] at v8 R0 v2 v5 o0 t0 hx6
        have FG := Lib.hid (flagX_any w.heap.size g s.readText.2.readByte.2 y4 R0)
        have HY4 := Lib.hid hy4
        have H6 := Lib.hid (And.intro v2 (And.intro v5 (And.intro o0 (And.intro t0 (And.intro hx6 v8)))))
        clear v2 v5 o0 t0 hx6 v8 ts tt dd R0 hkd hy4 BY H5
        go_wp2_with fail
        rw [← HY4.out]
        refine FG.out.mono ?_
        rintro e y5 ⟨rfl, dd⟩
        obtain ⟨v2, v5, o0, t0, hx6, v8⟩ := H6.out
        have R0 := dd.is
        have tt := dd.turns
        have hx6 := Nat.le_trans hx6 tt.size
        have o0 := own_tL o0 tt (by intro x hx; simp at hx; subst hx; intro e; have := (o0.lt _ e).1; omega)
        have v5 := v5.turns tt (by simp; omega)
        have v2 := v2.turns tt (by simp; omega)
        have v8 := v8.turns tt (by simp; omega)
        have t0 := t0.trans tt (by intro x hx; simp at hx; exact .inr (by omega))
        obtain ⟨nl, hnl⟩ : ∃ nl, nl = s.readText.2.readByte.2.readFlag.1 := ⟨_, rfl⟩
        rw [← hnl]
        have HNL := Lib.hid hnl
        have q8 := v8.cell 2
        have f8 := v8.free 2
        simp only [List.getElem?_cons_zero, List.getElem?_cons_succ] at q8
        have ts := Turns.setCell (L := [p8]) (p := ⟨p8, 2, none⟩) (Turns.refl [p8] y5) (.inl (by simp)) (.bool nl)
        have v8 := v8.set 2 (.bool nl)
        simp only [List.set_cons_succ, List.set_cons_zero] at v8
        have R0 := R0.turns ts (by simp; omega) (by intro x hx; simp at hx; omega)
        have v2 := v2.turns ts (by simp; omega)
        have v5 := v5.turns ts (by simp; omega)
        have o0 := own_tL o0 ts (by intro x hx; simp at hx; subst hx; exact hop8)
        have t0 := t0.trans ts (by intro x hx; simp at hx; exact .inr (by omega))
        have hx6 := Nat.le_trans hx6 ts.size
        obtain ⟨y6, hy6⟩ : ∃ y6, y6 = y5.setCell ⟨p8, 2, none⟩ (.bool nl) := ⟨_, rfl⟩
        rw [← hy6] at v8 R0 v2 v5 o0 t0 hx6
        have q5 := v5.cell 1
        simp only [List.getElem?_cons_zero, List.getElem?_cons_succ] at q5
        have r8 := v8.range 0 3
        rw [List.drop_zero, List.take_of_length_le (by simp)] at r8
        have hsz8 : (Try.prog.info? 27).map (·.size) = some ([.string tx, .int .i64 kd, .bool nl] : List Value).length := T27i
        obtain ⟨v7, y8, hr7, ap⟩ := run_append_rd (P := Try.prog) _ T28 28 (o0.alloc (.cells #[.string tx, .int .i64 kd, .bool nl] 27)) (Sl.new y6 #[.string tx, .int .i64 kd, .bool nl] 27 1 3 rfl (by simp [maxLen])) (by intro u hu; simp at hu; rcases hu with rfl | rfl | rfl <;> rfl) (by simp only [maxLen]; omega) (by omega) (by simp; omega)
        have tb : Turns [] y6 (y6.alloc (.cells #[.string tx, .int .i64 kd, .bool nl] 27)) := (Turns.refl _ _).alloc _
        have tc : Turns (Value.slice A k c).ownBlock.toList (y6.alloc (.cells #[.string tx, .int .i64 kd, .bool nl] 27)) y8 := Turns.of_grown ap.grown (by intro x hx; exact .inl (by simpa using hx))
        have hbk : ∀ x ∈ (Value.slice A k c).ownBlock.toList, X6.heap.size ≤ x := by intro x hx; exact (o0.lt x (by simpa using hx)).1
        have R0 := (R0.turns tb (by simp) (by simp)).turns tc (by intro hx; have := hbk _ hx; omega) (by intro x hx; have := hbk _ hx; omega)
        have v5 := (v5.turns tb (by simp)).turns tc (by intro hx; have := hbk _ hx; omega)
        have v2 := (v2.turns tb (by simp)).turns tc (by intro hx; have := hbk _ hx; omega)
        have t0 := (t0.trans tb (by simp)).trans tc (by intro x hx; have := hbk _ hx; exact .inr (by omega))
        have hx6 := Nat.le_trans (Nat.le_trans hx6 tb.size) tc.size
        obtain ⟨A7, c7, rfl⟩ := own_form' ap.own
        have q5z := v5.cell 1
        have f5z := v5.free 1
        simp only [List.getElem?_cons_zero, List.getElem?_cons_succ] at q5z
        have v5z := v5.set 1 (.slice A7 (k + 1) c7)
        simp only [List.set_cons_succ, List.set_cons_zero] at v5z
        have v2z := v2.other (p := ⟨p5, 1, none⟩) (by simp; omega) (.slice A7 (k + 1) c7)
        have tz := Turns.setCell (L := [p5]) (p := ⟨p5, 1, none⟩) (Turns.refl [p5] y8) (.inl (by simp)) (.slice A7 (k + 1) c7)
        have R0z := R0.turns tz (by simp; omega) (by intro x hx; simp at hx; omega)
        have t0z := t0.trans tz (by intro x hx; simp at hx; exact .inr (by omega))
        have hne7 : (Value.slice A7 (k + 1) c7).ownBlock ≠ some p5 := by
          intro e; have := (ap.own.lt _ e).1; omega
        have o0z := own_tL ap.own tz (by intro x hx; simp at hx; subst hx; exact hne7)
        have hxz := Nat.le_trans hx6 tz.size
        have hce := Lib.hid (show colCells (s3.cols (k + 1)).1 = colCells l ++ [.string tx, .int .i64 kd, .bool nl] by rw [HNX.out, HTX.out, HKD.out, HNL.out]; rw [colCells_app]; rfl)
        have hre := Lib.hid (show (s3.cols (k + 1)).2 = s.readText.2.readByte.2.readFlag.2 by rw [HNX.out]; rfl)
        have ho : (y8.setCell ⟨p5, 1, none⟩ (.slice A7 (k + 1) c7)).ownsRow X6.heap.size 27 3 (.slice A7 (k + 1) c7) (k + 1) (colCells (s3.cols (k + 1)).1) := by rw [hce.out]; exact o0z
        have hr : IsX (y8.setCell ⟨p5, 1, none⟩ (.slice A7 (k + 1) c7)) w.heap.size g (s3.cols (k + 1)).2 := by rw [hre.out]; exact R0z
        have HF := Lib.hid (And.intro hr (And.intro v2z (And.intro v5z (And.intro ho (And.intro t0z hxz)))))
        have HY6 := Lib.hid hy6
        have HR7 := Lib.hid hr7
        clear v5z v2z tz R0z t0z hne7 o0z hxz ho hr ap R0 v2 v5 o0 t0 hx6 v8 tb tc ts tt dd hnl hy6 hbk FG H6 hr7
        go_upto_region 12 with fail
        rw [← HY6.out]
        have hr7 := HR7.out
        go_wp2_with (first
          | (refine wpList_load_mid rfl 27 (.tmp 8) rfl p8 0 rfl _ _ r8 Try.underlying27 rfl hsz8 ?_)
          | (at_builtin; refine wpList_append_at rfl (.tmp 43) (.tmp 45) rfl hr7 rfl rfl ?_))
        clear hr7
        go_roundw
        case rel => exact ⟨k + 1, A7, c7, by omega, by go_num, HF.out.1, HF.out.2.1, HF.out.2.2.1, HF.out.2.2.2.1, HF.out.2.2.2.2.1, HF.out.2.2.2.2.2⟩
        case measure => (simp [intOf] <;> omega)
      · have hres := Lib.hid (HRES.out (by rcases hexit with ⟨_, h⟩ | ⟨_, h⟩; exact .inl h; exact .inr h))
        have IN := Lib.hid (XInt8_any w.heap.size g s wr R0)
        have H4 := Lib.hid (And.intro v2 (And.intro v5 (And.intro t0 (And.intro hx6 o0))))
        have hft0 := Lib.hid (show ∀ (nm' : ByteArray) (key : Int) (only : Bool), nm'.size ≤ 9223372036854775807 → (⟨nm', l, key, only⟩ : Sch).fits from fun nm' key only h => ⟨h, fun c hc => HNMS.out c hc⟩)
        clear R0 v2 v5 t0 hx6 o0 HRES HNX HNMS hkn q5
        rcases hexit with ⟨hx1, hx2⟩ | ⟨hx1, hx2⟩
        case' inl => (have hx3 : n ≤ (k : Int) := by omega)
        case' inr => (have hx3 : (s.err == 0) = false := by simpa using hx2)
        all_goals
          clear hx2
          go_upto_region 13 with fail
          go_wp2_with fail
          refine IN.out.mono ?_
          rintro e z1 ⟨rfl, dd⟩
          obtain ⟨v2, v5, t0, hx6, o6⟩ := H4.out
          have tt := dd.turns
          have hx6 := Nat.le_trans hx6 tt.size
          have v2 := v2.turns tt (by simp; omega)
          have v5 := v5.turns tt (by simp; omega)
          have t0 := t0.trans tt (by intro x hx; simp at hx; exact .inr (by omega))
          have o6 := own_tL o6 tt (by intro x hx; simp at hx; subst hx; intro e; have := (o6.lt _ e).1; omega)
          have R0 := dd.is
          have hkk := Lib.hid (show s.tailKey = (s.readInt.1, s.readInt.2.readFlag.1, s.readInt.2.readFlag.2) from rfl)
          generalize s.readInt.2 = sa at R0 hkk
          generalize s.readInt.1 = key at hkk
          have q2 := v5.cell 2
          have f2 := v5.free 2
          simp only [List.getElem?_cons_zero, List.getElem?_cons_succ] at q2
          have ts := Turns.setCell (L := [p5]) (p := ⟨p5, 2, none⟩) (Turns.refl [p5] z1) (.inl (by simp)) (.int .i64 key)
          have v5 := v5.set 2 (.int .i64 key)
          simp only [List.set_cons_succ, List.set_cons_zero] at v5
          have v2 := v2.turns ts (by simp; omega)
          have R0 := R0.turns ts (by simp; omega) (by intro x hx; simp at hx; omega)
          have t0 := t0.trans ts (by intro x hx; simp at hx; exact .inr (by omega))
          have o6 := own_tL o6 ts (by intro x hx; simp at hx; subst hx; intro e; have := (o6.lt _ e).1; omega)
          have hx6 := Nat.le_trans hx6 ts.size
          obtain ⟨z2, hz2⟩ : ∃ z2, z2 = z1.setCell ⟨p5, 2, none⟩ (.int .i64 key) := ⟨_, rfl⟩
          rw [← hz2] at v5 v2 R0 t0 o6 hx6
          have TR := Lib.hid (flagX_any w.heap.size g sa z2 R0)
          have HZ2 := Lib.hid hz2
          have H5 := Lib.hid (And.intro v2 (And.intro v5 (And.intro t0 (And.intro hx6 o6))))
          clear v2 v5 t0 o6 tt ts dd IN H4 hz2 R0 hx6
          go_wp2_with fail
          rw [← HZ2.out]
          refine TR.out.mono ?_
          rintro e z3 ⟨rfl, dd⟩
          obtain ⟨v2, v5, t0, hx6, o6⟩ := H5.out
          have tt := dd.turns
          have hx6 := Nat.le_trans hx6 tt.size
          have v2 := v2.turns tt (by simp; omega)
          have v5 := v5.turns tt (by simp; omega)
          have t0 := t0.trans tt (by intro x hx; simp at hx; exact .inr (by omega))
          have o6 := own_tL o6 tt (by intro x hx; simp at hx; subst hx; intro e; have := (o6.lt _ e).1; omega)
          have R0 := dd.is
          generalize sa.readFlag.2 = sb at R0 hkk
          generalize sa.readFlag.1 = only at hkk
          have q3 := v5.cell 3
          have f3 := v5.free 3
          simp only [List.getElem?_cons_zero, List.getElem?_cons_succ] at q3
          have ts := Turns.setCell (L := [p5]) (p := ⟨p5, 3, none⟩) (Turns.refl [p5] z3) (.inl (by simp)) (.bool only)
          have v5 := v5.set 3 (.bool only)
          simp only [List.set_cons_succ, List.set_cons_zero] at v5
          have v2 := v2.turns ts (by simp; omega)
          have R0 := R0.turns ts (by simp; omega) (by intro x hx; simp at hx; omega)
          have t0 := t0.trans ts (by intro x hx; simp at hx; exact .inr (by omega))
          have o6 := own_tL o6 ts (by intro x hx; simp at hx; subst hx; intro e; have := (o6.lt _ e).1; omega)
          have hx6 := Nat.le_trans hx6 ts.size
          obtain ⟨z4, hz4⟩ : ∃ z4, z4 = z3.setCell ⟨p5, 3, none⟩ (.bool only) := ⟨_, rfl⟩
          rw [← hz4] at v5 v2 R0 t0 o6 hx6
          have EN := Lib.hid (XEnd_any w.heap.size g sb z4 R0)
          have HZ4 := Lib.hid hz4
          have H6 := Lib.hid (And.intro v2 (And.intro v5 (And.intro t0 (And.intro hx6 o6))))
          clear v2 v5 t0 o6 tt ts dd TR H5 hz4 R0 hx6
          go_wp2_with fail
          rw [← HZ4.out]
          refine EN.out.mono ?_
          rintro e z5 ⟨rfl, dd⟩
          obtain ⟨v2, v5, t0, hx6, o6⟩ := H6.out
          have tt := dd.turns
          have hwz := Nat.le_trans hx6 tt.size
          have v2 := v2.turns tt (by simp; omega)
          have v5 := v5.turns tt (by simp; omega)
          have t0 := t0.trans tt (by intro x hx; simp at hx; exact .inr (by omega))
          have o6 := own_tL o6 tt (by intro x hx; simp at hx; subst hx; intro e; have := (o6.lt _ e).1; omega)
          have H7 := Lib.hid (And.intro v2 (And.intro v5 (And.intro t0 o6)))
          have hres := Lib.hid (show res = finish ⟨nm, l, key, only⟩ sb.endErr by rw [hres.out, hkk.out])
          have hft : (⟨nm, l, key, only⟩ : Sch).fits := hft0.out nm key only (by
            rw [HN2.out, strOf_size]
            have := readText_len s0
            omega)
          generalize sb.endErr = se at hres
          have sl := Sl.of_own o6
          clear EN hkk tt dd hx6
          by_cases hse : se = 0
          · subst hse
            have r5 := v5.range 0 4
            rw [List.drop_zero, List.take_of_length_le (by simp)] at r5
            have hsz : (Try.prog.info? 30).map (·.size) = some ([.string nm, .slice A k c, .int .i64 key, .bool only] : List Value).length := by kernel_rfl
            have CK := Lib.hid (refCheck_any ⟨nm, l, key, only⟩ A k c z5.heap.size z5 hft sl (Nat.le_refl _))
            have hS := Lib.hid sl
            clear sl v2 v5 t0 o6
            go_wp2_with (first
              | (refine wpList_load_mid rfl 30 (.tmp 5) rfl p5 0 rfl _ _ r5 Try.underlying30 rfl hsz ?_)
              | fail)
            refine CK.out.mono ?_
            rintro e z6 ⟨rfl, tt⟩
            have v2 := H7.out.1.turns tt (by simp)
            have v5 := H7.out.2.1.turns tt (by simp)
            have t0 := H7.out.2.2.1.trans tt (by simp)
            have r6 := rangeT tt r5
            have sl : Sl z6 z5.heap.size 3 (.slice A k c) k (colCells l) := tt.slice hS.out (Nat.le_refl _) (by simp)
            have hz6 := tt.size
            have hbp : (Value.slice A k c).ownBlock ≠ some p2 := by
              intro e
              have := (H7.out.2.2.2.lt _ e).1
              omega
            obtain ⟨ck, hcke⟩ : ∃ ck, ck = checkS ⟨nm, l, key, only⟩ := ⟨_, rfl⟩
            have hck0 := Lib.hid hcke.symm
            rw [← hcke]
            clear tt CK r5 hS hcke
            by_cases hckn : ck = 0
            · subst hckn
              have hp2e := HP2.out
              have q0 := v2.cell 0
              have gq0 := v2.free 0
              have q1 := v2.cell 1
              have gq1 := v2.free 1
              have q2 := v2.cell 2
              have gq2 := v2.free 2
              have q3 := v2.cell 3
              have gq3 := v2.free 3
              simp only [List.getElem?_cons_zero, List.getElem?_cons_succ] at q0 q1 q2 q3
              have vz := v2.setCells [.string nm, .slice A k c, .int .i64 key, .bool only] 0
              rw [spl_whole _ _ (by rfl)] at vz
              have tz := Turns.setCells (L := []) (b := p2) (.inr (by omega)) [.string nm, .slice A k c, .int .i64 key, .bool only] 0 t0
              have ts := Turns.setCells (L := [p2]) (b := p2) (.inl (by simp)) [.string nm, .slice A k c, .int .i64 key, .bool only] 0 (Turns.refl [p2] z6)
              have sz := ts.slice (sl.more (Nat.le_refl _)) (by simpa using hz6) (by intro x hx; simp at hx; subst hx; exact hbp)
              have HR := Lib.hid (show res = (⟨nm, l, key, only⟩, 0) by rw [hres.out]; unfold finish; simp [hck0.out])
              have HE := Lib.hid (And.intro vz (And.intro tz (And.intro sz (Nat.le_trans hz6 ts.size))))
              clear vz tz v2 t0 v5 hp2e ts sz sl
              go_wp2_with (first
                | (refine wpList_load_mid rfl 30 (.tmp 5) rfl p5 0 rfl _ _ r6 Try.underlying30 rfl hsz ?_)
                | fail)
              have F := HE.out
              (try simp only [Exit.inBlock, Exit.then])
              refine bodyPost_ret (results_two rfl _ _ p2 _ _ _ _ rfl rfl F.1 Try.underlying30 rfl (by kernel_rfl)) rfl ?_
              exact PRes_full (S := ⟨nm, l, key, only⟩) HR.out (F.2.2.1.more F.2.2.2) F.2.1
            · clear sl
              have hp2e := HP2.out
              have q0 := v2.cell 0
              have gq0 := v2.free 0
              have q1 := v2.cell 1
              have gq1 := v2.free 1
              have q2 := v2.cell 2
              have gq2 := v2.free 2
              have q3 := v2.cell 3
              have gq3 := v2.free 3
              simp only [List.getElem?_cons_zero, List.getElem?_cons_succ] at q0 q1 q2 q3
              have vz := v2.setCells [.string ⟨#[]⟩, .slice none 0 0, .int .i64 0, .bool false] 0
              rw [spl_whole _ _ (by rfl)] at vz
              have tz := Turns.setCells (L := []) (b := p2) (.inr (by omega)) [.string ⟨#[]⟩, .slice none 0 0, .int .i64 0, .bool false] 0 t0
              have HR := Lib.hid (show res = (noSch, ck) from by rw [hres.out]; unfold finish; simp [hck0.out, hckn])
              have HE := Lib.hid (And.intro vz tz)
              clear vz tz v2 t0 v5 hp2e
              go_wp2_with fail
              have F := HE.out
              (try simp only [Exit.inBlock, Exit.then])
              refine bodyPost_ret (results_two rfl _ _ p2 _ _ _ _ rfl rfl F.1 Try.underlying30 rfl (by kernel_rfl)) rfl ?_
              exact PRes_zero HR.out F.2
          · clear sl o6
            have hp2e := HP2.out
            have q0 := v2.cell 0
            have gq0 := v2.free 0
            have q1 := v2.cell 1
            have gq1 := v2.free 1
            have q2 := v2.cell 2
            have gq2 := v2.free 2
            have q3 := v2.cell 3
            have gq3 := v2.free 3
            simp only [List.getElem?_cons_zero, List.getElem?_cons_succ] at q0 q1 q2 q3
            have vz := v2.setCells [.string ⟨#[]⟩, .slice none 0 0, .int .i64 0, .bool false] 0
            rw [spl_whole _ _ (by rfl)] at vz
            have tz := Turns.setCells (L := []) (b := p2) (.inr (by omega)) [.string ⟨#[]⟩, .slice none 0 0, .int .i64 0, .bool false] 0 t0
            have HR := Lib.hid (show res = (noSch, se) from by rw [hres.out]; unfold finish; simp [hse])
            have HE := Lib.hid (And.intro vz tz)
            clear vz tz v2 t0 v5 hp2e
            go_wp2_with fail
            have F := HE.out
            (try simp only [Exit.inBlock, Exit.then])
            refine bodyPost_ret (results_two rfl _ _ p2 _ _ _ _ rfl rfl F.1 Try.underlying30 rfl (by kernel_rfl)) rfl ?_
            exact PRes_zero HR.out F.2
end Go.Proofs.Ytdllgnccjejhiaa
