/- Rows are read: the document's Parse. -/
import Derived.Test.YtfehhiegnhplhaaVPs
namespace Go.Proofs.Ytfehhiegnhplhaa
open Go.RowKit
set_option linter.unusedVariables false
set_option maxRecDepth 10000
set_option linter.unusedSimpArgs false
set_option linter.unnecessarySimpa false

theorem IsX.errV {w : World} {B g : Nat} {s : RS} (h : IsX w B g s) : w.cell? ⟨g, 2, none⟩ = some (.int .i64 s.err) := by
  obtain ⟨A, c, all, p, h1, _⟩ := h
  rw [cell_of_row w g 2 _ _ _ h1]; rfl

set_option maxRecDepth 100000 in
set_option maxHeartbeats 8000000 in
theorem refRowParse_any (v : Value) (bs : List UInt8) (w : World) (h : Sl w w.heap.size 1 v bs.length (bvs bs)) (hm : bs.length ≤ 100000000) :
    Calls Try.prog 14 #[v] w (RRes w (rowRes bs)) := by
  obtain ⟨res, hres⟩ : ∃ r, r = rowRes bs := ⟨_, rfl⟩
  rw [← hres]
  obtain ⟨s0, hs0⟩ : ∃ s0, s0 = RS.mk bs 0 := ⟨_, rfl⟩
  have hfin := Lib.hid (show res = s0.row by rw [hres, hs0]; rfl)
  clear hres
  obtain ⟨B, hB⟩ : ∃ B, B = w.heap.size := ⟨_, rfl⟩
  rw [← hB] at h
  have NW := Lib.hid (XNew_any B v bs w h (by omega))
  clear h
  go_enter Try.func14, Try.ntmps14
  go_wp2_with fail
  refine NW.out.mono ?_
  rintro e x1 ⟨g, rfl, hg, R0, bel⟩
  rw [← hs0] at R0
  have hgB : B ≤ g := by omega
  have H1 := Lib.hid (Turns.of_below (L := []) bel)
  have BY := Lib.hid (XByte1_any B g s0 x1 R0)
  have hbd := readByte_bd s0
  clear bel R0 NW
  go_wp2_with fail
  refine BY.out.mono ?_
  rintro e x2 ⟨rfl, dd⟩
  have tt := dd.turns
  have t0 := H1.out.trans tt (by intro x hx; simp at hx; exact .inr (by omega))
  have R0 := dd.is
  have h06 := headR_le s0
  obtain ⟨⟨m, s3⟩, hms⟩ : ∃ p, p = s0.headR := ⟨_, rfl⟩
  rw [← hms] at h06
  have hhd := Lib.hid (show ((m, s3) : Nat × RS) = if 6 < s0.readByte.1 then (0, s0.readByte.2.fail 4) else (s0.readByte.1.toNat, s0.readByte.2) by rw [hms]; rfl)
  generalize s0.readByte.2 = s2 at R0 hhd
  generalize s0.readByte.1 = n at hhd hbd
  have HMS := Lib.hid hms
  replace h06 : m ≤ 6 := h06
  have H2 := Lib.hid t0
  have hmn : (m : Int) = n ∨ (m = 0 ∧ 6 < n ∧ s3.err ≠ 0) := by
    have he := hhd.out
    by_cases h6 : 6 < n
    · rw [if_pos h6] at he
      injection he with e1 e2
      refine .inr ⟨e1, h6, ?_⟩
      rw [e2]
      show failed 4 s2.err ≠ 0
      unfold failed
      split
      · decide
      · assumption
    · rw [if_neg h6] at he
      injection he with e1 e2
      exact .inl (by omega)
  have HMN := Lib.hid hmn
  clear dd tt t0 BY hms H1 hmn
  go_upto_if 16 with fail
  go_cut [] (fun wx => IsX wx B g s3 ∧ Turns [g] x2 wx)
  case first =>
    by_cases h6 : 6 < n
    · have FL := Lib.hid (XFail_any B g s2 4 x2 R0)
      have he := hhd.out
      rw [if_pos h6] at he
      injection he with e1 e2
      subst e1 e2
      clear hhd R0
      go_wp2_with fail
      refine FL.out.mono ?_
      rintro e x4 ⟨rfl, dd⟩
      have tt := dd.turns
      have rr := dd.is
      clear FL dd
      go_wp2_with fail
      go_meet
      exact ⟨rr, tt⟩
    · have he := hhd.out
      rw [if_neg h6] at he
      injection he with e1 e2
      subst e2
      have RR := Lib.hid R0
      clear hhd e1 R0
      go_wp2_with fail
      go_meet
      exact ⟨RR.out, Turns.refl _ _⟩
  case rest =>
    obtain ⟨R0, tt⟩ := hcut
    have t0 := H2.out.trans tt (by intro x hx; simp at hx; exact .inr (by omega))
    clear tt H2 hhd
    obtain ⟨X6, hX6⟩ : ∃ X6, X6 = wc := ⟨_, rfl⟩
    subst hX6
    have hgl := R0.lt
    have hz6 := t0.size
    have H3 := Lib.hid (And.intro R0 t0)
    clear R0 t0
    go_wp2_with fail
    go_loopw [6, 7] (fun u i wr => ∃ (k : Nat) (A : Option Addr) (c : Nat), k ≤ m ∧ i = .int .i64 k ∧ u = .slice A k c ∧ IsX wr B g (s3.vals k).2 ∧ wr.ownsRow X6.heap.size 28 3 (.slice A k c) k (valCells (s3.vals k).1) ∧ Turns [g] X6 wr) (fun _ i _ => m - (intOf i).toNat)
    case atStart => exact ⟨0, none, 0, by omega, rfl, rfl, H3.out.1, World.ownsRow_nil _ _ _ _, Turns.refl _ _⟩
    case round =>
      obtain ⟨k, A, c, hk, rfl, rfl, R0, o0, tg⟩ := hrel
      have hlen := s3.vals_len k
      have hnx : s3.vals (k + 1) = ((s3.vals k).1 ++ [(s3.vals k).2.readVal.1], (s3.vals k).2.readVal.2) := rfl
      have hstop := s0.row_stop k
      rw [← HMS.out] at hstop
      dsimp only at hstop
      have hfull : k = m → res = finR (s3.vals k).1 (s3.vals k).2.endErr := by
        intro hkm
        rw [hfin.out]
        unfold RS.row
        rw [← HMS.out, hkm]
      have hres : (k = m ∨ (s3.vals k).2.err ≠ 0) → res = finR (s3.vals k).1 (s3.vals k).2.endErr := by
        rintro (h | h)
        · exact hfull h
        · rw [hfin.out]; exact hstop hk h
      have hk0 : k = 0 → (s3.vals k).2 = s3 := by intro h; subst h; rfl
      have hfs := vals_fits s3 k
      obtain ⟨⟨l, s⟩, hls⟩ : ∃ p, p = s3.vals k := ⟨_, rfl⟩
      rw [← hls] at R0 o0 hnx hres hk0 hlen hfs
      dsimp only at R0 o0 hnx hres hk0 hlen hfs
      have HNX := Lib.hid hnx
      have HRES := Lib.hid hres
      have ce := R0.errV
      have hcase : (k < m ∧ s.err = 0) ∨ (((m : Int) = n ∧ k = m) ∨ ((k : Int) < n ∧ s.err ≠ 0)) := by
        rcases HMN.out with h | ⟨h1, h2, h3⟩
        · by_cases hkm : k = m
          · exact .inr (.inl ⟨h, hkm⟩)
          · by_cases hs : s.err = 0
            · exact .inl ⟨by omega, hs⟩
            · exact .inr (.inr ⟨by omega, hs⟩)
        · have hkz : k = 0 := by omega
          exact .inr (.inr ⟨by omega, by rw [hk0 hkz]; exact h3⟩)
      have hkn : k < m → (k : Int) < n := by
        intro h
        rcases HMN.out with h' | ⟨h1, h2, h3⟩ <;> omega
      clear hnx hres hstop hfull hk0 hls
      subst hlen
      rcases hcase with ⟨hlt, hs0⟩ | hexit
      · have hki := hkn hlt
        rw [hs0] at ce
        have BY := Lib.hid (XByte1_any B g s wr R0)
        have HO := Lib.hid (And.intro o0 tg)
        have hbd2 := readByte_bd s
        have RV := Lib.hid (show s.readVal = if s.readByte.1 = 0 then (⟨0, 0, ⟨#[]⟩⟩, s.readByte.2) else if s.readByte.1 = 1 then (⟨1, s.readByte.2.readByte.1, ⟨#[]⟩⟩, s.readByte.2.readByte.2) else if s.readByte.1 = 2 then (⟨2, s.readByte.2.readInt.1, ⟨#[]⟩⟩, s.readByte.2.readInt.2) else if s.readByte.1 = 3 then (⟨3, 0, strOf s.readByte.2.readText.1⟩, s.readByte.2.readText.2) else (⟨s.readByte.1, 0, ⟨#[]⟩⟩, s.readByte.2.fail 3) from rfl)
        clear hs0 R0 o0 tg hkn HRES
        go_wp2_with fail
        refine BY.out.mono ?_
        rintro e y1 ⟨rfl, dd⟩
        have R0 := dd.is
        have tt := dd.turns
        have o0 := own_vL HO.out.1 tt (by intro x hx; simp at hx; subst hx; intro e; have := (HO.out.1.lt _ e).1; omega)
        have tg := HO.out.2.trans tt (fun x hx => .inl hx)
        obtain ⟨⟨rv, s9⟩, hrv⟩ : ∃ p, p = s.readVal := ⟨_, rfl⟩
        rw [← hrv] at RV HNX
        dsimp only at HNX
        generalize s.readByte.2 = sb at R0 RV
        generalize s.readByte.1 = kd at RV hbd2
        obtain ⟨p8, hp8⟩ : ∃ p8, p8 = y1.heap.size := ⟨_, rfl⟩
        obtain ⟨X1, hX1⟩ : ∃ X1, X1 = y1.alloc (.cells #[.int .i64 kd, .int .i64 0, .string ⟨#[]⟩] 28) := ⟨_, rfl⟩
        have v8 := Blk.new y1 [.int .i64 kd, .int .i64 0, .string ⟨#[]⟩] 28
        rw [show y1.alloc (.cells [.int .i64 kd, .int .i64 0, .string ⟨#[]⟩].toArray 28) = X1 from hX1.symm, ← hp8] at v8
        have ta : Turns [] y1 X1 := by rw [hX1]; exact (Turns.refl _ _).alloc _
        have hgp8 : g < p8 := by have := tg.size; omega
        have hBp8 : B ≤ p8 := by omega
        have h6p8 : X6.heap.size ≤ p8 := by have := tg.size; omega
        have hop8 : (Value.slice A l.length c).ownBlock ≠ some p8 := by intro e; have := (o0.lt _ e).2; omega
        have R0 := R0.turns ta (by simp) (by simp)
        have o0 := own_v0 o0 ta
        have tg := tg.trans ta (by simp)
        have c8 := v8.cell 0
        simp only [List.getElem?_cons_zero] at c8
        have HX1 := Lib.hid hX1
        have HP8 := Lib.hid hp8
        have HB := Lib.hid (And.intro v8 (And.intro o0 (And.intro tg R0)))
        clear hX1 hp8 ta v8 o0 tg R0 dd tt BY HO hrv
        by_cases h0 : kd = 0
        · subst h0
          obtain ⟨v8, o0, tg, R0⟩ := HB.out
          have hb6 := tg.size
          obtain ⟨v7, y5, hr7, o7, t7, b7, -⟩ := val_append ⟨0, 0, ⟨#[]⟩⟩ o0 hb6 (by omega) 22
          obtain ⟨A7, c7, rfl⟩ := own_formV o7
          dsimp only at hr7
          have hv := RV.out.trans (show _ = ((⟨0, 0, ⟨#[]⟩⟩ : Val), sb) by rw [if_pos rfl])
          injection hv with hv1 hv2
          subst hv1 hv2
          have hr : IsX y5 B g (s3.vals (l.length + 1)).2 := by
            rw [HNX.out]
            exact R0.turns t7 (by intro hx; have := b7 _ hx; omega) (by intro x hx; have := b7 _ hx; omega)
          have ho : y5.ownsRow X6.heap.size 28 3 (.slice A7 (l.length + 1) c7) (l.length + 1) (valCells (s3.vals (l.length + 1)).1) := by
            rw [HNX.out]
            exact o7
          have tz := tg.trans t7 (by intro x hx; have := b7 _ hx; exact .inr (by omega))
          have HF := Lib.hid (And.intro hr (And.intro ho tz))
          have r8 := v8.range 0 3
          rw [List.drop_zero, List.take_of_length_le (by simp)] at r8
          have hsz8 := size_val 0 0 ⟨#[]⟩
          have HR7 := Lib.hid hr7
          clear hr ho tz o7 t7 b7 o0 tg R0 v8 HB hr7 HNX RV
          go_upto_region 19 with fail
          rw [← HX1.out, ← HP8.out]
          have hr7 := HR7.out
          go_wp2_with (first
            | (refine wpList_load_mid rfl 28 (.tmp 8) rfl p8 0 rfl _ _ r8 Try.underlying28 rfl hsz8 ?_)
            | (at_builtin; refine wpList_append_at rfl (.tmp 56) (.tmp 58) rfl hr7 rfl rfl ?_))
          clear hr7
          go_roundw
          case rel => exact ⟨l.length + 1, A7, c7, by omega, by go_num, rfl, HF.out.1, HF.out.2.1, HF.out.2.2⟩
          case measure => (simp [intOf] <;> omega)
        have e0 : (kd == 0) = false := by simpa using h0
        by_cases h1 : kd = 1
        · subst h1
          have CA := Lib.hid (XByte1_any B g sb X1 HB.out.2.2.2)
          go_upto_region 14 with fail
          rw [← HX1.out, ← HP8.out]
          go_wp2_with fail
          refine CA.out.mono ?_
          rintro e x2 ⟨rfl, dd⟩
          have tt := dd.turns
          have v8 := HB.out.1.turns tt (by simp; omega)
          have o0 := own_vL HB.out.2.1 tt (by intro x hx; simp at hx; subst hx; intro e; have := (HB.out.2.1.lt _ e).1; omega)
          have tg := HB.out.2.2.1.trans tt (by intro x hx; exact .inl hx)
          have R0 := dd.is
          have w1 := v8.cell 1
          have y1 := v8.free 1
          simp only [List.getElem?_cons_zero, List.getElem?_cons_succ] at w1
          obtain ⟨X2, hX2⟩ : ∃ X2, X2 = x2.setCell ⟨p8, 1, none⟩ (.int .i64 sb.readByte.1) := ⟨_, rfl⟩
          have ts : Turns [p8] x2 X2 := by rw [hX2]; exact Turns.setCell (L := [p8]) (p := ⟨p8, 1, none⟩) (Turns.refl [p8] x2) (.inl (by simp)) _
          have v8 := v8.set 1 (.int .i64 sb.readByte.1)
          simp only [List.set_cons_succ, List.set_cons_zero] at v8
          have o0 := own_vL o0 ts (by intro x hx; simp at hx; subst hx; exact hop8)
          have R0 := R0.turns ts (by simp; omega) (by intro x hx; simp at hx; omega)
          have tg := tg.trans ts (by intro x hx; simp at hx; exact .inr (by omega))
          rw [← hX2] at v8
          have HX2 := Lib.hid hX2
          clear ts hX2 dd tt CA
          have hb6 := tg.size
          obtain ⟨v7, y5, hr7, o7, t7, b7, -⟩ := val_append ⟨1, sb.readByte.1, ⟨#[]⟩⟩ o0 hb6 (by omega) 22
          obtain ⟨A7, c7, rfl⟩ := own_formV o7
          dsimp only at hr7
          have hv := RV.out.trans (show _ = ((⟨1, sb.readByte.1, ⟨#[]⟩⟩ : Val), sb.readByte.2) by rw [if_neg (by omega), if_pos trivial])
          injection hv with hv1 hv2
          subst hv1 hv2
          have hr : IsX y5 B g (s3.vals (l.length + 1)).2 := by
            rw [HNX.out]
            exact R0.turns t7 (by intro hx; have := b7 _ hx; omega) (by intro x hx; have := b7 _ hx; omega)
          have ho : y5.ownsRow X6.heap.size 28 3 (.slice A7 (l.length + 1) c7) (l.length + 1) (valCells (s3.vals (l.length + 1)).1) := by
            rw [HNX.out]
            exact o7
          have tz := tg.trans t7 (by intro x hx; have := b7 _ hx; exact .inr (by omega))
          have HF := Lib.hid (And.intro hr (And.intro ho tz))
          have r8 := v8.range 0 3
          rw [List.drop_zero, List.take_of_length_le (by simp)] at r8
          have hsz8 := size_val 1 sb.readByte.1 ⟨#[]⟩
          have HR7 := Lib.hid hr7
          clear hr ho tz o7 t7 b7 o0 tg R0 v8 HB hr7 HNX RV
          go_upto_region 19 with fail
          rw [← HX2.out]
          have hr7 := HR7.out
          go_wp2_with (first
            | (refine wpList_load_mid rfl 28 (.tmp 8) rfl p8 0 rfl _ _ r8 Try.underlying28 rfl hsz8 ?_)
            | (at_builtin; refine wpList_append_at rfl (.tmp 56) (.tmp 58) rfl hr7 rfl rfl ?_))
          clear hr7
          go_roundw
          case rel => exact ⟨l.length + 1, A7, c7, by omega, by go_num, rfl, HF.out.1, HF.out.2.1, HF.out.2.2⟩
          case measure => (simp [intOf] <;> omega)
        have e1 : (kd == 1) = false := by simpa using h1
        by_cases h2 : kd = 2
        · subst h2
          have CA := Lib.hid (XInt8_any B g sb X1 HB.out.2.2.2)
          go_upto_region 16 with fail
          rw [← HX1.out, ← HP8.out]
          go_wp2_with fail
          refine CA.out.mono ?_
          rintro e x2 ⟨rfl, dd⟩
          have tt := dd.turns
          have v8 := HB.out.1.turns tt (by simp; omega)
          have o0 := own_vL HB.out.2.1 tt (by intro x hx; simp at hx; subst hx; intro e; have := (HB.out.2.1.lt _ e).1; omega)
          have tg := HB.out.2.2.1.trans tt (by intro x hx; exact .inl hx)
          have R0 := dd.is
          have w1 := v8.cell 1
          have y1 := v8.free 1
          simp only [List.getElem?_cons_zero, List.getElem?_cons_succ] at w1
          obtain ⟨X2, hX2⟩ : ∃ X2, X2 = x2.setCell ⟨p8, 1, none⟩ (.int .i64 sb.readInt.1) := ⟨_, rfl⟩
          have ts : Turns [p8] x2 X2 := by rw [hX2]; exact Turns.setCell (L := [p8]) (p := ⟨p8, 1, none⟩) (Turns.refl [p8] x2) (.inl (by simp)) _
          have v8 := v8.set 1 (.int .i64 sb.readInt.1)
          simp only [List.set_cons_succ, List.set_cons_zero] at v8
          have o0 := own_vL o0 ts (by intro x hx; simp at hx; subst hx; exact hop8)
          have R0 := R0.turns ts (by simp; omega) (by intro x hx; simp at hx; omega)
          have tg := tg.trans ts (by intro x hx; simp at hx; exact .inr (by omega))
          rw [← hX2] at v8
          have HX2 := Lib.hid hX2
          clear ts hX2 dd tt CA
          have hb6 := tg.size
          obtain ⟨v7, y5, hr7, o7, t7, b7, -⟩ := val_append ⟨2, sb.readInt.1, ⟨#[]⟩⟩ o0 hb6 (by omega) 22
          obtain ⟨A7, c7, rfl⟩ := own_formV o7
          dsimp only at hr7
          have hv := RV.out.trans (show _ = ((⟨2, sb.readInt.1, ⟨#[]⟩⟩ : Val), sb.readInt.2) by rw [if_neg (by omega), if_neg (by omega), if_pos trivial])
          injection hv with hv1 hv2
          subst hv1 hv2
          have hr : IsX y5 B g (s3.vals (l.length + 1)).2 := by
            rw [HNX.out]
            exact R0.turns t7 (by intro hx; have := b7 _ hx; omega) (by intro x hx; have := b7 _ hx; omega)
          have ho : y5.ownsRow X6.heap.size 28 3 (.slice A7 (l.length + 1) c7) (l.length + 1) (valCells (s3.vals (l.length + 1)).1) := by
            rw [HNX.out]
            exact o7
          have tz := tg.trans t7 (by intro x hx; have := b7 _ hx; exact .inr (by omega))
          have HF := Lib.hid (And.intro hr (And.intro ho tz))
          have r8 := v8.range 0 3
          rw [List.drop_zero, List.take_of_length_le (by simp)] at r8
          have hsz8 := size_val 2 sb.readInt.1 ⟨#[]⟩
          have HR7 := Lib.hid hr7
          clear hr ho tz o7 t7 b7 o0 tg R0 v8 HB hr7 HNX RV
          go_upto_region 19 with fail
          rw [← HX2.out]
          have hr7 := HR7.out
          go_wp2_with (first
            | (refine wpList_load_mid rfl 28 (.tmp 8) rfl p8 0 rfl _ _ r8 Try.underlying28 rfl hsz8 ?_)
            | (at_builtin; refine wpList_append_at rfl (.tmp 56) (.tmp 58) rfl hr7 rfl rfl ?_))
          clear hr7
          go_roundw
          case rel => exact ⟨l.length + 1, A7, c7, by omega, by go_num, rfl, HF.out.1, HF.out.2.1, HF.out.2.2⟩
          case measure => (simp [intOf] <;> omega)
        have e2 : (kd == 2) = false := by simpa using h2
        by_cases h3 : kd = 3
        · subst h3
          have CA := Lib.hid (XText_read B g sb X1 HB.out.2.2.2)
          go_upto_region 18 with fail
          rw [← HX1.out, ← HP8.out]
          go_wp2_with fail
          refine CA.out.mono ?_
          rintro e x2 ⟨rfl, dd⟩
          have tt := dd.turns
          have v8 := HB.out.1.turns tt (by simp; omega)
          have o0 := own_vL HB.out.2.1 tt (by intro x hx; simp at hx; subst hx; intro e; have := (HB.out.2.1.lt _ e).1; omega)
          have tg := HB.out.2.2.1.trans tt (by intro x hx; exact .inl hx)
          have R0 := dd.is
          have w1 := v8.cell 2
          have y1 := v8.free 2
          simp only [List.getElem?_cons_zero, List.getElem?_cons_succ] at w1
          obtain ⟨X2, hX2⟩ : ∃ X2, X2 = x2.setCell ⟨p8, 2, none⟩ (.string (strOf sb.readText.1)) := ⟨_, rfl⟩
          have ts : Turns [p8] x2 X2 := by rw [hX2]; exact Turns.setCell (L := [p8]) (p := ⟨p8, 2, none⟩) (Turns.refl [p8] x2) (.inl (by simp)) _
          have v8 := v8.set 2 (.string (strOf sb.readText.1))
          simp only [List.set_cons_succ, List.set_cons_zero] at v8
          have o0 := own_vL o0 ts (by intro x hx; simp at hx; subst hx; exact hop8)
          have R0 := R0.turns ts (by simp; omega) (by intro x hx; simp at hx; omega)
          have tg := tg.trans ts (by intro x hx; simp at hx; exact .inr (by omega))
          rw [← hX2] at v8
          have HX2 := Lib.hid hX2
          clear ts hX2 dd tt CA
          have hb6 := tg.size
          obtain ⟨v7, y5, hr7, o7, t7, b7, -⟩ := val_append ⟨3, 0, (strOf sb.readText.1)⟩ o0 hb6 (by omega) 22
          obtain ⟨A7, c7, rfl⟩ := own_formV o7
          dsimp only at hr7
          have hv := RV.out.trans (show _ = ((⟨3, 0, (strOf sb.readText.1)⟩ : Val), sb.readText.2) by rw [if_neg (by omega), if_neg (by omega), if_neg (by omega), if_pos trivial])
          injection hv with hv1 hv2
          subst hv1 hv2
          have hr : IsX y5 B g (s3.vals (l.length + 1)).2 := by
            rw [HNX.out]
            exact R0.turns t7 (by intro hx; have := b7 _ hx; omega) (by intro x hx; have := b7 _ hx; omega)
          have ho : y5.ownsRow X6.heap.size 28 3 (.slice A7 (l.length + 1) c7) (l.length + 1) (valCells (s3.vals (l.length + 1)).1) := by
            rw [HNX.out]
            exact o7
          have tz := tg.trans t7 (by intro x hx; have := b7 _ hx; exact .inr (by omega))
          have HF := Lib.hid (And.intro hr (And.intro ho tz))
          have r8 := v8.range 0 3
          rw [List.drop_zero, List.take_of_length_le (by simp)] at r8
          have hsz8 := size_val 3 0 (strOf sb.readText.1)
          have HR7 := Lib.hid hr7
          clear hr ho tz o7 t7 b7 o0 tg R0 v8 HB hr7 HNX RV
          go_upto_region 19 with fail
          rw [← HX2.out]
          have hr7 := HR7.out
          go_wp2_with (first
            | (refine wpList_load_mid rfl 28 (.tmp 8) rfl p8 0 rfl _ _ r8 Try.underlying28 rfl hsz8 ?_)
            | (at_builtin; refine wpList_append_at rfl (.tmp 56) (.tmp 58) rfl hr7 rfl rfl ?_))
          clear hr7
          go_roundw
          case rel => exact ⟨l.length + 1, A7, c7, by omega, by go_num, rfl, HF.out.1, HF.out.2.1, HF.out.2.2⟩
          case measure => (simp [intOf] <;> omega)
        have e3 : (kd == 3) = false := by simpa using h3
        have h4 : 3 < kd := by omega
        have FL := Lib.hid (XFail_any B g sb 3 X1 HB.out.2.2.2)
        go_upto_region 10 with fail
        rw [← HX1.out, ← HP8.out]
        go_wp2_with fail
        refine FL.out.mono ?_
        rintro e x2 ⟨rfl, dd⟩
        have tt := dd.turns
        have v8 := HB.out.1.turns tt (by simp; omega)
        have c8 := v8.cell 0
        simp only [List.getElem?_cons_zero] at c8
        have o0 := own_vL HB.out.2.1 tt (by intro x hx; simp at hx; subst hx; intro e; have := (HB.out.2.1.lt _ e).1; omega)
        have tg := HB.out.2.2.1.trans tt (by intro x hx; exact .inl hx)
        have R0 := dd.is
        clear dd tt FL
        have hb6 := tg.size
        obtain ⟨v7, y5, hr7, o7, t7, b7, -⟩ := val_append ⟨kd, 0, ⟨#[]⟩⟩ o0 hb6 (by omega) 22
        obtain ⟨A7, c7, rfl⟩ := own_formV o7
        dsimp only at hr7
        have hv := RV.out.trans (show _ = ((⟨kd, 0, ⟨#[]⟩⟩ : Val), sb.fail 3) by rw [if_neg h0, if_neg h1, if_neg h2, if_neg h3])
        injection hv with hv1 hv2
        subst hv1 hv2
        have hr : IsX y5 B g (s3.vals (l.length + 1)).2 := by
          rw [HNX.out]
          exact R0.turns t7 (by intro hx; have := b7 _ hx; omega) (by intro x hx; have := b7 _ hx; omega)
        have ho : y5.ownsRow X6.heap.size 28 3 (.slice A7 (l.length + 1) c7) (l.length + 1) (valCells (s3.vals (l.length + 1)).1) := by
          rw [HNX.out]
          exact o7
        have tz := tg.trans t7 (by intro x hx; have := b7 _ hx; exact .inr (by omega))
        have HF := Lib.hid (And.intro hr (And.intro ho tz))
        have r8 := v8.range 0 3
        rw [List.drop_zero, List.take_of_length_le (by simp)] at r8
        have hsz8 := size_val kd 0 ⟨#[]⟩
        have HR7 := Lib.hid hr7
        clear hr ho tz o7 t7 b7 o0 tg R0 v8 HB hr7 HNX RV
        go_upto_region 19 with fail
        skip
        have hr7 := HR7.out
        go_wp2_with (first
          | (refine wpList_load_mid rfl 28 (.tmp 8) rfl p8 0 rfl _ _ r8 Try.underlying28 rfl hsz8 ?_)
          | (at_builtin; refine wpList_append_at rfl (.tmp 56) (.tmp 58) rfl hr7 rfl rfl ?_))
        clear hr7
        go_roundw
        case rel => exact ⟨l.length + 1, A7, c7, by omega, by go_num, rfl, HF.out.1, HF.out.2.1, HF.out.2.2⟩
        case measure => (simp [intOf] <;> omega)
      · have hrow := Lib.hid (HRES.out (by rcases hexit with ⟨_, h⟩ | ⟨_, h⟩; exact .inl h; exact .inr h))
        have hz6' := tg.size
        have hown := o0
        have o0 := own_more (base := w.heap.size) o0 (by omega)
        have t0 := H3.out.2.trans tg (by intro x hx; simp at hx; exact .inr (by omega))
        have HG := Lib.hid (show (Value.slice A l.length c).ownBlock ≠ some g from fun e => by have := (hown.lt _ e).1; omega)
        have EN := Lib.hid (XEnd_any B g s wr R0)
        have H4 := Lib.hid (And.intro o0 t0)
        clear HRES HNX hkn
        obtain ⟨Y0, hY0⟩ : ∃ Y0, Y0 = wr := ⟨_, rfl⟩
        subst hY0
        rcases hexit with ⟨hx1, hx2⟩ | ⟨hx1, hx2⟩
        case' inl => (have hx3 : n ≤ (l.length : Int) := by omega)
        case' inr => (have hx3 : (s.err == 0) = false := by simpa using hx2)
        all_goals
          clear hx2 R0 o0 t0 tg H3 hfin HMS hown
          go_upto_region 20 with fail
          go_wp2_with fail
          refine EN.out.mono ?_
          rintro e z1 ⟨rfl, dd⟩
          have tt := dd.turns
          have o0 := own_vL H4.out.1 tt (by intro x hx; simp at hx; subst hx; exact HG.out)
          have t0 := H4.out.2.trans tt (by intro x hx; simp at hx; exact .inr (by omega))
          generalize s.endErr = se at hrow
          have SL := Lib.hid (Sl.of_own o0)
          have H5 := Lib.hid (And.intro o0 t0)
          clear EN dd tt o0 t0
          go_wp2_with fail
          go_loopw [9, 10] (fun e i wr => ∃ (k : Nat) (ev : Int), k ≤ l.length ∧ i = .int .i64 k ∧ e = .int .i64 ev ∧ (ev = 0 → se = 0 ∧ ∀ x ∈ l.take k, vcheck x = 0) ∧ (ev ≠ 0 → res = ([], ev)) ∧ Turns [] z1 wr) (fun _ i _ => l.length - (intOf i).toNat)
          case atStart => exact ⟨0, se, by omega, rfl, rfl, fun h => ⟨h, by simp⟩, fun h => by rw [hrow.out]; unfold finR; rw [if_pos h], Turns.refl _ _⟩
          case round =>
            obtain ⟨k, ev, hk', rfl, rfl, hz, hnz, tx⟩ := hrel
            by_cases hev : ev = 0
            · subst hev
              obtain ⟨hse, hall⟩ := hz rfl
              subst hse
              clear hnz hz
              by_cases hlt : k < l.length
              · have hki : (k : Int) < (l.length : Int) := by omega
                obtain ⟨b, off, rfl, rg⟩ := val_range SL.out k hlt
                have hr := rangeV tx rg
                have hfx := hfs _ (List.getElem_mem hlt)
                have hstep : vcheck l[k] = 0 → ∀ x ∈ l.take (k + 1), vcheck x = 0 := by
                  intro h x hx
                  rw [List.take_succ_eq_append_getElem hlt, List.mem_append, List.mem_singleton] at hx
                  rcases hx with hx | rfl
                  · exact hall x hx
                  · exact h
                have hbad : vcheck l[k] ≠ 0 → res = ([], vcheck l[k]) := by
                  intro h
                  rw [hrow.out]
                  unfold finR
                  rw [if_neg (by simp), vsCheck_bad l k hlt hall h, if_pos h]
                obtain ⟨⟨kd, nn, tt⟩, hcc⟩ : ∃ cc, cc = l[k] := ⟨_, rfl⟩
                rw [← hcc] at hr hfx hstep hbad
                replace hr : wr.rangeAt b (off + k * 3) [.int .i64 kd, .int .i64 nn, .string tt] := hr
                have hsz := size_val kd nn tt
                have VC := Lib.hid (refVCheck_any ⟨kd, nn, tt⟩ wr hfx.2.2)
                have HS := Lib.hid (And.intro hstep hbad)
                have HT := Lib.hid tx
                clear tx hall hstep hbad rg hcc hfx
                go_wp2_with (first
                  | (refine wpList_load_mid rfl 28 (.tmp 74) rfl b (off + k * 3) rfl _ _ hr Try.underlying28 rfl hsz ?_)
                  | fail)
                refine VC.out.mono ?_
                rintro e x2 ⟨rfl, t2⟩
                have HT2 := Lib.hid (HT.out.trans t2 (by simp))
                clear t2 VC hr
                generalize vcheck ⟨kd, nn, tt⟩ = vc at HS
                go_wp2_with fail
                go_roundw
                case rel => exact ⟨k + 1, vc, by omega, by go_num, rfl, fun h => ⟨by first | rfl | trivial, HS.out.1 h⟩, HS.out.2, HT2.out⟩
                case measure => (simp [intOf] <;> omega)
              · obtain rfl : k = l.length := by omega
                rw [List.take_length] at hall
                have hr2 := Lib.hid (show res = (l, 0) by rw [hrow.out]; unfold finR; rw [if_neg (by simp), vsCheck_ok l hall]; rfl)
                have HE := Lib.hid (And.intro (own_v0 H5.out.1 tx) (H5.out.2.trans tx (by simp)))
                clear tx hall
                go_wp2_with fail
                go_ret2
                rw [hr2.out]
                exact ⟨A, l.length, c, rfl, HE.out.1, HE.out.2⟩
            · have en : (ev != 0) = true := by simpa using hev
              have ee : (ev == 0) = false := by simpa using hev
              have hr2 := Lib.hid (hnz hev)
              have HE := Lib.hid (H5.out.2.trans tx (by simp))
              clear hz hnz tx
              by_cases hlt : k < l.length
              · have hki : (k : Int) < (l.length : Int) := by omega
                go_wp2_with fail
                go_ret2
                rw [hr2.out]
                exact ⟨none, 0, 0, rfl, World.ownsRow_nil _ _ _ _, HE.out⟩
              · have hki : ¬ (k : Int) < (l.length : Int) := by omega
                go_wp2_with fail
                go_ret2
                rw [hr2.out]
                exact ⟨none, 0, 0, rfl, World.ownsRow_nil _ _ _ _, HE.out⟩
end Go.Proofs.Ytfehhiegnhplhaa
