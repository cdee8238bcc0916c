/- Rows are read: code's Parse. -/
import Derived.Test.YtfehhiegnhplhaaVRd
import Derived.Test.YtfehhiegnhplhaaPats
import Derived.Deep.DeepCutAuto
namespace Go.Proofs.Ytfehhiegnhplhaa
open Go.RowKit
set_option linter.unusedVariables false
set_option maxRecDepth 10000
set_option linter.unusedSimpArgs false
set_option linter.unnecessarySimpa false

theorem TV : SliceTy Try.prog 22 28 (.agg #[.int .i64 0, .int .i64 0, .string ⟨#[]⟩]) 3 32 := ⟨Try.underlying22, by kernel_rfl, rfl, by omega⟩
set_option maxHeartbeats 400000 in
theorem CloneVal_any (v : Value) (n : Nat) (bs : List Value) (h1 : ∀ u ∈ bs, u.oneCell' = true) (w : World) (h : Sl w w.heap.size 3 v n bs) (hn : n ≤ 100000) :
    Calls Try.prog 27 #[v] w fun e w' => ∃ v', e = .returned v' ∧ w'.ownsRow w.heap.size 28 3 v' n bs ∧ Turns [] w w' := by
  have h' := h
  obtain ⟨hl, A, c, rfl, hnc, hcm, hA, hrd⟩ := h
  have hnil := fun w => Lib.run_eql_slice_nil (P := Try.prog) w 22 28 A n c 0 0 Try.underlying22
  rcases A with _ | ad
  · have := hA rfl
    subst this
    have : n = 0 := by omega
    subst this
    have : bs = [] := List.eq_nil_of_length_eq_zero (by omega)
    subst this
    go_enter Try.func27, Try.ntmps27
    go_wp2_with fail
    go_ret
    exact ⟨_, rfl, World.ownsRow_nil _ _ _ _, Turns.refl _ _⟩
  · have hown : (w.alloc (.cells #[] 28)).ownsRow w.heap.size 28 3 (.slice (some ⟨w.heap.size, 0, none⟩) 0 0) 0 [] :=
      World.ownsRow_made w #[] 0 (Nat.le_refl _) (Nat.zero_le _) (by simp)
    go_enter Try.func27, Try.ntmps27
    go_wp2_with (at_builtin; refine wpList_append _ rfl (.tmp 5) (.tmp 6) rfl (run_append_rd _ TV _ hown (h'.alloc (Nat.le_refl _) _) h1 (by simp only [maxLen]; omega) (by omega) (by simp)) rfl rfl ?_; intro v' w' ap)
    go_ret
    exact ⟨v', rfl, by simpa using ap.own, Turns.of_below (L := []) (ap.below ((Below.refl _ _).alloc (Nat.le_refl _) _) hown (Nat.le_refl _) (by simp))⟩

theorem vsCheck_bad : ∀ (l : List Val) (k : Nat) (hk : k < l.length), (∀ x ∈ l.take k, vcheck x = 0) → vcheck l[k] ≠ 0 → vsCheck l = vcheck l[k]
  | [], k, hk, _, _ => by simp at hk
  | v :: l, 0, hk, _, hb => by rw [vsCheck]; exact if_neg hb
  | v :: l, k + 1, hk, ha, hb => by
    rw [vsCheck, if_pos (ha v (by simp))]
    exact vsCheck_bad l k (by simpa using hk) (fun x hx => ha x (by simp [hx])) hb
/-- What a reading hands back: a row and an error. -/
def RRes (w : World) (r : List Val × Int) (e : Ending) (w' : World) : Prop :=
  ∃ A n c, e = .returned (.tuple #[.slice A n c, .int .i64 r.2]) ∧ w'.ownsRow w.heap.size 28 3 (.slice A n c) n (valCells r.1) ∧ Turns [] w w'
/-- One value appended onto a row of one's own. -/
theorem val_append {base : Nat} {w : World} {v : Value} {l : List Val} (x : Val) (h : w.ownsRow base 28 3 v l.length (valCells l)) (hb : base ≤ w.heap.size) (hl : l.length ≤ 100000) (ty : TypeId) :
    ∃ v' w', (Builtin.append_ #[22, 22] ty #[v, .slice (some ⟨w.heap.size, 0, none⟩) 1 1]).run Try.prog (w.alloc (.cells #[.int .i64 x.kind, .int .i64 x.n, .string x.s] 28)) = .ok v' w' ∧
      w'.ownsRow base 28 3 v' (l.length + 1) (valCells (l ++ [x])) ∧ Turns v.ownBlock.toList w w' ∧ (∀ k ∈ v.ownBlock.toList, base ≤ k) ∧ (v'.ownBlock = v.ownBlock ∨ ∃ g, v'.ownBlock = some g ∧ w.heap.size ≤ g) := by
  have ho := h.alloc (.cells #[.int .i64 x.kind, .int .i64 x.n, .string x.s] 28)
  obtain ⟨v', w', hr, ap⟩ := run_append_rd (P := Try.prog) _ TV ty ho (Sl.new w #[.int .i64 x.kind, .int .i64 x.n, .string x.s] 28 1 3 rfl (by simp [maxLen])) (by intro u hu; simp at hu; rcases hu with rfl | rfl | rfl <;> rfl) (by simp only [maxLen]; omega) (by omega) (by simp; omega)
  have hbk : ∀ k ∈ v.ownBlock.toList, base ≤ k := by intro k hk; exact (h.lt k (by simpa using hk)).1
  refine ⟨v', w', hr, ?_, ?_, hbk, ?_⟩
  · rw [valCells_app]
    exact ap.own
  · exact Turns.trans (L' := v.ownBlock.toList) ((Turns.refl _ w).alloc _) (Turns.of_grown ap.grown (by intro k hk; exact .inl (by simpa using hk))) (fun k hk => .inl hk)
  · rcases ap.lies with h | ⟨g, h1, h2⟩
    · exact .inl h
    · refine .inr ⟨g, h1, ?_⟩
      simp at h2
      omega

set_option maxRecDepth 100000 in
set_option maxHeartbeats 8000000 in
theorem RowParse_any (v : Value) (bs : List UInt8) (w : World) (h : Sl w w.heap.size 1 v bs.length (bvs bs)) (hm : bs.length ≤ 100000000) :
    Calls Try.prog 12 #[v] w (RRes w (rowRes bs)) := by
  obtain ⟨res, hres⟩ : ∃ r, r = rowRes bs := ⟨_, rfl⟩
  rw [← hres]
  obtain ⟨s0, hs0⟩ : ∃ s0, s0 = RS.mk bs 0 := ⟨_, rfl⟩
  have hfin := Lib.hid (show res = s0.row by rw [hres, hs0]; rfl)
  clear hres
  have NW := Lib.hid (New_any v bs w h (by omega))
  have hmf : ∀ (fn : Fn) (first cap : Array Value) (w : World), (Instr.makeFunc fn first cap).run Try.prog w = .ok (.func fn first cap) w := fun _ _ _ _ => rfl
  clear h
  go_enter Try.func12, Try.ntmps12
  go_wp2_with fail
  refine NW.out.mono ?_
  rintro e x1 ⟨g, rfl, hg, R0, bel⟩
  rw [← hs0] at R0
  have t0 := Turns.of_below (L := []) bel
  obtain ⟨p4, hp4⟩ : ∃ p4, p4 = x1.heap.size := ⟨_, rfl⟩
  obtain ⟨X1, hX1⟩ : ∃ X1, X1 = x1.alloc (.cells #[.pointer (some ⟨g, 0, none⟩)] 49) := ⟨_, rfl⟩
  have v4 := Blk.new x1 [.pointer (some ⟨g, 0, none⟩)] 49
  rw [show x1.alloc (.cells [.pointer (some ⟨g, 0, none⟩)].toArray 49) = X1 from hX1.symm, ← hp4] at v4
  have ta : Turns [] x1 X1 := by rw [hX1]; exact (Turns.refl _ _).alloc _
  have hgp : g < p4 := by have := R0.lt; omega
  have R0 := R0.turns ta (by simp) (by simp)
  have t0 := t0.trans ta (by simp)
  have BY := Lib.hid (RByte1_any g g s0 X1 R0)
  have hbd := readByte_bd s0
  have HX1 := Lib.hid hX1
  have HP4 := Lib.hid hp4
  have c4 := v4.cell 0
  simp only [List.getElem?_cons_zero] at c4
  have H1 := Lib.hid (And.intro v4 t0)
  clear hX1 hp4 ta bel v4 t0 R0 NW
  go_upto_region 3 with fail
  rw [← HX1.out, ← HP4.out]
  go_wp2_with fail
  refine BY.out.mono ?_
  rintro e x2 ⟨rfl, dd⟩
  have tt := dd.turns
  have v4 := H1.out.1.turns tt (by simp; omega)
  have t0 := H1.out.2.trans tt (by intro x hx; simp at hx; exact .inr (by omega))
  have R0 := dd.is
  have h06 := headR_le s0
  obtain ⟨⟨m, s3⟩, hms⟩ : ∃ p, p = s0.headR := ⟨_, rfl⟩
  rw [← hms] at h06
  have hhd := Lib.hid (show ((m, s3) : Nat × RS) = if 6 < s0.readByte.1 then (0, s0.readByte.2.fail 4) else (s0.readByte.1.toNat, s0.readByte.2) by rw [hms]; rfl)
  generalize s0.readByte.2 = s2 at R0 hhd
  generalize s0.readByte.1 = n at hhd hbd
  have HMS := Lib.hid hms
  replace h06 : m ≤ 6 := h06
  have c4 := v4.cell 0
  simp only [List.getElem?_cons_zero] at c4
  have H2 := Lib.hid (And.intro v4 t0)
  clear dd tt v4 t0 BY hms H1
  go_upto_if 21 with fail
  go_cut [6] (fun u wx => u = .int .i64 (m : Nat) ∧ IsR wx g g s3 ∧ Turns [g] x2 wx)
  case first =>
    by_cases h6 : 6 < n
    · have FL := Lib.hid (Fail_any g g s2.rest s2.err 4 x2 R0)
      have he := hhd.out
      rw [if_pos h6] at he
      injection he with e1 e2
      subst e1 e2
      clear hhd R0
      go_wp2_with fail
      refine FL.out.mono ?_
      rintro e x4 ⟨rfl, rr, oo⟩
      have tt : Turns [g] x2 x4 := Turns.of_grown oo (by intro k hk; injection hk with hk; simp [hk])
      clear FL oo
      go_wp2_with fail
      go_meet
      exact ⟨rfl, rr, tt⟩
    · have he := hhd.out
      rw [if_neg h6] at he
      injection he with e1 e2
      subst e2
      have hn0 : (m : Int) = n := by omega
      have HN0 := Lib.hid hn0
      have RR := Lib.hid R0
      clear hn0 hhd e1 R0
      go_wp2_with fail
      go_meet
      exact ⟨by rw [HN0.out], RR.out, Turns.refl _ _⟩
  case rest =>
    obtain ⟨rfl, R0, tt⟩ := hcut
    have v4 := H2.out.1.turns tt (by simp; omega)
    have t0 := H2.out.2.trans tt (by intro x hx; simp at hx; exact .inr (by omega))
    clear tt H2 hhd c4
    obtain ⟨X6, hX6⟩ : ∃ X6, X6 = wc := ⟨_, rfl⟩
    subst hX6
    have hgl := R0.lt
    have H3 := Lib.hid (And.intro R0 (And.intro v4 t0))
    clear R0 v4 t0
    go_wp2_with fail
    go_loopw [7, 26] (fun u i wr => ∃ (k : Nat) (A : Option Addr) (c : Nat), k ≤ m ∧ i = .int .i64 k ∧ u = .slice A k c ∧ IsR wr g g (s3.vals k).2 ∧ wr.ownsRow X6.heap.size 28 3 (.slice A k c) k (valCells (s3.vals k).1) ∧ Turns [g] X6 wr) (fun _ i _ => m - (intOf i).toNat)
    case atStart => exact ⟨0, none, 0, by omega, rfl, rfl, H3.out.1, World.ownsRow_nil _ _ _ _, Turns.refl _ _⟩
    case round =>
      obtain ⟨k, A, c, hk, rfl, rfl, R0, o0, tg⟩ := hrel
      have hlen := s3.vals_len k
      by_cases hlt : k < m
      · have hki : (k : Int) < (m : Int) := by omega
        have hnx : s3.vals (k + 1) = ((s3.vals k).1 ++ [(s3.vals k).2.readVal.1], (s3.vals k).2.readVal.2) := rfl
        obtain ⟨⟨l, s⟩, hls⟩ : ∃ p, p = s3.vals k := ⟨_, rfl⟩
        rw [← hls] at R0 o0 hnx hlen
        dsimp only at R0 o0 hnx hlen
        have VA := Lib.hid (value_any g s wr R0)
        have HNX := Lib.hid hnx
        have HO := Lib.hid (And.intro o0 tg)
        clear hls hnx R0 o0 tg
        subst hlen
        go_wp2_with fail
        refine VA.out.mono ?_
        rintro e y1 ⟨rfl, dd⟩
        have R0 := dd.is
        have tt := dd.turns
        have hsz6 := HO.out.2.size
        have o0 := own_vL HO.out.1 tt (by intro x hx; simp at hx; subst hx; intro e; have := (HO.out.1.lt _ e).1; omega)
        have tg := HO.out.2.trans tt (fun x hx => .inl hx)
        obtain ⟨⟨⟨rk, rn, rs⟩, s9⟩, hrv⟩ : ∃ p, p = s.readVal := ⟨_, rfl⟩
        rw [← hrv] at HNX R0 ⊢
        dsimp only at R0 HNX ⊢
        have hb6 := tg.size
        have o0' : y1.ownsRow X6.heap.size 28 3 (.slice A l.length c) l.length (valCells l) := o0
        obtain ⟨v7, y5, hr7, o7, t7, b7, -⟩ := val_append ⟨rk, rn, rs⟩ o0' hb6 (by omega) 22
        obtain ⟨A7, c7, rfl⟩ := own_formV o7
        dsimp only at hr7
        have hr : IsR y5 g g (s3.vals (l.length + 1)).2 := by
          rw [HNX.out]
          exact R0.turns t7 (by intro hx; have := b7 _ hx; omega) (by intro x hx; have := b7 _ hx; omega)
        have ho : y5.ownsRow X6.heap.size 28 3 (.slice A7 (l.length + 1) c7) (l.length + 1) (valCells (s3.vals (l.length + 1)).1) := by
          rw [HNX.out]
          exact o7
        have tz := tg.trans t7 (by intro x hx; have := b7 _ hx; exact .inr (by omega))
        have HF := Lib.hid (And.intro hr (And.intro ho tz))
        clear hr ho tz o7 t7 b7 o0 o0' tg R0 tt dd VA HO
        go_wp2_with (at_builtin; refine wpList_append_at rfl (.tmp 28) (.tmp 31) rfl hr7 rfl rfl ?_)
        go_roundw
        case rel => exact ⟨l.length + 1, A7, c7, by omega, by go_num, rfl, HF.out.1, HF.out.2.1, HF.out.2.2⟩
        case measure => (simp [intOf] <;> omega)
      · obtain rfl : k = m := by omega
        have hrow := Lib.hid (show res = finR (s3.vals k).1 (s3.vals k).2.endErr by
          rw [hfin.out]
          unfold RS.row
          rw [← HMS.out])
        have hfs := vals_fits s3 k
        obtain ⟨⟨l, s⟩, hls⟩ : ∃ p, p = s3.vals k := ⟨_, rfl⟩
        rw [← hls] at R0 o0 hrow hlen hfs
        dsimp only at R0 o0 hrow hlen hfs
        clear hls
        subst hlen
        have v4 := H3.out.2.1.turns tg (by simp; omega)
        have t0 := H3.out.2.2.trans tg (by intro x hx; simp at hx; exact .inr (by omega))
        have c4 := v4.cell 0
        simp only [List.getElem?_cons_zero] at c4
        have hz6 := H3.out.2.2.size
        have o0 := own_more (base := w.heap.size) o0 hz6
        have EN := Lib.hid (End_any g g s wr R0)
        have H4 := Lib.hid (And.intro o0 t0)
        clear R0 o0 v4 t0 tg H3
        go_wp2_with fail
        refine EN.out.mono ?_
        rintro e zz ⟨rfl, rfl⟩
        generalize s.endErr = se at hrow
        clear EN
        by_cases hse : se = 0
        · subst hse
          have hrow := Lib.hid (show res = if vsCheck l ≠ 0 then ([], vsCheck l) else (l, 0) by rw [hrow.out]; rfl)
          have SL := Lib.hid (Sl.of_own H4.out.1)
          obtain ⟨Y, hY⟩ : ∃ Y, Y = wr := ⟨_, rfl⟩
          subst hY
          go_wp2_with fail
          go_loopw [42] (fun i wr => ∃ k : Nat, k ≤ l.length ∧ i = .int .i64 k ∧ (∀ x ∈ l.take k, vcheck x = 0) ∧ Turns [] Y wr) (fun i _ => l.length - (intOf i).toNat)
          case atStart => exact ⟨0, by omega, rfl, by simp, Turns.refl _ _⟩
          case round =>
            obtain ⟨k, hk', rfl, hall, tx⟩ := hrel
            by_cases hlt : k < l.length
            · have hki : (k : Int) < (l.length : Int) := by omega
              obtain ⟨b, off, rfl, rg⟩ := val_range SL.out k hlt
              have hr := rangeV tx rg
              have hfx := hfs _ (List.getElem_mem hlt)
              have hstep : vcheck l[k] = 0 → ∀ x ∈ l.take (k + 1), vcheck x = 0 := by
                intro h x hx
                rw [List.take_succ_eq_append_getElem hlt, List.mem_append, List.mem_singleton] at hx
                rcases hx with hx | rfl
                · exact hall x hx
                · exact h
              have hbad : vcheck l[k] ≠ 0 → vsCheck l = vcheck l[k] := vsCheck_bad l k hlt hall
              obtain ⟨⟨kd, nn, tt⟩, hcc⟩ : ∃ cc, cc = l[k] := ⟨_, rfl⟩
              rw [← hcc] at hr hfx hstep hbad
              replace hr : wr.rangeAt b (off + k * 3) [.int .i64 kd, .int .i64 nn, .string tt] := hr
              have hsz := size_val kd nn tt
              obtain ⟨X1, hX1⟩ : ∃ X1, X1 = wr.alloc (.cells #[.int .i64 kd, .int .i64 nn, .string tt] 28) := ⟨_, rfl⟩
              have b1 := (Blk.new wr [.int .i64 kd, .int .i64 nn, .string tt] 28).range 0 3
              rw [show wr.alloc (.cells [.int .i64 kd, .int .i64 nn, .string tt].toArray 28) = X1 from hX1.symm, List.drop_zero, List.take_of_length_le (by simp)] at b1
              have ta : Turns [] Y X1 := by rw [hX1]; exact tx.alloc _
              obtain ⟨p10, hp10⟩ : ∃ p10, p10 = wr.heap.size := ⟨_, rfl⟩
              rw [← hp10] at b1
              have HX := Lib.hid (And.intro hX1 hp10)
              have HT := Lib.hid ta
              have VC := Lib.hid (VCheck_any ⟨kd, nn, tt⟩ X1 hfx.2.2)
              have HS := Lib.hid (And.intro hstep hbad)
              clear hX1 ta tx hall hstep hbad rg hcc hfx hp10
              go_upto_region 18 with (first
                | (refine wpList_load_mid rfl 28 (.tmp 44) rfl b (off + k * 3) rfl _ _ hr Try.underlying28 rfl hsz ?_)
                | fail)
              rw [← HX.out.1, ← HX.out.2]
              go_wp2_with (first
                | (refine wpList_load_mid rfl 28 (.tmp 10) rfl p10 0 rfl _ _ b1 Try.underlying28 rfl hsz ?_)
                | fail)
              refine VC.out.mono ?_
              rintro e x2 ⟨rfl, t2⟩
              have HT2 := Lib.hid (HT.out.trans t2 (by simp))
              clear t2 VC hr b1
              generalize hvc : vcheck ⟨kd, nn, tt⟩ = vc at HS
              by_cases hv0 : vc = 0
              · subst hv0
                go_wp2_with fail
                go_roundw
                case rel => exact ⟨k + 1, by omega, by go_num, (by first | exact HS.out.1 rfl | exact HS.out.1 trivial), HT2.out⟩
                case measure => (simp [intOf] <;> omega)
              · have en : (vc != 0) = true := by simpa using hv0
                have hr2 := Lib.hid (show res = ([], vc) by rw [hrow.out, HS.out.2 hv0, if_pos hv0])
                clear hvc
                go_wp2_with fail
                go_ret2
                rw [hr2.out]
                exact ⟨none, 0, 0, rfl, World.ownsRow_nil _ _ _ _, H4.out.2.trans HT2.out (by simp)⟩
            · obtain rfl : k = l.length := by omega
              rw [List.take_length] at hall
              have hr2 := Lib.hid (show res = (l, 0) by rw [hrow.out, vsCheck_ok l hall]; rfl)
              have sl := tx.slice SL.out (Nat.le_refl _) (by simp)
              have CL := Lib.hid (CloneVal_any (.slice A l.length c) l.length (valCells l) (valCells_one l) wr (sl.more tx.size) (by omega))
              have HT2 := Lib.hid (H4.out.2.trans tx (by simp))
              clear sl tx hall
              go_wp2_with fail
              refine CL.out.mono ?_
              rintro e z1 ⟨v6, rfl, o6, tt⟩
              obtain ⟨A6, c6, rfl⟩ := own_formV o6
              have HE := Lib.hid (And.intro (own_more (base := w.heap.size) o6 HT2.out.size) (HT2.out.trans tt (by simp)))
              clear o6 tt CL
              go_wp2_with fail
              go_ret2
              rw [hr2.out]
              exact ⟨A6, l.length, c6, rfl, HE.out.1, HE.out.2⟩
        · have en : (se != 0) = true := by simpa using hse
          have hr2 := Lib.hid (show res = ([], se) by rw [hrow.out]; unfold finR; rw [if_pos hse])
          go_wp2_with fail
          go_ret2
          rw [hr2.out]
          exact ⟨none, 0, 0, rfl, World.ownsRow_nil _ _ _ _, H4.out.2⟩
end Go.Proofs.Ytfehhiegnhplhaa
