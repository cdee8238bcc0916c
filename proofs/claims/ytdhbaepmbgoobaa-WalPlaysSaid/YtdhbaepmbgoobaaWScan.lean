/- The records, as far as they lie whole: Scan. -/
import Derived.Test.YtdhbaepmbgoobaaWAt
namespace Go.Proofs.Ytdhbaepmbgoobaa
open Go.RowKit
set_option linter.unusedVariables false
set_option maxRecDepth 10000
set_option linter.unusedSimpArgs false
set_option linter.unnecessarySimpa false

/-- How many bytes are scanned where the numbers are not good. -/
def DS.upto (st : DS) : Nat := if st.size0 < 0 then 0 else if (st.body.length : Int) < st.size0 then st.body.length else st.size0.toNat
/-- What Scan hands back. -/
structure Scanned (w : World) (st : DS) (e : Ending) (w' : World) : Prop where
  turns : Turns [] w w'
  gone : st.dead = true → e = .returned (.tuple #[.slice none 0 0, .bool false])
  good : st.dead = false → st.look.bad = false → ∃ A n c, e = .returned (.tuple #[.slice A n c, .bool true]) ∧ SlsF w.heap.size w' (.slice A n c) n st.look.recs
  bad : st.dead = false → st.look.bad = true → ∃ A n c, e = .returned (.tuple #[.slice A n c, .bool false]) ∧ SlsF w.heap.size w' (.slice A n c) n (cutL st.body.length (st.body.take st.upto)).1

set_option maxRecDepth 100000 in
set_option maxHeartbeats 8000000 in
theorem Scan_any (w : World) (B : Nat) (D : DL) (p : Nat) (st : DS) (h : DiskIs w B D p st) :
    Calls Try.prog 21 #[.pointer (some ⟨D.g, 0, none⟩)] w (Scanned w st) := by
  have LK := Lib.hid (look_any w B D p st h)
  have hbd := look_bds st
  have hp := h.pages
  have hln := h.lenN
  have HD := Lib.hid h
  clear h
  go_enter Try.func21, Try.ntmps21
  go_wp2_with fail
  refine LK.out.mono ?_
  rintro e x1 ⟨t1, hg, hh⟩
  have HT := Lib.hid t1
  clear LK t1
  cases hd : st.dead
  · obtain ⟨A, n, c, rfl, sl⟩ := hh hd
    clear hg hh
    obtain ⟨sz, hsz⟩ : ∃ x, x = st.look.size := ⟨_, rfl⟩
    obtain ⟨ct, hct⟩ : ∃ x, x = st.look.count := ⟨_, rfl⟩
    obtain ⟨bd, hbdd⟩ : ∃ x, x = st.look.bad := ⟨_, rfl⟩
    rw [← hsz, ← hct] at hbd
    rw [← hsz, ← hct, ← hbdd]
    have HL := Lib.hid (And.intro hsz (And.intro hct hbdd))
    obtain ⟨p5, hp5⟩ : ∃ p5, p5 = x1.heap.size := ⟨_, rfl⟩
    obtain ⟨x2, hx2⟩ : ∃ x2, x2 = x1.alloc (.cells #[.int .i64 sz, .int .i64 ct, .slice A n c, .bool bd] 82) := ⟨_, rfl⟩
    have v5 := Blk.new x1 [.int .i64 sz, .int .i64 ct, .slice A n c, .bool bd] 82
    rw [show x1.alloc (.cells [.int .i64 sz, .int .i64 ct, .slice A n c, .bool bd].toArray 82) = x2 from hx2.symm, ← hp5] at v5
    have ta : Turns [] x1 x2 := by rw [hx2]; exact (Turns.refl _ _).alloc _
    have HT2 := Lib.hid (HT.out.trans ta (by simp))
    have q2 := v5.cell 2
    have q3 := v5.cell 3
    simp only [List.getElem?_cons_zero, List.getElem?_cons_succ] at q2 q3
    have HX := Lib.hid (And.intro hx2 hp5)
    have HS := Lib.hid (sl.on ta (by simp))
    clear hsz hct hbdd hx2 hp5 ta sl v5
    go_upto_region 2 with fail
    rw [← HX.out.1, ← HX.out.2]
    cases bd
    · go_wp2_with fail
      go_ret2
      exact ⟨HT2.out, fun h => (by rw [hd] at h; cases h), fun _ _ => ⟨A, n, c, rfl, HS.out⟩, fun _ h => (by rw [← HL.out.2.2] at h; cases h)⟩
    · have d2 := HD.out.turns HT2.out (by simp)
      have RD := Lib.hid (Read_any x2 B D p 0 st d2 (by omega) hd)
      clear d2 HS hbd
      go_wp2_with fail
      refine RD.out.mono ?_
      rintro e x3 ⟨v3, rfl, o3, bel⟩
      have T3 := Lib.hid (HT2.out.trans (Turns.of_below (L := []) bel) (by simp))
      have hpl : (pageAt st.now 0).length = 64 := pageAt_length st.now 0 p hln (by omega)
      have s3 := Sl.of_own o3
      obtain ⟨A3, c3, rfl⟩ := own_formV o3
      have zL := zero_lazy
      obtain ⟨x4, hx4⟩ : ∃ x4, x4 = x3.alloc (.cells #[.pointer (some ⟨D.g, 0, none⟩), .int .u32 0, .int .i32 0, .int .u32 0, .slice none 0 0, .int .i64 0] 116) := ⟨_, rfl⟩
      have bl := Blk.new x3 (LZ D.g 0 0 (.slice none 0 0) 0) 116
      rw [show x3.alloc (.cells (LZ D.g 0 0 (.slice none 0 0) 0).toArray 116) = x4 from hx4.symm] at bl
      have ta : Turns [] x3 x4 := by rw [hx4]; exact (Turns.refl _ _).alloc _
      obtain ⟨gl, hgl⟩ : ∃ gl, gl = x3.heap.size := ⟨_, rfl⟩
      rw [← hgl] at bl
      have t4 := T3.out.trans ta (by simp)
      have d4 := HD.out.turns t4 (by simp)
      have hglD : gl ∉ D.all := by intro hm; have := HD.out.lt _ hm; have := T3.out.size; omega
      have hglw : w.heap.size ≤ gl := by rw [hgl]; exact T3.out.size
      have BY := Lib.hid (bytes_any x4 B D p st d4 gl bl hglD)
      have s4 := (ta.slice s3 (Nat.le_refl _) (by simp)).more ta.size
      have hA3 : ∀ b, (Value.slice A3 64 c3).ownBlock = some b → b < gl := by rw [hgl]; intro b hb; exact (o3.lt b hb).2
      have H4 := Lib.hid (And.intro s4 (And.intro t4 hA3))
      have HX4 := Lib.hid (And.intro hx4 hgl)
      clear s3 o3 bel ta d4 t4 hx4 hgl bl s4 hA3 RD
      go_upto_region 8 with fail
      rw [← HX4.out.1, ← HX4.out.2]
      go_wp2_with fail
      refine BY.out.mono ?_
      rintro e x7 ⟨tb, -, hh⟩
      obtain ⟨A7, c7, rfl, o7⟩ := hh hd
      have t7 := H4.out.2.1.trans tb (by intro x hx; simp at hx; subst hx; exact .inr hglw)
      have s7 := (tb.slice H4.out.1 (Nat.le_refl _) (by intro x hx e; simp at hx; subst hx; have := H4.out.2.2 _ e; omega)).more tb.size
      have NW := Lib.hid (New_any (.slice A3 64 c3) (pageAt st.now 0) x7 (by rw [hpl]; exact s7) (by omega))
      have b7 := Sl.of_own o7
      have hcb : st.body.length ≤ c7 ∧ c7 ≤ 9223372036854775807 := by
        obtain ⟨_, _, _, ee, h1, h2, _⟩ := b7
        injection ee with _ _ e3
        subst e3
        unfold maxLen at h2
        omega
      have hbl := body_len st p hln
      have H7 := Lib.hid (And.intro b7 t7)
      clear b7 t7 s7 o7 tb hh BY H4
      obtain ⟨bl, hbl2⟩ : ∃ bl, bl = st.body.length := ⟨_, rfl⟩
      rw [← hbl2] at hcb hbl ⊢
      have HBL := Lib.hid hbl2
      have hbn : bl ≤ 300000 := by omega
      clear hbl2 hbl
      go_wp2_with fail
      refine NW.out.mono ?_
      rintro e x8 ⟨g, rfl, hg, R0, bel⟩
      have RI := RInt8_any g g _ x8 R0
      rw [(ints_two (pageAt st.now 0) (by omega)).1] at RI
      replace RI := Lib.hid RI
      have H8 := Lib.hid (Turns.of_below (L := []) bel)
      have h7 := H7.out.2.size
      have hgw : x7.heap.size ≤ g := hg
      clear R0 bel NW hg
      go_wp2_with fail
      refine RI.out.mono ?_
      rintro e x9 ⟨rfl, dd⟩
      have t9 := H8.out.trans (Turns.of_grown (L := [g]) dd.only (by intro k hk; injection hk with hk; simp [hk])) (by intro x hx; simp at hx; subst hx; exact .inr hgw)
      obtain ⟨z0, hz0⟩ : ∃ z0, z0 = leInt ((pageAt st.now 0).take 8) := ⟨_, rfl⟩
      have bz := leInt_bd ((pageAt st.now 0).take 8)
      rw [← hz0] at bz ⊢
      obtain ⟨k, hk⟩ : ∃ k, k = st.upto := ⟨_, rfl⟩
      have hk2 : (k : Int) = if (bl : Int) < (if z0 < 0 then 0 else z0) then (bl : Int) else (if z0 < 0 then 0 else z0) := by
        rw [hk]
        unfold DS.upto
        rw [show st.size0 = z0 from hz0.symm, ← HBL.out]
        split
        · rw [if_neg (by omega)]; rfl
        · split
          · rfl
          · omega
      have hkb : k ≤ bl := by
        have : (k : Int) ≤ bl := by rw [hk2]; split <;> omega
        omega
      have b9 := ((t9.slice H7.out.1 (Nat.le_refl _) (by simp)).more t9.size).to (show k ≤ st.body.length by rw [← HBL.out]; exact hkb)
      rw [bvs_take] at b9
      have rt := fun w => run_to A7 bl c7 k hkb hcb.1 w
      have CU := Lib.hid (cut_any (.slice A7 k c7) (st.body.take k) bl x9 (by
        rw [List.length_take, Nat.min_eq_left (by rw [← HBL.out]; exact hkb)]; exact b9) (by omega) (by omega) (by rw [List.length_take]; omega))
      have HT9 := Lib.hid (And.intro (H7.out.2.trans t9 (by simp)) hk)
      have h3 : (z0 < 0 ∧ k = 0) ∨ (0 ≤ z0 ∧ (bl : Int) < z0 ∧ k = bl) ∨ (0 ≤ z0 ∧ z0 ≤ bl ∧ z0 = k) := by
        by_cases h1 : z0 < 0
        · rw [if_pos h1, if_neg (by omega)] at hk2; exact .inl ⟨h1, by omega⟩
        · rw [if_neg h1] at hk2
          by_cases h2 : (bl : Int) < z0
          · rw [if_pos h2] at hk2; exact .inr (.inl ⟨by omega, h2, by omega⟩)
          · rw [if_neg h2] at hk2; exact .inr (.inr ⟨by omega, by omega, hk2.symm⟩)
      clear hz0 t9 b9 dd RI hk hk2 rt
      rcases h3 with ⟨h1, rfl⟩ | ⟨h1, h2, rfl⟩ | ⟨h1, h2, rfl⟩
      all_goals
        go_wp2_with fail
        refine CU.out.mono ?_
        rintro e y1 ⟨A8, n8, c8, rfl, sl8, t8⟩
        have HF := Lib.hid (And.intro (HT9.out.1.trans t8 (by simp)) (sl8.mono HT9.out.1.size))
        clear sl8 t8 CU
        go_wp2_with fail
        go_ret2
        refine ⟨HF.out.1, fun h => (by rw [hd] at h; cases h), fun _ h => (by rw [← HL.out.2.2] at h; cases h), fun _ _ => ⟨A8, n8, c8, rfl, ?_⟩⟩
        have hh := HF.out.2
        rw [Int.toNat_natCast] at hh
        rw [← HT9.out.2, ← HBL.out]
        exact hh
  · have he := hg hd
    subst he
    clear hg hh
    go_wp2_with fail
    go_ret2
    refine ⟨HT.out.trans ((Turns.refl [] x1).alloc _) (by simp), fun _ => rfl, fun h => (by rw [hd] at h; cases h), fun h => (by rw [hd] at h; cases h)⟩
theorem Scan_at {w0 w : World} {B g p : Nat} {st : DS} {X : List Nat} (h : At w0 w B g p st X) :
    Calls Try.prog 21 #[.pointer (some ⟨g, 0, none⟩)] w fun e w' => Scanned w st e w' ∧ At w0 w' B g p st X ∧ Same X w w' := by
  obtain ⟨D, rfl, hd', hx⟩ := h.ex
  exact (Scan_any w B D p st hd').mono fun e w' ho => ⟨ho, h.turn ho.turns (by simp), h.same ho.turns⟩
end Go.Proofs.Ytdhbaepmbgoobaa
