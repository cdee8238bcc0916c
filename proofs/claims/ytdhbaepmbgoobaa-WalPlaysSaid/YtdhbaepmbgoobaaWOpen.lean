/- A log is opened: Open; how many records: Count. -/
import Derived.Test.YtdhbaepmbgoobaaWLook
namespace Go.Proofs.Ytdhbaepmbgoobaa
open Go.RowKit
set_option linter.unusedVariables false
set_option maxRecDepth 10000
set_option linter.unusedSimpArgs false
set_option linter.unnecessarySimpa false

/-- A log's cells. -/
def LG (g : Nat) (sz ct : Int) : List Value := [.pointer (some ⟨g, 0, none⟩), .int .i64 sz, .int .i64 ct]
/-- What Open hands back. -/
structure Opened (w : World) (g : Nat) (st : DS) (e : Ending) (w' : World) : Prop where
  turns : Turns [] w w'
  gone : st.dead = true → e = .returned (.tuple #[.pointer none, .slice none 0 0, .int .i64 15])
  bad : st.dead = false → st.look.bad = true → e = .returned (.tuple #[.pointer none, .slice none 0 0, .int .i64 10])
  good : st.dead = false → st.look.bad = false → ∃ gl A n c, e = .returned (.tuple #[.pointer (some ⟨gl, 0, none⟩), .slice A n c, .int .i64 0]) ∧ Blk w' gl (LG g st.look.size st.look.count) 86 ∧ w.heap.size ≤ gl ∧ SlsF w.heap.size w' (.slice A n c) n st.look.recs
theorem look_bds (st : DS) : (-9223372036854775808 ≤ st.look.size ∧ st.look.size ≤ 9223372036854775807) ∧ (-9223372036854775808 ≤ st.look.count ∧ st.look.count ≤ 9223372036854775807) := by
  have h1 := leInt_bd ((pageAt st.now 0).take 8)
  have h2 := leInt_bd (((pageAt st.now 0).drop 8).take 8)
  unfold DS.look DS.size0 DS.count0
  split
  · exact ⟨h1, h2⟩
  · exact ⟨h1, h2⟩

set_option maxRecDepth 100000 in
set_option maxHeartbeats 8000000 in
theorem Open_any (w : World) (B : Nat) (D : DL) (p : Nat) (st : DS) (h : DiskIs w B D p st) :
    Calls Try.prog 13 #[.pointer (some ⟨D.g, 0, none⟩)] w (Opened w D.g st) := by
  have LK := Lib.hid (look_any w B D p st h)
  have hbd := look_bds st
  clear h
  go_enter Try.func13, Try.ntmps13
  go_wp2_with fail
  refine LK.out.mono ?_
  rintro e x1 ⟨t1, hg, hh⟩
  have HT := Lib.hid t1
  clear LK t1
  cases hd : st.dead
  · obtain ⟨A, n, c, rfl, sl⟩ := hh hd
    clear hg hh
    obtain ⟨sz, hsz⟩ : ∃ x, x = st.look.size := ⟨_, rfl⟩
    obtain ⟨ct, hct⟩ : ∃ x, x = st.look.count := ⟨_, rfl⟩
    obtain ⟨bd, hbdd⟩ : ∃ x, x = st.look.bad := ⟨_, rfl⟩
    rw [← hsz, ← hct] at hbd
    rw [← hsz, ← hct, ← hbdd]
    have HL := Lib.hid (And.intro hsz (And.intro hct hbdd))
    obtain ⟨p5, hp5⟩ : ∃ p5, p5 = x1.heap.size := ⟨_, rfl⟩
    obtain ⟨x2, hx2⟩ : ∃ x2, x2 = x1.alloc (.cells #[.int .i64 sz, .int .i64 ct, .slice A n c, .bool bd] 82) := ⟨_, rfl⟩
    have v5 := Blk.new x1 [.int .i64 sz, .int .i64 ct, .slice A n c, .bool bd] 82
    rw [show x1.alloc (.cells [.int .i64 sz, .int .i64 ct, .slice A n c, .bool bd].toArray 82) = x2 from hx2.symm, ← hp5] at v5
    have ta : Turns [] x1 x2 := by rw [hx2]; exact (Turns.refl _ _).alloc _
    have HT2 := Lib.hid (HT.out.trans ta (by simp))
    have sl2 := sl.on ta (by simp)
    have q0 := v5.cell 0
    have q1 := v5.cell 1
    have q2 := v5.cell 2
    have q3 := v5.cell 3
    simp only [List.getElem?_cons_zero, List.getElem?_cons_succ] at q0 q1 q2 q3
    have HX := Lib.hid (And.intro hx2 hp5)
    have HS := Lib.hid sl2
    have hwp : w.heap.size ≤ p5 := by rw [hp5]; exact HT.out.size
    have V5 := Lib.hid v5
    clear hsz hct hbdd hx2 hp5 ta sl sl2 v5
    go_upto_region 2 with fail
    rw [← HX.out.1, ← HX.out.2]
    cases bd
    · obtain ⟨x3, hx3⟩ : ∃ x3, x3 = x2.alloc (.cells #[.pointer (some ⟨D.g, 0, none⟩), .int .i64 0, .int .i64 0] 86) := ⟨_, rfl⟩
      obtain ⟨gl, hgl⟩ : ∃ gl, gl = x2.heap.size := ⟨_, rfl⟩
      have bl := Blk.new x2 (LG D.g 0 0) 86
      rw [show x2.alloc (.cells (LG D.g 0 0).toArray 86) = x3 from hx3.symm, ← hgl] at bl
      have ta : Turns [] x2 x3 := by rw [hx3]; exact (Turns.refl _ _).alloc _
      have HT3 := Lib.hid (HT2.out.trans ta (by simp))
      have q0 := cellW ta q0
      have q1 := cellW ta q1
      have q2 := cellW ta q2
      have hp5l := V5.out.lt
      have hpg : p5 ≠ gl := by omega
      have hgw : w.heap.size ≤ gl := by omega
      have TA := Lib.hid ta
      have HX3 := Lib.hid (And.intro hx3 hgl)
      have BL := Lib.hid bl
      clear hx3 hgl ta bl
      go_upto_region 7 with fail
      rw [← HX3.out.1, ← HX3.out.2]
      have S0 : Turns [gl] x3 x3.drew := (Turns.refl _ _).drew
      have B0 : Blk x3.drew gl (LG D.g 0 0) 86 := BL.out.drew
      refine reg_begin (fun W => Turns [gl] x3 W) (fun _ => True) 6 6 #[false, false, false, false, false, false] (by kernel_rfl) (by kernel_rfl) (by kernel_rfl) ?_
      refine reg_take 0 23 5 #[true, false, false, false, false, false] (by rfl) (v := ?_) rfl rfl (by kernel_rfl) (by kernel_rfl) (by kernel_rfl) (by kernel_rfl) (fun _ _ _ h => h) (by rfl) ?_ (Till.mk' S0 trivial) ?_
      rotate_left
      · intro W hS; go_simp; all_goals with_reducible rfl
      try simp only [List.setIfInBounds_toArray, List.set_cons_succ, List.set_cons_zero]
      refine reg_take 1 24 4 #[true, true, false, false, false, false] (by rfl) (v := ?_) rfl rfl (by kernel_rfl) (by kernel_rfl) (by kernel_rfl) (by kernel_rfl) (fun _ _ _ h => h) (by rfl) ?_ (Till.mk' S0 trivial) ?_
      rotate_left
      · intro W hS; go_simp; all_goals with_reducible rfl
      try simp only [List.setIfInBounds_toArray, List.set_cons_succ, List.set_cons_zero]
      refine reg_take 2 25 3 #[true, true, true, false, false, false] (by rfl) (v := ?_) rfl rfl (by kernel_rfl) (by kernel_rfl) (by kernel_rfl) (by kernel_rfl) (fun _ _ _ h => h) (by rfl) ?_ (Till.mk' S0 trivial) ?_
      rotate_left
      · intro W hS; go_simp; all_goals with_reducible rfl
      try simp only [List.setIfInBounds_toArray, List.set_cons_succ, List.set_cons_zero]
      refine reg_take 3 26 2 #[true, true, true, true, false, false] (by rfl) (v := ?_) rfl rfl (by kernel_rfl) (by kernel_rfl) (by kernel_rfl) (by kernel_rfl) (fun _ _ _ h => h) (by rfl) ?_ (Till.mk' S0 trivial) ?_
      rotate_left
      · intro W hS; go_simp; all_goals with_reducible rfl
      try simp only [List.setIfInBounds_toArray, List.set_cons_succ, List.set_cons_zero]
      refine reg_take 4 27 1 #[true, true, true, true, true, false] (by rfl) (v := ?_) rfl rfl (by kernel_rfl) (by kernel_rfl) (by kernel_rfl) (by kernel_rfl) (fun _ _ _ h => h) (by rfl) ?_ (Till.mk' S0 trivial) ?_
      rotate_left
      · intro W hS; have c2 := cellW hS q0 (by simpa using hpg); go_simp; all_goals with_reducible rfl
      try simp only [List.setIfInBounds_toArray, List.set_cons_succ, List.set_cons_zero]
      refine reg_one 5 0 #[true, true, true, true, true, true] (by kernel_rfl) rfl (by rfl) (by kernel_rfl) (fun K hK => ?_)
      go_simp
      refine (IntStore_any ⟨gl, 1, none⟩ _ _ _ (B0.cell 1) (B0.free 1)).mono ?_
      rintro e ww ⟨rfl, rfl⟩
      refine hK _ _ (Till.mk' (S0.setCell (p := ⟨gl, 1, none⟩) (.inl (by simp)) _) trivial) ?_
      clear hK K
      try simp only [List.setIfInBounds_toArray, List.set_cons_succ, List.set_cons_zero]
      refine reg_done (by kernel_rfl) ?_ _
      obtain ⟨y1, hy1⟩ : ∃ y1, y1 = x3.drew.setCell ⟨gl, 1, none⟩ (.int .i64 sz) := ⟨_, rfl⟩
      have T1 : Turns [gl] x3 y1 := by rw [hy1]; exact S0.setCell (p := ⟨gl, 1, none⟩) (.inl (by simp)) _
      have B1 := B0.set 1 (.int .i64 sz)
      simp only [LG, List.set_cons_succ, List.set_cons_zero] at B1
      rw [← hy1] at B1 ⊢
      have S1 := T1.drew
      have B1d := B1.drew
      clear hy1 S0 B0
      go_upto_region 8 with fail
      refine reg_begin (fun W => Turns [gl] x3 W) (fun _ => True) 6 6 #[false, false, false, false, false, false] (by kernel_rfl) (by kernel_rfl) (by kernel_rfl) ?_
      refine reg_take 0 29 5 #[true, false, false, false, false, false] (by rfl) (v := ?_) rfl rfl (by kernel_rfl) (by kernel_rfl) (by kernel_rfl) (by kernel_rfl) (fun _ _ _ h => h) (by rfl) ?_ (Till.mk' S1 trivial) ?_
      rotate_left
      · intro W hS; go_simp; all_goals with_reducible rfl
      try simp only [List.setIfInBounds_toArray, List.set_cons_succ, List.set_cons_zero]
      refine reg_take 1 30 4 #[true, true, false, false, false, false] (by rfl) (v := ?_) rfl rfl (by kernel_rfl) (by kernel_rfl) (by kernel_rfl) (by kernel_rfl) (fun _ _ _ h => h) (by rfl) ?_ (Till.mk' S1 trivial) ?_
      rotate_left
      · intro W hS; go_simp; all_goals with_reducible rfl
      try simp only [List.setIfInBounds_toArray, List.set_cons_succ, List.set_cons_zero]
      refine reg_take 2 31 3 #[true, true, true, false, false, false] (by rfl) (v := ?_) rfl rfl (by kernel_rfl) (by kernel_rfl) (by kernel_rfl) (by kernel_rfl) (fun _ _ _ h => h) (by rfl) ?_ (Till.mk' S1 trivial) ?_
      rotate_left
      · intro W hS; go_simp; all_goals with_reducible rfl
      try simp only [List.setIfInBounds_toArray, List.set_cons_succ, List.set_cons_zero]
      refine reg_take 3 32 2 #[true, true, true, true, false, false] (by rfl) (v := ?_) rfl rfl (by kernel_rfl) (by kernel_rfl) (by kernel_rfl) (by kernel_rfl) (fun _ _ _ h => h) (by rfl) ?_ (Till.mk' S1 trivial) ?_
      rotate_left
      · intro W hS; go_simp; all_goals with_reducible rfl
      try simp only [List.setIfInBounds_toArray, List.set_cons_succ, List.set_cons_zero]
      refine reg_take 4 33 1 #[true, true, true, true, true, false] (by rfl) (v := ?_) rfl rfl (by kernel_rfl) (by kernel_rfl) (by kernel_rfl) (by kernel_rfl) (fun _ _ _ h => h) (by rfl) ?_ (Till.mk' S1 trivial) ?_
      rotate_left
      · intro W hS; have c2 := cellW hS q1 (by simpa using hpg); go_simp; all_goals with_reducible rfl
      try simp only [List.setIfInBounds_toArray, List.set_cons_succ, List.set_cons_zero]
      refine reg_one 5 0 #[true, true, true, true, true, true] (by kernel_rfl) rfl (by rfl) (by kernel_rfl) (fun K hK => ?_)
      go_simp
      refine (IntStore_any ⟨gl, 2, none⟩ _ _ _ (B1d.cell 2) (B1d.free 2)).mono ?_
      rintro e ww ⟨rfl, rfl⟩
      refine hK _ _ (Till.mk' (S1.setCell (p := ⟨gl, 2, none⟩) (.inl (by simp)) _) trivial) ?_
      clear hK K
      try simp only [List.setIfInBounds_toArray, List.set_cons_succ, List.set_cons_zero]
      refine reg_done (by kernel_rfl) ?_ _
      obtain ⟨y2, hy2⟩ : ∃ y2, y2 = y1.drew.setCell ⟨gl, 2, none⟩ (.int .i64 ct) := ⟨_, rfl⟩
      have T2 : Turns [gl] x3 y2 := by rw [hy2]; exact S1.setCell (p := ⟨gl, 2, none⟩) (.inl (by simp)) _
      have B2 := B1d.set 2 (.int .i64 ct)
      simp only [List.set_cons_succ, List.set_cons_zero] at B2
      rw [← hy2] at B2 ⊢
      have S2 := T2.drew
      have B2d := B2.drew
      clear hy2 S1 B1d B1 T1
      go_upto_region 9 with fail
      refine reg_begin (fun W => Turns [gl] x3 W) (fun _ => True) 6 6 #[false, false, false, false, false, false] (by kernel_rfl) (by kernel_rfl) (by kernel_rfl) ?_
      refine reg_take 0 35 5 #[true, false, false, false, false, false] (by rfl) (v := ?_) rfl rfl (by kernel_rfl) (by kernel_rfl) (by kernel_rfl) (by kernel_rfl) (fun _ _ _ h => h) (by rfl) ?_ (Till.mk' S2 trivial) ?_
      rotate_left
      · intro W hS; go_simp; all_goals with_reducible rfl
      try simp only [List.setIfInBounds_toArray, List.set_cons_succ, List.set_cons_zero]
      refine reg_take 1 36 4 #[true, true, false, false, false, false] (by rfl) (v := ?_) rfl rfl (by kernel_rfl) (by kernel_rfl) (by kernel_rfl) (by kernel_rfl) (fun _ _ _ h => h) (by rfl) ?_ (Till.mk' S2 trivial) ?_
      rotate_left
      · intro W hS; go_simp; all_goals with_reducible rfl
      try simp only [List.setIfInBounds_toArray, List.set_cons_succ, List.set_cons_zero]
      refine reg_take 2 37 3 #[true, true, true, false, false, false] (by rfl) (v := ?_) rfl rfl (by kernel_rfl) (by kernel_rfl) (by kernel_rfl) (by kernel_rfl) (fun _ _ _ h => h) (by rfl) ?_ (Till.mk' S2 trivial) ?_
      rotate_left
      · intro W hS; have c2 := cellW hS q2 (by simpa using hpg); go_simp; all_goals with_reducible rfl
      try simp only [List.setIfInBounds_toArray, List.set_cons_succ, List.set_cons_zero]
      refine reg_take 3 2 2 #[true, true, true, true, false, false] (by rfl) (v := ?_) rfl rfl (by kernel_rfl) (by kernel_rfl) (by kernel_rfl) (by kernel_rfl) (fun _ _ _ h => h) (by rfl) ?_ (Till.mk' S2 trivial) ?_
      rotate_left
      · intro W hS; go_simp; all_goals with_reducible rfl
      try simp only [List.setIfInBounds_toArray, List.set_cons_succ, List.set_cons_zero]
      refine reg_take 4 3 1 #[true, true, true, true, true, false] (by rfl) (v := ?_) rfl rfl (by kernel_rfl) (by kernel_rfl) (by kernel_rfl) (by kernel_rfl) (fun _ _ _ h => h) (by rfl) ?_ (Till.mk' S2 trivial) ?_
      rotate_left
      · intro W hS; go_simp; all_goals with_reducible rfl
      try simp only [List.setIfInBounds_toArray, List.set_cons_succ, List.set_cons_zero]
      refine reg_take 5 4 0 #[true, true, true, true, true, true] (by rfl) (v := ?_) rfl rfl (by kernel_rfl) (by kernel_rfl) (by kernel_rfl) (by kernel_rfl) (fun _ _ _ h => h) (by rfl) ?_ (Till.mk' S2 trivial) ?_
      rotate_left
      · intro W hS; go_simp; all_goals with_reducible rfl
      try simp only [List.setIfInBounds_toArray, List.set_cons_succ, List.set_cons_zero]
      refine reg_done (by kernel_rfl) ?_ _
      have HF := Lib.hid (And.intro (HT3.out.trans S2 (by intro x hx; simp at hx; subst hx; exact .inr hgw)) (And.intro B2d (HS.out.on (TA.out.trans S2 (by intro x hx; simp at hx; subst hx; exact .inr (by rw [HX3.out.2]; exact Nat.le_refl _))) (by simp))))
      go_wp2_with fail
      go_ret3
      exact ⟨HF.out.1, fun h => (by rw [hd] at h; cases h), fun _ h => (by rw [← HL.out.2.2] at h; cases h), fun _ _ => ⟨gl, A, n, c, rfl, by rw [← HL.out.1, ← HL.out.2.1]; exact HF.out.2.1, hgw, HF.out.2.2⟩⟩
    · go_wp2_with fail
      go_ret3
      exact ⟨HT2.out, fun h => (by rw [hd] at h; cases h), fun _ _ => rfl, fun _ h => (by rw [← HL.out.2.2] at h; cases h)⟩
  · have he := hg hd
    subst he
    clear hg hh
    go_wp2_with fail
    go_ret3
    refine ⟨HT.out.trans ((Turns.refl [] x1).alloc _) (by simp), fun _ => rfl, fun h => (by rw [hd] at h; cases h), fun h => (by rw [hd] at h; cases h)⟩
end Go.Proofs.Ytdhbaepmbgoobaa
