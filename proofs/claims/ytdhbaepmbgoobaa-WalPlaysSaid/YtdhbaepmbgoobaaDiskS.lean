/- All Writes stay. -/
import Derived.Test.YtdhbaepmbgoobaaDiskW
import Derived.Test.YtdhbaepmbgoobaaCopyB
namespace Go.Proofs.Ytdhbaepmbgoobaa
open Go.RowKit
set_option linter.unusedVariables false
set_option maxRecDepth 10000
set_option linter.unusedSimpArgs false
set_option linter.unnecessarySimpa false

/-- All stays that was written. -/
def DS.kept (st : DS) : DS := ⟨st.left, st.dead, st.now, st.now, st.writes⟩
def DS.clear (st : DS) : DS := ⟨st.left, st.dead, st.synced, st.now, []⟩
def DS.sync (st : DS) : DS := if st.dead = true then st else if st.left = 1 then st.counted else st.counted.kept.clear
def DS.syncCode (st : DS) : Int := if st.dead = true then 15 else st.code

theorem copied_eq {w' : World} {D : DL} {p B : Nat} {w : World} {st : DS} (h : Blk w' D.s (spl (bvs st.synced) 0 (List.take (min p p * 64) (List.take (p * 64) (List.drop 0 (bvs st.now))))) 99) (d : DiskIs w B D p st) : Blk w' D.s (bvs st.now) 99 := by
  have e : List.take (min p p * 64) (List.take (p * 64) (List.drop 0 (bvs st.now))) = bvs st.now := by
    rw [List.drop_zero, Nat.min_self, List.take_take, Nat.min_self, List.take_of_length_le (by rw [bvs_length, d.lenN]; omega)]
  rw [e, spl_whole _ _ (by rw [bvs_length, bvs_length, d.lenS, d.lenN])] at h
  exact h
theorem sync_did {w w' : World} {D : DL} {p B : Nat} {st : DS} (d : DiskIs w B D p st) (h : Blk w' D.s (bvs st.now) 99) (t : Turns [D.s] w.drew w') : DiskDid w B D p st.kept w' D := by
  have t' : Turns [D.s] w w' := ⟨t.os, t.tape, t.output, t.size, t.block⟩
  have n1 : D.g ∉ [D.s] := by simpa using d.ap1.1
  have n2 : D.m ∉ [D.s] := by simpa using Ne.symm d.ap1.2.2
  refine ⟨⟨d.head.turns t' n1, h, d.now.turns t' n2, ?_, d.lenN, d.lenN, d.left0, d.pages, d.ap1, d.ap2, d.low⟩, ⟨rfl, rfl, rfl⟩, t'.mono (fun x hx => .inl (by simp at hx; subst hx; simp [DL.all])), fun x hx => .inl hx⟩
  exact own_turns d.own t' (by intro g hg hm; simp at hm; subst hm; exact d.ap2.2.1 hg)
/-- The Writes are let go. -/
theorem clear_did {w : World} {D : DL} {p B : Nat} {st : DS} (d : DiskIs w B D p st) : DiskDid w B D p st.clear (w.setCell ⟨D.g, 4, none⟩ (.slice none 0 0)) ⟨D.g, D.s, D.m, .slice none 0 0⟩ := by
  have n1 : D.s ≠ D.g := Ne.symm d.ap1.1
  have n2 : D.m ≠ D.g := Ne.symm d.ap1.2.1
  refine ⟨⟨?_, d.syn.other (p := ⟨D.g, 4, none⟩) (Ne.symm n1) _, d.now.other (p := ⟨D.g, 4, none⟩) (Ne.symm n2) _, World.ownsRow_nil _ _ _ _, d.lenS, d.lenN, d.left0, d.pages, d.ap1, ⟨by simp [Value.ownBlock], by simp [Value.ownBlock], by simp [Value.ownBlock]⟩, d.low⟩, ⟨rfl, rfl, rfl⟩, (Turns.refl _ _).setCell (p := ⟨D.g, 4, none⟩) (.inl (by simp [DL.all])) _, fun x hx => .inl ?_⟩
  · have := d.head.set 4 (.slice none 0 0)
    exact this
  · simp only [DL.all, List.mem_cons, Value.ownBlock, Option.toList_none, List.not_mem_nil, or_false] at hx ⊢
    rcases hx with hx | hx | hx
    · exact .inl hx
    · exact .inr (.inl hx)
    · exact .inr (.inr (.inl hx))

set_option maxHeartbeats 1000000 in
theorem Sync_any (w : World) (B : Nat) (D : DL) (p : Nat) (st : DS) (h : DiskIs w B D p st) :
    Calls Try.prog 36 #[.pointer (some ⟨D.g, 0, none⟩)] w (DDid w B D p st.sync st.syncCode) := by
  have Dd := Lib.hid (DiskDead_any w B D p st h)
  by_cases hd : st.dead = true
  · have e1 : st.sync = st := by unfold DS.sync; rw [if_pos hd]
    have e2 : st.syncCode = 15 := by unfold DS.syncCode; rw [if_pos hd]
    rw [e1, e2]
    rw [hd] at Dd
    clear hd e1 e2
    have hh := h.did
    clear h
    go_enter Try.func36, Try.ntmps36
    go_wp2_with fail
    refine Dd.out.mono ?_
    rintro e' ww ⟨rfl, rfl⟩
    go_wp2_with fail
    go_ret
    exact ⟨_, rfl, hh⟩
  · have hd' : st.dead = false := by simpa using hd
    rw [hd'] at Dd
    have ST := step_did w B D p st h
    by_cases hq : st.left = 1
    · have e1 : st.sync = st.counted := by unfold DS.sync; rw [if_neg hd, if_pos hq]
      have e2 : st.syncCode = 15 := by unfold DS.syncCode DS.code; rw [if_neg hd, if_pos hq]
      rw [e1, e2]
      have ST' : Hid (Calls Try.prog 39 #[.pointer (some ⟨D.g, 0, none⟩)] w fun e w' => e = .returned (.bool true) ∧ DiskDid w B D p st.counted w' D) := by
        refine Lib.hid (ST.mono ?_)
        rintro e w' ⟨he, hd⟩
        rw [decide_eq_true hq] at he
        exact ⟨he, hd⟩
      clear hd e1 e2 hd' ST hq h
      go_enter Try.func36, Try.ntmps36
      go_wp2_with fail
      refine Dd.out.mono ?_
      rintro e' ww ⟨rfl, rfl⟩
      go_wp2_with fail
      refine ST'.out.mono ?_
      rintro e' w1 ⟨rfl, hh⟩
      go_wp2_with fail
      go_ret
      exact ⟨_, rfl, hh⟩
    · have e1 : st.sync = st.counted.kept.clear := by unfold DS.sync; rw [if_neg hd, if_neg hq]
      have e2 : st.syncCode = 0 := by unfold DS.syncCode DS.code; rw [if_neg hd, if_neg hq]
      rw [e1, e2]
      have ST' : Hid (Calls Try.prog 39 #[.pointer (some ⟨D.g, 0, none⟩)] w fun e w' => e = .returned (.bool false) ∧ DiskDid w B D p st.counted w' D) := by
        refine Lib.hid (ST.mono ?_)
        rintro e w' ⟨he, hd⟩
        rw [decide_eq_false hq] at he
        exact ⟨he, hd⟩
      clear hd e1 e2 hd' ST hq h
      go_enter Try.func36, Try.ntmps36
      go_wp2_with fail
      refine Dd.out.mono ?_
      rintro e' ww ⟨rfl, rfl⟩
      go_wp2_with fail
      refine ST'.out.mono ?_
      rintro e' w1 ⟨rfl, hh⟩
      have D1 := hh.is
      generalize st.counted = s1 at *
      have hS : w1.cell? ⟨D.g, 2, none⟩ = some (.slice (some ⟨D.s, 0, none⟩) p p) ∧ w1.cell? ⟨D.g, 3, none⟩ = some (.slice (some ⟨D.m, 0, none⟩) p p) := ⟨D1.head.cell 2, D1.head.cell 3⟩
      go_wp2_with fail
      refine reg_begin (fun W => W.cell? ⟨D.g, 2, none⟩ = some (.slice (some ⟨D.s, 0, none⟩) p p) ∧ W.cell? ⟨D.g, 3, none⟩ = some (.slice (some ⟨D.m, 0, none⟩) p p)) (fun _ => True) 9 9 #[false, false, false, false, false, false, false, false, false] (by kernel_rfl) (by kernel_rfl) (by kernel_rfl) ?_
      refine reg_take 0 13 8 #[true, false, false, false, false, false, false, false, false] (by rfl) (v := ?_) rfl rfl (by kernel_rfl) (by kernel_rfl) (by kernel_rfl) (by kernel_rfl) (fun _ _ _ h => h) (by rfl) ?_ (Till.mk' hS trivial) ?_
      rotate_left
      · rintro W ⟨hS1, hS2⟩; go_simp; all_goals with_reducible rfl
      try simp only [List.setIfInBounds_toArray, List.set_cons_succ, List.set_cons_zero]
      refine reg_take 1 14 7 #[true, true, false, false, false, false, false, false, false] (by rfl) (v := ?_) rfl rfl (by kernel_rfl) (by kernel_rfl) (by kernel_rfl) (by kernel_rfl) (fun _ _ _ h => h) (by rfl) ?_ (Till.mk' hS trivial) ?_
      rotate_left
      · rintro W ⟨hS1, hS2⟩; go_simp; all_goals with_reducible rfl
      try simp only [List.setIfInBounds_toArray, List.set_cons_succ, List.set_cons_zero]
      refine reg_take 2 15 6 #[true, true, true, false, false, false, false, false, false] (by rfl) (v := ?_) rfl rfl (by kernel_rfl) (by kernel_rfl) (by kernel_rfl) (by kernel_rfl) (fun _ _ _ h => h) (by rfl) ?_ (Till.mk' hS trivial) ?_
      rotate_left
      · rintro W ⟨hS1, hS2⟩; go_simp; all_goals with_reducible rfl
      try simp only [List.setIfInBounds_toArray, List.set_cons_succ, List.set_cons_zero]
      refine reg_take 3 16 5 #[true, true, true, true, false, false, false, false, false] (by rfl) (v := ?_) rfl rfl (by kernel_rfl) (by kernel_rfl) (by kernel_rfl) (by kernel_rfl) (fun _ _ _ h => h) (by rfl) ?_ (Till.mk' hS trivial) ?_
      rotate_left
      · rintro W ⟨hS1, hS2⟩; go_simp; all_goals with_reducible rfl
      try simp only [List.setIfInBounds_toArray, List.set_cons_succ, List.set_cons_zero]
      refine reg_take 4 17 4 #[true, true, true, true, true, false, false, false, false] (by rfl) (v := ?_) rfl rfl (by kernel_rfl) (by kernel_rfl) (by kernel_rfl) (by kernel_rfl) (fun _ _ _ h => h) (by rfl) ?_ (Till.mk' hS trivial) ?_
      rotate_left
      · rintro W ⟨hS1, hS2⟩; go_simp; all_goals with_reducible rfl
      try simp only [List.setIfInBounds_toArray, List.set_cons_succ, List.set_cons_zero]
      refine reg_take 5 18 3 #[true, true, true, true, true, true, false, false, false] (by rfl) (v := ?_) rfl rfl (by kernel_rfl) (by kernel_rfl) (by kernel_rfl) (by kernel_rfl) (fun _ _ _ h => h) (by rfl) ?_ (Till.mk' hS trivial) ?_
      rotate_left
      · rintro W ⟨hS1, hS2⟩; go_simp; all_goals with_reducible rfl
      try simp only [List.setIfInBounds_toArray, List.set_cons_succ, List.set_cons_zero]
      refine reg_take 6 19 2 #[true, true, true, true, true, true, true, false, false] (by rfl) (v := ?_) rfl rfl (by kernel_rfl) (by kernel_rfl) (by kernel_rfl) (by kernel_rfl) (fun _ _ _ h => h) (by rfl) ?_ (Till.mk' hS trivial) ?_
      rotate_left
      · rintro W ⟨hS1, hS2⟩; go_simp; all_goals with_reducible rfl
      try simp only [List.setIfInBounds_toArray, List.set_cons_succ, List.set_cons_zero]
      refine reg_take 7 20 1 #[true, true, true, true, true, true, true, true, false] (by rfl) (v := ?_) rfl rfl (by kernel_rfl) (by kernel_rfl) (by kernel_rfl) (by kernel_rfl) (fun _ _ _ h => h) (by rfl) ?_ (Till.mk' hS trivial) ?_
      rotate_left
      · rintro W ⟨hS1, hS2⟩; go_simp; all_goals with_reducible rfl
      try simp only [List.setIfInBounds_toArray, List.set_cons_succ, List.set_cons_zero]
      refine reg_one 8 0 #[true, true, true, true, true, true, true, true, true] (by kernel_rfl) rfl (by rfl) (by kernel_rfl) (fun K hK => ?_)
      have hrun := run_copy_blk (s := 63) (dLen := p) (dCap := p) (o := 0) T61 3 D1.syn.drew (D1.now.drew.sl 0 p p 64 (by rw [bvs_length, D1.lenN]; omega) (Nat.le_refl _) (by simp [maxLen]; have := D1.pages; omega)) (fun u hu => bvs_one _ u (List.mem_of_mem_drop (List.mem_of_mem_take hu))) (by rw [bvs_length, D1.lenS, Nat.min_self]; omega)
      refine wp_copy_run (.tmp 16) (.tmp 20) rfl hrun (by rfl) (by rfl) ?_
      clear hrun
      rintro v2 w2 ⟨rfl, hb2, t2⟩
      have hb2 := copied_eq hb2 D1
      have D2 := sync_did D1 hb2 t2
      clear hb2
      refine hK _ _ (Till.mk' (⟨D2.is.head.cell 2, D2.is.head.cell 3⟩) trivial) ?_
      clear hK K
      try simp only [List.setIfInBounds_toArray, List.set_cons_succ, List.set_cons_zero]
      refine reg_done (by kernel_rfl) ?_ _
      clear hS D1
      have D3 := clear_did D2.is
      have c4 : w2.cell? ⟨D.g, 4, none⟩ = some D.v := D2.is.head.cell 4
      have f4 := D2.is.head.free 4
      have hh3 := (hh.trans D2).trans D3
      clear hh D2 D3 t2
      go_wp2_with fail
      go_ret
      exact ⟨_, rfl, hh3⟩
end Go.Proofs.Ytdhbaepmbgoobaa
