/- lazy.bytes; a log's numbers. -/
import Derived.Test.YtdhbaepmbgoobaaWRead
namespace Go.Proofs.Ytdhbaepmbgoobaa
open Go.RowKit
set_option linter.unusedVariables false
set_option maxRecDepth 10000
set_option linter.unusedSimpArgs false
set_option linter.unnecessarySimpa false

/-- What bytes hands back. -/
structure LByt (w : World) (gl : Nat) (st : DS) (e : Ending) (w' : World) : Prop where
  turns : Turns [gl] w w'
  gone : st.dead = true → e = .returned (.tuple #[.slice none 0 0, .int .i64 15])
  here : st.dead = false → ∃ A c, e = .returned (.tuple #[.slice A st.body.length c, .int .i64 0]) ∧ w'.ownsRow w.heap.size 5 1 (.slice A st.body.length c) st.body.length (bvs st.body)

set_option maxRecDepth 100000 in
set_option maxHeartbeats 4000000 in
theorem bytes_any (w : World) (B : Nat) (D : DL) (p : Nat) (st : DS) (h : DiskIs w B D p st) (gl : Nat) (hb : Blk w gl (LZ D.g 0 0 (.slice none 0 0) 0) 116) (hg : gl ∉ D.all) :
    Calls Try.prog 44 #[.pointer (some ⟨gl, 0, none⟩)] w (LByt w gl st) := by
  have hmf : ∀ (fn : Fn) (first cap : Array Value) (w : World), (Instr.makeFunc fn first cap).run Try.prog w = .ok (.func fn first cap) w := fun _ _ _ _ => rfl
  have hgl := hb.lt
  obtain ⟨W1, hW1⟩ : ∃ W1, W1 = w.setCell ⟨gl, 2, none⟩ (.int .i32 1) := ⟨_, rfl⟩
  have b1 := hb.set 2 (.int .i32 1)
  simp only [LZ, List.set_cons_succ, List.set_cons_zero] at b1
  rw [← hW1] at b1
  have t1 : Turns [gl] w W1 := by rw [hW1]; exact Turns.setCell (L := [gl]) (p := ⟨gl, 2, none⟩) (Turns.refl [gl] w) (.inl (by simp)) _
  have hs1 : W1.heap.size = w.heap.size := by rw [hW1]; simp [World.setCell]
  have d1 := h.turns t1 (by intro x hx; simp at hx; subst hx; exact hg)
  have LR := lread_any W1 B D p st d1 gl 0 1 b1 hg
  have C := Once.do_first gl 1 66 #[.pointer (some ⟨gl, 0, none⟩)] #[] (fun w2 => LRead W1 gl D.g st 0 1 w2) w (fun _ => by rfl) (hb.cell 1) (hb.cell 2) (hb.free 1) (hb.free 2)
    (by
      rw [← hW1]
      refine LR.mono fun e w' hq => ?_
      obtain ⟨he, hr⟩ := hq
      refine ⟨he, hr, ?_⟩
      cases hd : st.dead
      · obtain ⟨v, hv, _⟩ := hr.here hd
        exact ⟨⟨_, hv.cell 1⟩, hv.free 1, hv.cell 2, hv.free 2⟩
      · have hv := hr.gone hd
        exact ⟨⟨_, hv.cell 1⟩, hv.free 1, hv.cell 2, hv.free 2⟩)
  have C' : Calls Try.prog 65 #[.pointer (some ⟨gl, 1, none⟩), .func (.func 66) #[.pointer (some ⟨gl, 0, none⟩)] #[]] w fun e w' => e = .returned (.tuple #[]) ∧ ∃ v ev, Blk w' gl (LZ D.g 1 0 v ev) 116 ∧ Turns [gl] w w' ∧
      ((st.dead = true ∧ v = .slice none 0 0 ∧ ev = 15) ∨ (st.dead = false ∧ ev = 0 ∧ w'.ownsRow w.heap.size 5 1 v st.body.length (bvs st.body))) := by
    refine C.mono fun e w' hq => ?_
    obtain ⟨he, w2, hr, rfl⟩ := hq
    refine ⟨he, ?_⟩
    have tx : Turns [gl] w2 ((w2.drew.setCell ⟨gl, 1, none⟩ (.int .u32 1)).setCell ⟨gl, 2, none⟩ (.int .i32 0)) := (((Turns.refl [gl] w2).drew).setCell (p := ⟨gl, 1, none⟩) (.inl (by simp)) _).setCell (p := ⟨gl, 2, none⟩) (.inl (by simp)) _
    have tt := (t1.trans hr.turns (fun x hx => .inl hx)).trans tx (fun x hx => .inl hx)
    cases hd : st.dead
    · obtain ⟨v, hv, ho⟩ := hr.here hd
      have b2 := ((hv.drew).set 1 (.int .u32 1)).set 2 (.int .i32 0)
      simp only [LZ, List.set_cons_succ, List.set_cons_zero] at b2
      rw [hs1] at ho
      refine ⟨v, 0, b2, tt, .inr ⟨rfl, rfl, own_wL ho tx (by intro x hx; simp at hx; subst hx; intro e; have := (ho.lt _ e).1; omega)⟩⟩
    · have hv := hr.gone hd
      have b2 := ((hv.drew).set 1 (.int .u32 1)).set 2 (.int .i32 0)
      simp only [LZ, List.set_cons_succ, List.set_cons_zero] at b2
      exact ⟨.slice none 0 0, 15, b2, tt, .inl ⟨rfl, rfl, rfl⟩⟩
  replace C' := Lib.hid C'
  clear C LR d1 t1 b1 hb h hW1 hs1
  go_enter Try.func44, Try.ntmps44
  go_wp2_with fail
  refine C'.out.mono ?_
  rintro e w1 ⟨rfl, v, ev, bl, tt, hc⟩
  have c4 := bl.cell 4
  have c5 := bl.cell 5
  simp only [LZ, List.getElem?_cons_zero, List.getElem?_cons_succ] at c4 c5
  have S0 : Turns [] w1 w1.drew := (Turns.refl _ _).drew
  have HT := Lib.hid tt
  have HC := Lib.hid hc
  clear tt hc C' bl
  go_upto_region 2 with fail
  refine reg_begin (fun W => Turns [] w1 W) (fun _ => True) 10 10 #[false, false, false, false, false, false, false, false, false, false] (by kernel_rfl) (by kernel_rfl) (by kernel_rfl) ?_
  refine reg_take 0 10 9 #[true, false, false, false, false, false, false, false, false, false] (by rfl) (v := ?_) rfl rfl (by kernel_rfl) (by kernel_rfl) (by kernel_rfl) (by kernel_rfl) (fun _ _ _ h => h) (by rfl) ?_ (Till.mk' S0 trivial) ?_
  rotate_left
  · intro W hS; go_simp; all_goals with_reducible rfl
  try simp only [List.setIfInBounds_toArray, List.set_cons_succ, List.set_cons_zero]
  refine reg_take 1 11 8 #[true, true, false, false, false, false, false, false, false, false] (by rfl) (v := ?_) rfl rfl (by kernel_rfl) (by kernel_rfl) (by kernel_rfl) (by kernel_rfl) (fun _ _ _ h => h) (by rfl) ?_ (Till.mk' S0 trivial) ?_
  rotate_left
  · intro W hS; go_simp; all_goals with_reducible rfl
  try simp only [List.setIfInBounds_toArray, List.set_cons_succ, List.set_cons_zero]
  refine reg_take 2 12 7 #[true, true, true, false, false, false, false, false, false, false] (by rfl) (v := ?_) rfl rfl (by kernel_rfl) (by kernel_rfl) (by kernel_rfl) (by kernel_rfl) (fun _ _ _ h => h) (by rfl) ?_ (Till.mk' S0 trivial) ?_
  rotate_left
  · intro W hS; go_simp; all_goals with_reducible rfl
  try simp only [List.setIfInBounds_toArray, List.set_cons_succ, List.set_cons_zero]
  refine reg_take 3 13 6 #[true, true, true, true, false, false, false, false, false, false] (by rfl) (v := ?_) rfl rfl (by kernel_rfl) (by kernel_rfl) (by kernel_rfl) (by kernel_rfl) (fun _ _ _ h => h) (by rfl) ?_ (Till.mk' S0 trivial) ?_
  rotate_left
  · intro W hS; have c2 := cellW hS c4; go_simp; all_goals with_reducible rfl
  try simp only [List.setIfInBounds_toArray, List.set_cons_succ, List.set_cons_zero]
  refine reg_take 4 14 5 #[true, true, true, true, true, false, false, false, false, false] (by rfl) (v := ?_) rfl rfl (by kernel_rfl) (by kernel_rfl) (by kernel_rfl) (by kernel_rfl) (fun _ _ _ h => h) (by rfl) ?_ (Till.mk' S0 trivial) ?_
  rotate_left
  · intro W hS; go_simp; all_goals with_reducible rfl
  try simp only [List.setIfInBounds_toArray, List.set_cons_succ, List.set_cons_zero]
  refine reg_take 5 15 4 #[true, true, true, true, true, true, false, false, false, false] (by rfl) (v := ?_) rfl rfl (by kernel_rfl) (by kernel_rfl) (by kernel_rfl) (by kernel_rfl) (fun _ _ _ h => h) (by rfl) ?_ (Till.mk' S0 trivial) ?_
  rotate_left
  · intro W hS; go_simp; all_goals with_reducible rfl
  try simp only [List.setIfInBounds_toArray, List.set_cons_succ, List.set_cons_zero]
  refine reg_take 6 16 3 #[true, true, true, true, true, true, true, false, false, false] (by rfl) (v := ?_) rfl rfl (by kernel_rfl) (by kernel_rfl) (by kernel_rfl) (by kernel_rfl) (fun _ _ _ h => h) (by rfl) ?_ (Till.mk' S0 trivial) ?_
  rotate_left
  · intro W hS; go_simp; all_goals with_reducible rfl
  try simp only [List.setIfInBounds_toArray, List.set_cons_succ, List.set_cons_zero]
  refine reg_take 7 17 2 #[true, true, true, true, true, true, true, true, false, false] (by rfl) (v := ?_) rfl rfl (by kernel_rfl) (by kernel_rfl) (by kernel_rfl) (by kernel_rfl) (fun _ _ _ h => h) (by rfl) ?_ (Till.mk' S0 trivial) ?_
  rotate_left
  · intro W hS; have c2 := cellW hS c5; go_simp; all_goals with_reducible rfl
  try simp only [List.setIfInBounds_toArray, List.set_cons_succ, List.set_cons_zero]
  refine reg_take 8 2 1 #[true, true, true, true, true, true, true, true, true, false] (by rfl) (v := ?_) rfl rfl (by kernel_rfl) (by kernel_rfl) (by kernel_rfl) (by kernel_rfl) (fun _ _ _ h => h) (by rfl) ?_ (Till.mk' S0 trivial) ?_
  rotate_left
  · intro W hS; go_simp; all_goals with_reducible rfl
  try simp only [List.setIfInBounds_toArray, List.set_cons_succ, List.set_cons_zero]
  refine reg_take 9 3 0 #[true, true, true, true, true, true, true, true, true, true] (by rfl) (v := ?_) rfl rfl (by kernel_rfl) (by kernel_rfl) (by kernel_rfl) (by kernel_rfl) (fun _ _ _ h => h) (by rfl) ?_ (Till.mk' S0 trivial) ?_
  rotate_left
  · intro W hS; go_simp; all_goals with_reducible rfl
  try simp only [List.setIfInBounds_toArray, List.set_cons_succ, List.set_cons_zero]
  refine reg_done (by kernel_rfl) ?_ _
  go_wp2_with fail
  go_ret2
  have tf := HT.out.trans S0 (by simp)
  rcases HC.out with ⟨hd, rfl, rfl⟩ | ⟨hd, rfl, ho⟩
  · exact ⟨tf, fun _ => rfl, fun h => (by rw [hd] at h; cases h)⟩
  · obtain ⟨A, c, rfl⟩ := own_formV ho
    exact ⟨tf, fun h => (by rw [hd] at h; cases h), fun _ => ⟨A, c, rfl, own_wL ho S0 (by simp)⟩⟩
end Go.Proofs.Ytdhbaepmbgoobaa
