/- Any bytes, read by any row of questions: the law CodeReads. -/
import Derived.Test.YtneikkofembgmaaWithin
import Derived.Test.YtneikkofembgmaaRef1T
namespace Go.Proofs.Ytneikkofembgmaa
open Go.RowKit
set_option linter.unusedVariables false
set_option linter.unusedSimpArgs false
set_option linter.unnecessarySimpa false

def ivs (zs : List Int) : List Value := zs.map (Value.int .i64)

theorem tdiv_bounds (a n : Int) (h1 : -9223372036854775808 ≤ a) (h2 : a ≤ 9223372036854775807) (hn : 0 < n) : -9223372036854775808 ≤ a.tdiv n ∧ a.tdiv n ≤ 9223372036854775807 := by
  have := Int.natAbs_tdiv_le_natAbs a n
  by_cases h : 0 ≤ a
  · have := Int.tdiv_nonneg h (by omega : 0 ≤ n)
    omega
  · have : 0 ≤ (-a).tdiv n := Int.tdiv_nonneg (by omega) (by omega)
    rw [Int.neg_tdiv] at this
    omega

/-- The two Readers, side by side: in one state. -/
structure Both (w0 : World) (g x : Nat) (s : RS) (w : World) : Prop where
  r : IsR w g g s
  x : IsX w w0.heap.size x s
  below : Below w0.heap.size w0 w
theorem Both.stepR {w0 w w' : World} {g x : Nat} {s s' : RS} (h : Both w0 g x s w) (hg : w0.heap.size ≤ g) (hgx : g < x) (d : Did g g w s' w') : IsR w' g g s' ∧ IsX w' w0.heap.size x s ∧ Below w0.heap.size w0 w' :=
  ⟨d.is, h.x.only d.only (by omega) hg, d.below h.below hg h.below.size⟩
theorem Both.stepX {w0 w w' : World} {g x : Nat} {s s' : RS} (hg : w0.heap.size ≤ g) (hgx : g < x) (h : IsR w g g s' ∧ IsX w w0.heap.size x s ∧ Below w0.heap.size w0 w) (d : DidX w0.heap.size x w s' w') : Both w0 g x s' w' :=
  ⟨h.1.only d.only (by omega) (by omega), d.is, h.2.2.grown d.only h.2.2.size (fun k hk => by injection hk with hk; omega)⟩

set_option maxHeartbeats 8000000 in
theorem CodeReads_walk (b : Value) (m : Nat) (bs : List UInt8) (q : Value) (l : Nat) (zs : List Int) (w : World) (h : Sl w w.heap.size 1 b m (bvs bs)) (hq : Sl w w.heap.size 1 q l (ivs zs)) (hz : ∀ z ∈ zs, -9223372036854775808 ≤ z ∧ z ≤ 9223372036854775807) :
    Calls Try.prog 8 #[b, q] w fun e w' => e = .returned (.bool true) ∧ Below w.heap.size w w' := by
  obtain rfl : bs.length = m := by have := h.1; rw [bvs_length] at this; omega
  obtain rfl : zs.length = l := by have := hq.1; simp [ivs] at this; omega
  have hm : bs.length ≤ maxLen := by obtain ⟨_, A, c, _, h1, h2, _⟩ := h; omega
  have hml : zs.length ≤ maxLen := by obtain ⟨_, A, c, _, h1, h2, _⟩ := hq; omega
  have h' := h
  have hq' := hq
  obtain ⟨hlen, A, c, rfl, hnc, hcm, hA, hrd⟩ := h
  obtain ⟨_, A2, c2, rfl, hnc2, hcm2, hA2, hrd2⟩ := hq
  clear hlen hA hrd hcm hnc hnc2 hcm2 hA2
  unfold maxLen at hm hml
  by_cases hb1 : 500 < bs.length
  · go_enter Try.func8, Try.ntmps8
    go_wp2_with (go_at_call 11; refine (known_any _).mono ?_; rintro e w1 ⟨rfl, bel1⟩)
    go_ret
    exact ⟨rfl, bel1⟩
  go_enter Try.func8, Try.ntmps8
  go_wp2_with fail
  refine (known_any _).mono ?_
  rintro e' w1 ⟨rfl, bel1⟩
  have h1 := h'.below bel1
  have hown := World.ownsRow_made (e := 5) (size := 1) w1 #[] 0 (Nat.le_refl _) (Nat.zero_le _) (by simp)
  go_wp2_with (at_builtin; refine wpList_append _ rfl (.tmp 13) (.tmp 14) rfl (run_append_rd _ T8 _ hown ((h1.alloc bel1.size _)) (bvs_one _) (by simp only [maxLen]; omega) (by omega) (by simp)) rfl rfl ?_; intro v2 w2 ap; have b2 := ap.below ((Below.refl _ _).alloc (Nat.le_refl _) _) hown (Nat.le_refl _) (by simp))
  have o2 := own_bs (bs := bs) (own_cast ap.own rfl (by simp))
  have bel2 := bel1.trans (b2.mono bel1.size)
  refine (New_any v2 bs _ (Sl.of_own o2) (by omega)).mono ?_
  rintro e' w3 ⟨g, rfl, hg, r3, bel3⟩
  have hg0 : w.heap.size ≤ g := Nat.le_trans bel2.size hg
  replace bel3 := bel2.trans (bel3.mono bel2.size)
  clear o2 ap hown h1 bel1 b2 bel2 hg
  go_wp2_with fail
  refine (XNew_any w.heap.size _ bs _ (h'.below bel3) bel3.size).mono ?_
  rintro e' w4 ⟨x, rfl, hx, x4, bel4⟩
  have hgx : g < x := Nat.lt_of_lt_of_le r3.lt hx
  have B4 : Both w g x ⟨bs, 0⟩ w4 := ⟨r3.below bel4, x4, bel3.trans (bel4.mono bel3.size)⟩
  clear r3 x4 bel4 bel3 hx h'
  go_wp2_with fail
  go_loopw [7] (fun i wr => ∃ (k : Nat) (s : RS), k ≤ 30 ∧ i = .int .i64 k ∧ Both w g x s wr) (fun i _ => 31 - (intOf i).toNat)
  case atStart => exact ⟨0, _, by omega, rfl, B4⟩
  case round =>
    clear B4
    obtain ⟨k, s, hk, rfl, hB⟩ := hrel
    by_cases hc : k < zs.length ∧ k < 30
    · obtain ⟨hk1, hk2⟩ := hc
      obtain ⟨bb, off, rfl, hbb, hcell⟩ := hrd2.at_ (k := k) (by simpa [ivs] using hk1)
      simp only [ivs, List.getElem_map] at hcell
      have hzk := hz _ (List.getElem_mem hk1)
      obtain ⟨z, hzz⟩ : ∃ z, z = zs[k] := ⟨_, rfl⟩
      rw [← hzz] at hcell hzk
      clear hzz
      have H0 := Lib.hid hcell
      rw [← hB.below.cell (p := ⟨bb, off + k, none⟩) hbb] at hcell
      have W7 := Lib.hid (fun W => within_any z 7 W hzk.1 hzk.2 (by omega) (by omega))
      have p0 := Int.emod_nonneg z (show (7 : Int) ≠ 0 by omega)
      have p1 := Int.emod_lt_of_pos z (show (0 : Int) < 7 by omega)
      generalize z % 7 = d at *
      rcases (show d = 0 ∨ d = 1 ∨ d = 2 ∨ d = 3 ∨ d = 4 ∨ d = 5 ∨ d = 6 by omega) with rfl | rfl | rfl | rfl | rfl | rfl | rfl
      · go_wp2_with fail
        refine (W7.out _).mono ?_
        rintro e' ww ⟨rfl, rfl⟩
        clear W7
        go_wp2_with fail
        refine (RInt8_any g g s _ hB.r).mono ?_
        rintro e' w5 ⟨rfl, d5⟩
        have S5 := hB.stepR hg0 hgx d5
        go_wp2_with fail
        refine (XInt8_any w.heap.size x s _ S5.2.1).mono ?_
        rintro e' w6 ⟨rfl, d6⟩
        have B6 := Both.stepX hg0 hgx S5 d6
        clear d5 d6 S5 hB
        generalize s.readInt.2 = s2 at *
        generalize s.readInt.1 = v2 at *
        go_wp2_with fail
        refine (End_any g g s2 _ B6.r).mono ?_
        rintro e' ww ⟨rfl, rfl⟩
        go_wp2_with fail
        refine (XEnd_any w.heap.size x s2 _ B6.x).mono ?_
        rintro e' w7 ⟨rfl, d7⟩
        have B7 := Both.stepX hg0 hgx ⟨B6.r, B6.x, B6.below⟩ d7
        clear d7 B6
        go_wp2_with fail
        go_roundw
        case rel => exact ⟨k + 1, s2, by omega, by go_num, B7⟩
        case measure => (simp [intOf] <;> omega)
      · go_wp2_with fail
        refine (W7.out _).mono ?_
        rintro e' ww ⟨rfl, rfl⟩
        clear W7
        go_wp2_with fail
        refine (RInt8_any g g s _ hB.r).mono ?_
        rintro e' w5 ⟨rfl, d5⟩
        have S5 := hB.stepR hg0 hgx d5
        go_wp2_with fail
        refine (XInt8_any w.heap.size x s _ S5.2.1).mono ?_
        rintro e' w6 ⟨rfl, d6⟩
        have B6 := Both.stepX hg0 hgx S5 d6
        clear d5 d6 S5 hB
        generalize s.readInt.2 = s2 at *
        generalize s.readInt.1 = v2 at *
        go_wp2_with fail
        refine (End_any g g s2 _ B6.r).mono ?_
        rintro e' ww ⟨rfl, rfl⟩
        go_wp2_with fail
        refine (XEnd_any w.heap.size x s2 _ B6.x).mono ?_
        rintro e' w7 ⟨rfl, d7⟩
        have B7 := Both.stepX hg0 hgx ⟨B6.r, B6.x, B6.below⟩ d7
        clear d7 B6
        go_wp2_with fail
        go_roundw
        case rel => exact ⟨k + 1, s2, by omega, by go_num, B7⟩
        case measure => (simp [intOf] <;> omega)
      · go_wp2_with fail
        refine (W7.out _).mono ?_
        rintro e' ww ⟨rfl, rfl⟩
        clear W7
        go_wp2_with fail
        refine (RByte1_any g g s _ hB.r).mono ?_
        rintro e' w5 ⟨rfl, d5⟩
        have S5 := hB.stepR hg0 hgx d5
        go_wp2_with fail
        refine (XByte1_any w.heap.size x s _ S5.2.1).mono ?_
        rintro e' w6 ⟨rfl, d6⟩
        have B6 := Both.stepX hg0 hgx S5 d6
        clear d5 d6 S5 hB
        generalize s.readByte.2 = s2 at *
        generalize s.readByte.1 = v2 at *
        go_wp2_with fail
        refine (End_any g g s2 _ B6.r).mono ?_
        rintro e' ww ⟨rfl, rfl⟩
        go_wp2_with fail
        refine (XEnd_any w.heap.size x s2 _ B6.x).mono ?_
        rintro e' w7 ⟨rfl, d7⟩
        have B7 := Both.stepX hg0 hgx ⟨B6.r, B6.x, B6.below⟩ d7
        clear d7 B6
        go_wp2_with fail
        go_roundw
        case rel => exact ⟨k + 1, s2, by omega, by go_num, B7⟩
        case measure => (simp [intOf] <;> omega)
      · go_wp2_with fail
        refine (W7.out _).mono ?_
        rintro e' ww ⟨rfl, rfl⟩
        clear W7
        go_wp2_with fail
        refine (RByte1_any g g s _ hB.r).mono ?_
        rintro e' w5 ⟨rfl, d5⟩
        have S5 := hB.stepR hg0 hgx d5
        go_wp2_with fail
        refine (XByte1_any w.heap.size x s _ S5.2.1).mono ?_
        rintro e' w6 ⟨rfl, d6⟩
        have B6 := Both.stepX hg0 hgx S5 d6
        clear d5 d6 S5 hB
        generalize s.readByte.2 = s2 at *
        generalize s.readByte.1 = v2 at *
        go_wp2_with fail
        refine (End_any g g s2 _ B6.r).mono ?_
        rintro e' ww ⟨rfl, rfl⟩
        go_wp2_with fail
        refine (XEnd_any w.heap.size x s2 _ B6.x).mono ?_
        rintro e' w7 ⟨rfl, d7⟩
        have B7 := Both.stepX hg0 hgx ⟨B6.r, B6.x, B6.below⟩ d7
        clear d7 B6
        go_wp2_with fail
        go_roundw
        case rel => exact ⟨k + 1, s2, by omega, by go_num, B7⟩
        case measure => (simp [intOf] <;> omega)
      · go_wp2_with fail
        refine (W7.out _).mono ?_
        rintro e' ww ⟨rfl, rfl⟩
        clear W7
        go_wp2_with fail
        refine (RText_read g g s _ hB.r).mono ?_
        rintro e' w5 ⟨rfl, d5⟩
        have S5 := hB.stepR hg0 hgx d5
        go_wp2_with fail
        refine (XText_read w.heap.size x s _ S5.2.1).mono ?_
        rintro e' w6 ⟨rfl, d6⟩
        have B6 := Both.stepX hg0 hgx S5 d6
        clear d5 d6 S5 hB
        generalize s.readText.2 = s2 at *
        generalize s.readText.1 = v2 at *
        go_wp2_with fail
        refine (End_any g g s2 _ B6.r).mono ?_
        rintro e' ww ⟨rfl, rfl⟩
        go_wp2_with fail
        refine (XEnd_any w.heap.size x s2 _ B6.x).mono ?_
        rintro e' w7 ⟨rfl, d7⟩
        have B7 := Both.stepX hg0 hgx ⟨B6.r, B6.x, B6.below⟩ d7
        clear d7 B6
        go_wp2_with fail
        go_roundw
        case rel => exact ⟨k + 1, s2, by omega, by go_num, B7⟩
        case measure => (simp [intOf] <;> omega)
      · go_wp2_with fail
        refine (W7.out _).mono ?_
        rintro e' ww ⟨rfl, rfl⟩
        clear W7
        go_wp2_with fail
        refine (RText_read g g s _ hB.r).mono ?_
        rintro e' w5 ⟨rfl, d5⟩
        have S5 := hB.stepR hg0 hgx d5
        go_wp2_with fail
        refine (XText_read w.heap.size x s _ S5.2.1).mono ?_
        rintro e' w6 ⟨rfl, d6⟩
        have B6 := Both.stepX hg0 hgx S5 d6
        clear d5 d6 S5 hB
        generalize s.readText.2 = s2 at *
        generalize s.readText.1 = v2 at *
        go_wp2_with fail
        refine (End_any g g s2 _ B6.r).mono ?_
        rintro e' ww ⟨rfl, rfl⟩
        go_wp2_with fail
        refine (XEnd_any w.heap.size x s2 _ B6.x).mono ?_
        rintro e' w7 ⟨rfl, d7⟩
        have B7 := Both.stepX hg0 hgx ⟨B6.r, B6.x, B6.below⟩ d7
        clear d7 B6
        go_wp2_with fail
        go_roundw
        case rel => exact ⟨k + 1, s2, by omega, by go_num, B7⟩
        case measure => (simp [intOf] <;> omega)
      · have hq := tdiv_bounds z 7 hzk.1 hzk.2 (by omega)
        go_wp2_with fail
        refine (W7.out _).mono ?_
        rintro e' ww ⟨rfl, rfl⟩
        clear W7
        have W20 := Lib.hid (fun W => within_any (z.tdiv 7) 20 W hq.1 hq.2 (by omega) (by omega))
        go_wp2_with fail
        refine (W20.out _).mono ?_
        rintro e' ww ⟨rfl, rfl⟩
        go_wp2_with fail
        refine (Fail_any g g s.rest s.err _ _ hB.r).mono ?_
        rintro e' w5 ⟨rfl, r5, o5⟩
        have S5 := hB.stepR (s' := s.fail (z.tdiv 7 % 20)) hg0 hgx ⟨r5, o5⟩
        have hcell5 := (S5.2.2.cell (p := ⟨bb, off + k, none⟩) hbb).trans H0.out
        clear hcell r5 o5
        go_wp2_with fail
        refine (W20.out _).mono ?_
        rintro e' ww ⟨rfl, rfl⟩
        go_wp2_with fail
        refine (XFail_any w.heap.size x s _ _ S5.2.1).mono ?_
        rintro e' w6 ⟨rfl, d6⟩
        have B6 := Both.stepX hg0 hgx S5 d6
        clear d6 S5 hB W20 H0 hcell5
        generalize s.fail (z.tdiv 7 % 20) = s2 at *
        go_wp2_with fail
        refine (End_any g g s2 _ B6.r).mono ?_
        rintro e' ww ⟨rfl, rfl⟩
        go_wp2_with fail
        refine (XEnd_any w.heap.size x s2 _ B6.x).mono ?_
        rintro e' w7 ⟨rfl, d7⟩
        have B7 := Both.stepX hg0 hgx ⟨B6.r, B6.x, B6.below⟩ d7
        clear d7 B6
        go_wp2_with fail
        go_roundw
        case rel => exact ⟨k + 1, s2, by omega, by go_num, B7⟩
        case measure => (simp [intOf] <;> omega)
    · have hor : zs.length ≤ k ∨ k = 30 := by omega
      clear hq'
      clear hc hrd2 hz
      rcases Nat.lt_or_ge k zs.length with hk1 | hk1
      · obtain rfl : k = 30 := by omega
        go_wp2_with fail
        refine (End_any g g s _ hB.r).mono ?_
        rintro e' ww ⟨rfl, rfl⟩
        go_wp2_with fail
        refine (XEnd_any w.heap.size x s _ hB.x).mono ?_
        rintro e' w7 ⟨rfl, d7⟩
        have B7 := Both.stepX hg0 hgx ⟨hB.r, hB.x, hB.below⟩ d7
        clear d7 hB
        go_wp2_with fail
        go_ret
        exact ⟨rfl, B7.below⟩
      · go_wp2_with fail
        refine (End_any g g s _ hB.r).mono ?_
        rintro e' ww ⟨rfl, rfl⟩
        go_wp2_with fail
        refine (XEnd_any w.heap.size x s _ hB.x).mono ?_
        rintro e' w7 ⟨rfl, d7⟩
        have B7 := Both.stepX hg0 hgx ⟨hB.r, hB.x, hB.below⟩ d7
        clear d7 hB
        go_wp2_with fail
        go_ret
        exact ⟨rfl, B7.below⟩
end Go.Proofs.Ytneikkofembgmaa
