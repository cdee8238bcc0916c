/- The first error stays, and behind it nothing is read: the law CodeFails. -/
import Derived.Test.YtneikkofembgmaaWithin
namespace Go.Proofs.Ytneikkofembgmaa
open Go.RowKit
set_option linter.unusedVariables false
set_option linter.unusedSimpArgs false
set_option linter.unnecessarySimpa false

set_option maxHeartbeats 4000000 in
theorem CodeFails_walk (b : Value) (m : Nat) (bs : List UInt8) (e f : Int) (w : World) (h : Sl w w.heap.size 1 b m (bvs bs)) (he1 : -9223372036854775808 ≤ e) (he2 : e ≤ 9223372036854775807) (hf1 : -9223372036854775808 ≤ f) (hf2 : f ≤ 9223372036854775807) :
    Calls Try.prog 9 #[b, .int .i64 e, .int .i64 f] w fun e w' => e = .returned (.bool true) ∧ Below w.heap.size w w' := by
  obtain rfl : bs.length = m := by have := h.1; rw [bvs_length] at this; omega
  have hm : bs.length ≤ maxLen := by obtain ⟨_, A, c, _, h1, h2, _⟩ := h; omega
  have h' := h
  obtain ⟨hlen, A, c, rfl, hnc, hcm, hA, hrd⟩ := h
  clear hlen hA hrd hnc
  unfold maxLen at hm
  by_cases hb1 : 100 < bs.length
  · go_enter Try.func9, Try.ntmps9
    go_wp2_with (go_at_call 11; refine (known_any _).mono ?_; rintro e w1 ⟨rfl, bel1⟩)
    go_ret
    exact ⟨rfl, bel1⟩
  have we := within_any e 22
  have wf := within_any f 22
  have e3 := Int.emod_nonneg e (show (22 : Int) ≠ 0 by omega)
  have e4 := Int.emod_lt_of_pos e (show (0 : Int) < 22 by omega)
  have f3 := Int.emod_nonneg f (show (22 : Int) ≠ 0 by omega)
  have f4 := Int.emod_lt_of_pos f (show (0 : Int) < 22 by omega)
  have WE := Lib.hid (fun w => within_any e 22 w he1 he2 (by omega) (by omega))
  have WF := Lib.hid (fun w => within_any f 22 w hf1 hf2 (by omega) (by omega))
  clear we wf
  generalize e % 22 = ee at *
  generalize f % 22 = ff at *
  have hee : 1 + ee ≠ 0 := by omega
  have hff : 1 + ff ≠ 0 := by omega
  go_enter Try.func9, Try.ntmps9
  go_wp2_with fail
  refine (known_any _).mono ?_
  rintro e' w1 ⟨rfl, bel1⟩
  go_wp2_with fail
  refine (WE.out _).mono ?_
  rintro e' ww ⟨rfl, rfl⟩
  go_wp2_with fail
  refine (WF.out _).mono ?_
  rintro e' ww ⟨rfl, rfl⟩
  go_wp2_with fail
  refine (New_any _ bs _ ((h'.below bel1).more bel1.size) (by omega)).mono ?_
  rintro e' w2 ⟨g, rfl, hg, r2, bel2⟩
  replace bel2 := bel1.trans (bel2.mono bel1.size)
  have hg0 : w.heap.size ≤ g := Nat.le_trans bel1.size hg
  clear WE WF h' bel1 hg
  go_wp2_with fail
  refine (Fail_any g g _ _ 0 _ r2).mono ?_
  rintro e' w3 ⟨rfl, r3, o3⟩
  have bel3 : Below w.heap.size w w3 := bel2.grown o3 bel2.size (fun k hk => by injection hk with hk; omega)
  clear r2 o3 bel2
  go_wp2_with fail
  refine (End_any g g ⟨bs, failed 0 0⟩ _ r3).mono ?_
  rintro e' ww ⟨rfl, rfl⟩
  go_wp2_with fail
  refine (Fail_any g g _ _ (1 + ee) _ r3).mono ?_
  rintro e' w4 ⟨rfl, r4, o4⟩
  have bel4 : Below w.heap.size w w4 := bel3.grown o4 bel3.size (fun k hk => by injection hk with hk; omega)
  clear r3 o4 bel3
  have q4 : failed (1 + ee) (failed 0 0) = 1 + ee := by simp [failed]
  rw [q4] at r4
  clear q4
  go_wp2_with fail
  refine (Fail_any g g _ _ (1 + ff) _ r4).mono ?_
  rintro e' w5 ⟨rfl, r5, o5⟩
  have bel5 : Below w.heap.size w w5 := bel4.grown o5 bel4.size (fun k hk => by injection hk with hk; omega)
  clear r4 o5 bel4
  have q5 : failed (1 + ff) (1 + ee) = 1 + ee := by simp [failed, hee]
  rw [q5] at r5
  clear q5
  have is5 : IsR w5 g g ⟨bs, 1 + ee⟩ := r5
  have n8 := err_number ⟨bs, 1 + ee⟩ 8 hee
  have n1 := err_number ⟨bs, 1 + ee⟩ 1 hee
  have nt := err_text ⟨bs, 1 + ee⟩ hee
  have H8 := Lib.hid n8
  have H1 := Lib.hid n1
  have HT := Lib.hid nt
  clear n8 n1 nt r5
  go_wp2_with fail
  refine (RInt8_any g g _ _ is5).mono ?_
  rintro e' w6 ⟨rfl, d6⟩
  have bel6 := d6.below bel5 hg0 bel5.size
  have is6 := d6.is
  unfold RS.readInt at is6 ⊢
  rw [H8.out] at is6 ⊢
  clear d6 bel5 is5
  go_wp2_with fail
  refine (RText_read g g _ _ is6).mono ?_
  rintro e' w7 ⟨rfl, d7⟩
  have bel7 := d7.below bel6 hg0 bel6.size
  have is7 := d7.is
  rw [HT.out] at is7 ⊢
  clear d7 bel6 is6
  go_wp2_with fail
  refine (RByte1_any g g _ _ is7).mono ?_
  rintro e' w8 ⟨rfl, d8⟩
  have bel8 := d8.below bel7 hg0 bel7.size
  have is8 := d8.is
  unfold RS.readByte at is8 ⊢
  rw [H1.out] at is8 ⊢
  clear d8 bel7 is7 H8 H1 HT
  go_wp2_with fail
  refine (New_any _ [] _ Sl.nil (by simp)).mono ?_
  rintro e' w9 ⟨x, rfl, hx, x9, bel9⟩
  have hgx : g < x := Nat.lt_of_lt_of_le is8.lt hx
  have is9 := is8.below bel9
  replace bel9 := bel8.trans (bel9.mono bel8.size)
  clear is8 bel8 hx
  go_wp2_with fail
  refine (RInt8_any x x _ _ x9).mono ?_
  rintro e' w10 ⟨rfl, d10⟩
  have is10 := is9.only d10.only (by omega) (by omega)
  have bel10 := d10.below bel9 (by omega) bel9.size
  have x10 := d10.is
  have q10 : RS.readInt ⟨[], 0⟩ = (0, ⟨[], 8⟩) := rfl
  rw [q10] at x10 ⊢
  clear q10 d10 is9 bel9 x9
  go_wp2_with fail
  refine (Fail_any x x _ _ (1 + ff) _ x10).mono ?_
  rintro e' w11 ⟨rfl, x11, o11⟩
  have is11 := is10.only o11 (by omega) (by omega)
  have bel11 : Below w.heap.size w w11 := bel10.grown o11 bel10.size (fun k hk => by injection hk with hk; omega)
  have q11 : failed (1 + ff) 8 = 8 := by simp [failed]
  simp only [q11] at x11
  clear q11 o11 is10 bel10 x10
  -- what is compared
  have hz : ∀ l : List UInt8, (strOf l).toList = l := strOf_toList
  have E1 := End_any g g ⟨bs, 1 + ee⟩ _ is11
  have E2 := End_any x x ⟨[], 8⟩ _ x11
  have q1 : RS.endErr ⟨bs, 1 + ee⟩ = 1 + ee := by simp [RS.endErr, hee]
  have q2 : RS.endErr ⟨[], 8⟩ = 8 := rfl
  rw [q1] at E1
  rw [q2] at E2
  have E1' := Lib.hid E1
  have E2' := Lib.hid E2
  clear E1 E2 q1 q2 is11 x11
  have hq : ((1 + ee == 1 + ee) : Bool) = true := by simp
  by_cases hb : bs = []
  · subst hb
    have qe : RS.endErr ⟨[], failed 0 0⟩ = 0 := rfl
    rw [qe]
    clear qe
    go_wp2_with fail
    refine E1'.out.mono ?_
    rintro e' ww ⟨rfl, rfl⟩
    go_wp2_with fail
    refine E2'.out.mono ?_
    rintro e' ww ⟨rfl, rfl⟩
    go_wp2_with fail
    go_ret
    exact ⟨rfl, bel11⟩
  · have qe : RS.endErr ⟨bs, failed 0 0⟩ = 9 := by simp [RS.endErr, failed, hb]
    have hl : ((bs.length : Int) == 0) = false := by
      have := List.length_pos_iff.2 hb
      simp; exact hb
    rw [qe]
    clear qe
    go_wp2_with fail
    refine E1'.out.mono ?_
    rintro e' ww ⟨rfl, rfl⟩
    go_wp2_with fail
    refine E2'.out.mono ?_
    rintro e' ww ⟨rfl, rfl⟩
    go_wp2_with fail
    go_ret
    exact ⟨rfl, bel11⟩
end Go.Proofs.Ytneikkofembgmaa
