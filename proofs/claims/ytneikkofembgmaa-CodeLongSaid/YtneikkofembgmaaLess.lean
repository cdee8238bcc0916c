/- A text that says it is longer than what is left is cut: the law CodeLess. -/
import Derived.Test.YtneikkofembgmaaWithin
namespace Go.Proofs.Ytneikkofembgmaa
open Go.RowKit
set_option linter.unusedVariables false
set_option linter.unusedSimpArgs false
set_option linter.unnecessarySimpa false

theorem two_bytes (n : Int) (h0 : 0 ≤ n) (h1 : n < 65536) : leInt [byte1 n, byte1 (n / 256)] = n := by
  have a : (byte1 n).toNat = (n % 256).toNat := by unfold byte1; rw [UInt8.toNat_ofNat', Nat.mod_eq_of_lt (by omega)]
  have b : (byte1 (n / 256)).toNat = (n / 256 % 256).toNat := by unfold byte1; rw [UInt8.toNat_ofNat', Nat.mod_eq_of_lt (by omega)]
  simp only [leInt, leNat, a, b]
  rw [IntKind.wrap_i64]
  omega

set_option maxHeartbeats 4000000 in
theorem CodeLess_walk (b : Value) (m : Nat) (bs : List UInt8) (n : Int) (w : World) (h : Sl w w.heap.size 1 b m (bvs bs)) (hn1 : -9223372036854775808 ≤ n) (hn2 : n ≤ 9223372036854775807) :
    Calls Try.prog 7 #[.int .i64 n, b] w fun e w' => e = .returned (.bool true) ∧ Below w.heap.size w w' := by
  obtain rfl : bs.length = m := by have := h.1; rw [bvs_length] at this; omega
  have hm : bs.length ≤ maxLen := by obtain ⟨_, A, c, _, h1, h2, _⟩ := h; omega
  have h' := h
  obtain ⟨hlen, A, c, rfl, hnc, hcm, hA, hrd⟩ := h
  clear hlen hA hrd
  unfold maxLen at hm
  by_cases hb1 : 200 < bs.length
  · go_enter Try.func7, Try.ntmps7
    go_wp2_with (go_at_call 11; refine (known_any _).mono ?_; rintro e w1 ⟨rfl, bel1⟩)
    go_ret
    exact ⟨rfl, bel1⟩
  have n3 := Int.emod_nonneg n (show (300 : Int) ≠ 0 by omega)
  have n4 := Int.emod_lt_of_pos n (show (0 : Int) < 300 by omega)
  have WN := Lib.hid (fun w => within_any n 300 w hn1 hn2 (by omega) (by omega))
  generalize n % 300 = nn at *
  obtain ⟨N, hN⟩ : ∃ N : Int, N = (bs.length : Int) + 1 + nn := ⟨_, rfl⟩
  have tb := two_bytes N (by omega) (by omega)
  -- what the two Readers do
  have q1 : RS.readText ⟨[byte1 N, byte1 (N / 256)] ++ bs, 0⟩ = ([], ⟨bs, 8⟩) := by
    unfold RS.readText RS.number
    rw [ok_take _ 2 rfl (by simp)]
    show RS.take ⟨bs, 0⟩ (leInt [byte1 N, byte1 (N / 256)]).toNat = _
    rw [tb, cut_take _ _ rfl (by simp only; omega)]
  have q2 : ∀ l : List UInt8, l.length ≤ 7 → RS.readInt ⟨l, 0⟩ = (0, ⟨l, 8⟩) := by
    intro l hl
    unfold RS.readInt RS.number
    rw [cut_take _ 8 rfl (by simp only; omega)]
    rfl
  have Q1 := Lib.hid q1
  have Q2 := Lib.hid q2
  clear q1 q2 tb
  have hb8 : Value.int .u8 (N % 256) = u8v (byte1 N) := u8v_byte1 N
  have hb9 : Value.int .u8 (N / 256) = u8v (byte1 (N / 256)) := by rw [← u8v_byte1]; congr 1; omega
  have HB := Lib.hid (And.intro hb8 hb9)
  clear hb8 hb9
  have hz : ∀ l : List UInt8, (strOf l).toList = l := strOf_toList
  rcases Nat.lt_or_ge 7 bs.length with h7 | h7
  all_goals
    subst hN
    go_enter Try.func7, Try.ntmps7
    go_wp2_with fail
    refine (known_any _).mono ?_
    rintro e' w1 ⟨rfl, bel1⟩
    go_wp2_with fail
    refine (WN.out _).mono ?_
    rintro e' ww ⟨rfl, rfl⟩
    have h1 := h'.below bel1
    go_wp2_with (at_builtin; refine wpList_append _ rfl (.tmp 25) (.tmp 26) rfl (run_append_rd _ T8 _ (own_lit w1 _ _ 2 1 rfl (by simp [maxLen])) (h1.alloc bel1.size _) (bvs_one _) (by simp only [maxLen]; omega) (by omega) (by simp)) rfl rfl ?_; intro v2 w2 ap2; have b2 := ap2.below ((Below.refl _ _).alloc (Nat.le_refl _) _) (own_lit w1 _ _ 2 1 rfl (by simp [maxLen])) (Nat.le_refl _) (by simp))
    have o2 := own_bs (bs := [byte1 ((bs.length : Int) + 1 + nn), byte1 (((bs.length : Int) + 1 + nn) / 256)] ++ bs) (own_cast ap2.own rfl (by rw [HB.out.1, HB.out.2]; rfl))
    refine (New_any v2 _ _ (Sl.of_own o2) (by simp; omega)).mono ?_
    rintro e' w3 ⟨g, rfl, hg, r3, bel3⟩
    have bel3' := bel1.trans ((b2.trans (bel3.mono b2.size)).mono bel1.size)
    have hg0 : w.heap.size ≤ g := Nat.le_trans bel1.size (Nat.le_trans b2.size hg)
    clear ap2 o2 b2 bel3 hg
    go_wp2_with fail
    refine (RText_read g g _ _ r3).mono ?_
    rintro e' w4 ⟨rfl, d4⟩
    have bel4 := d4.below bel3' hg0 bel3'.size
    have is4 := d4.is
    rw [Q1.out] at is4 ⊢
    clear d4 r3 bel3' h1 bel1
    have h4 := (h'.below bel4).more bel4.size
    go_wp2_with fail
    first
      | refine (New_any _ (bs.take 7) _ ((h4.to (by omega : 7 ≤ bs.length)).cast (bvs_take bs 7) |> sl_bs) (by simp; omega)).mono ?_
      | refine (New_any _ bs _ h4 (by omega)).mono ?_
    rintro e' w5 ⟨x, rfl, hx, x5, bel5⟩
    have hgx : g < x := Nat.lt_of_lt_of_le is4.lt hx
    have is5 := is4.below bel5
    replace bel5 := bel4.trans (bel5.mono bel4.size)
    go_wp2_with fail
    refine (RInt8_any x x _ _ x5).mono ?_
    rintro e' w6 ⟨rfl, d6⟩
    have is6 := is5.only d6.only (by omega) (by omega)
    have bel6 := d6.below bel5 (by omega) bel5.size
    have x6 := d6.is
    rw [Q2.out _ (by first | exact h7 | (simp; omega))] at x6 ⊢
    clear d6 is5 bel5 x5 is4 bel4 hx
    have E1 := End_any g g _ _ is6
    have E2 := End_any x x _ _ x6
    have qe : ∀ l : List UInt8, RS.endErr ⟨l, 8⟩ = 8 := fun l => by simp [RS.endErr]
    rw [qe] at E1 E2
    have E1' := Lib.hid E1
    have E2' := Lib.hid E2
    clear E1 E2 is6 x6 Q1 Q2 HB qe
    go_wp2_with fail
    refine E1'.out.mono ?_
    rintro e' ww ⟨rfl, rfl⟩
    go_wp2_with fail
    refine E2'.out.mono ?_
    rintro e' ww ⟨rfl, rfl⟩
    go_wp2_with fail
    go_ret
    exact ⟨rfl, bel6⟩
end Go.Proofs.Ytneikkofembgmaa
