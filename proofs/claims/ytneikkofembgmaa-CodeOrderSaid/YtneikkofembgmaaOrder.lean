/- What is put stands behind what was put ahead of it: the law CodeOrder. -/
import Derived.Test.YtneikkofembgmaaKnown
namespace Go.Proofs.Ytneikkofembgmaa
open Go.RowKit
set_option linter.unusedVariables false
set_option linter.unusedSimpArgs false

set_option maxHeartbeats 4000000 in
theorem CodeOrder_walk (b : Value) (m : Nat) (bs : List UInt8) (n k : Int) (s : ByteArray) (w : World) (h : Sl w w.heap.size 1 b m (bvs bs)) (hs : s.size ≤ maxLen) :
    Calls Try.prog 4 #[b, .int .i64 n, .int .i64 k, .string s] w fun e w' => e = .returned (.bool true) ∧ Below w.heap.size w w' := by
  obtain rfl : bs.length = m := by have := h.1; rw [bvs_length] at this; omega
  have hm : bs.length ≤ maxLen := by obtain ⟨_, A, c, _, h1, h2, _⟩ := h; omega
  have h' := h
  obtain ⟨hlen, A, c, rfl, hnc, hcm, hA, hrd⟩ := h
  clear hlen hA hrd hnc
  unfold maxLen at hm
  have hs' := hs
  unfold maxLen at hs'
  by_cases hb1 : 50 < bs.length
  · go_enter Try.func4, Try.ntmps4
    go_wp2_with (go_at_call 11; refine (known_any _).mono ?_; rintro e w1 ⟨rfl, bel1⟩)
    go_ret
    exact ⟨rfl, bel1⟩
  by_cases hb2 : 200 < s.size
  · go_enter Try.func4, Try.ntmps4
    go_wp2_with (go_at_call 11; refine (known_any _).mono ?_; rintro e w1 ⟨rfl, bel1⟩)
    go_ret
    exact ⟨rfl, bel1⟩
  · go_enter Try.func4, Try.ntmps4
    go_wp2_with fail
    refine (known_any _).mono ?_
    rintro e w1 ⟨rfl, bel1⟩
    have h1 := (h'.below bel1)
    have hown : (w1.alloc (.cells #[] 5)).ownsRow w1.heap.size 5 1 (.slice (some ⟨w1.heap.size, 0, none⟩) 0 0) 0 [] :=
      World.ownsRow_made w1 #[] 0 (Nat.le_refl _) (Nat.zero_le _) (by simp)
    go_wp2_with (at_builtin; refine wpList_append _ rfl (.tmp 21) (.tmp 22) rfl (run_append_rd _ T8 _ hown ((h1.alloc bel1.size _)) (bvs_one _) (by simp only [maxLen]; omega) (by omega) (by simp)) rfl rfl ?_; intro v2 w2 ap2; have b2 := ap2.below ((Below.refl _ _).alloc (Nat.le_refl _) _) hown (Nat.le_refl _) (by simp))
    have o2 := own_cast (m := bs.length) (ys := bvs bs) ap2.own (by simp) (by simp)
    refine (Int_any v2 bs.length bs n _ (Sl.of_own o2) (by omega)).mono ?_
    rintro e w3 ⟨v3, rfl, own3, bel3⟩
    replace own3 := own_bs own3
    go_wp2_with fail
    refine (Byte_any v3 _ k _ (Sl.of_own own3) (by simp [le8_length]; omega)).mono ?_
    rintro e w4 ⟨v4, rfl, own4, bel4⟩
    replace own4 := own_bs own4
    go_wp2_with fail
    refine (Text_any v4 _ s _ (Sl.of_own own4) (by simp [le8_length]; omega) hs).mono ?_
    rintro e w5 ⟨v5, rfl, own5, bel5⟩
    have b5 : Below w1.heap.size w1 w5 := ((b2.trans (bel3.mono b2.size)).trans (bel4.mono (Nat.le_trans b2.size bel3.size))).trans (bel5.mono (Nat.le_trans b2.size (Nat.le_trans bel3.size bel4.size)))
    have s5 := Sl.of_own own5
    have l5 : (bs ++ le8 n ++ [byte1 k] ++ textBytes s.data.toList).length = bs.length + 8 + 1 + 2 + s.size := by
      simp only [List.length_append, le8_length, textBytes_length, List.length_cons, List.length_nil, str_data]; omega
    obtain ⟨g5, c5, rfl, _, _, _, _, _⟩ := own_shape own5 (by rw [l5]; omega)
    rw [l5] at s5
    rw [l5]
    have cvx := fun (W : World) (hb : Below w5.heap.size w5 W) => conv_str (s5.below hb) Try.underlying22 Try.underlying5 Try.underlying9
    have CVX := Lib.hid cvx
    clear cvx l5
    have z5 : w2.heap.size ≤ w5.heap.size := Nat.le_trans bel3.size (Nat.le_trans bel4.size bel5.size)
    clear own3 own4 own5 bel3 bel4 bel5 o2 ap2 hown
    -- the other way: each by itself, one behind the other
    have h5 := h1.below_le b5 bel1.size
    have hownB : (w5.alloc (.cells #[] 5)).ownsRow w5.heap.size 5 1 (.slice (some ⟨w5.heap.size, 0, none⟩) 0 0) 0 [] :=
      World.ownsRow_made w5 #[] 0 (Nat.le_refl _) (Nat.zero_le _) (by simp)
    have q5 := Nat.le_trans bel1.size b5.size
    go_wp2_with (at_builtin; refine wpList_append _ rfl (.tmp 30) (.tmp 31) rfl (run_append_rd _ T8 _ hownB ((h5.alloc q5 _)) (bvs_one _) (by simp only [maxLen]; omega) (by omega) (by simp)) rfl rfl ?_; intro v6 w6 ap6; have b6 := ap6.below ((Below.refl _ _).alloc (Nat.le_refl _) _) hownB (Nat.le_refl _) (by simp))
    have o6 := own_cast (m := bs.length) (ys := bvs bs) ap6.own (by simp) (by simp)
    refine (Int_any _ 0 [] n _ Sl.nil (by simp)).mono ?_
    rintro e w7 ⟨v7, rfl, own7, bel7⟩
    have o7 := o6.kept (grown_of_below bel7 none) (by cases v6.ownBlock <;> simp)
    have b7 := b6.trans (bel7.mono b6.size)
    go_wp2_with (at_builtin; refine wpList_append _ rfl (.tmp 32) (.tmp 34) rfl (run_append_rd _ T8 _ o7 (Sl.of_own own7) (bvs_one _) (by simp only [maxLen]; omega) (by omega) b7.size) rfl rfl ?_; intro v8 w8 ap8; have b8 := ap8.below b7 o7 (Nat.le_refl _) b7.size)
    refine (Byte_any _ [] k _ Sl.nil (by simp)).mono ?_
    rintro e w9 ⟨v9, rfl, own9, bel9⟩
    have o9 := ap8.own.kept (grown_of_below bel9 none) (by cases v8.ownBlock <;> simp)
    have b9 := b8.trans (bel9.mono b8.size)
    go_wp2_with (at_builtin; refine wpList_append _ rfl (.tmp 35) (.tmp 37) rfl (run_append_rd _ T8 _ o9 (Sl.of_own own9) (bvs_one _) (by simp only [maxLen, List.length_nil]; omega) (by simp only [List.length_nil]; omega) b9.size) rfl rfl ?_; intro v10 w10 ap10; have b10 := ap10.below b9 o9 (Nat.le_refl _) b9.size)
    refine (Text_any _ [] s _ Sl.nil (by simp) hs).mono ?_
    rintro e w11 ⟨v11, rfl, own11, bel11⟩
    have o11 := ap10.own.kept (grown_of_below bel11 none) (by cases v10.ownBlock <;> simp)
    have b11 := b10.trans (bel11.mono b10.size)
    have tl := textBytes_length s.data.toList
    rw [str_data] at tl
    go_wp2_with (at_builtin; refine wpList_append _ rfl (.tmp 38) (.tmp 40) rfl (run_append_rd _ T8 _ o11 (Sl.of_own own11) (bvs_one _) (by simp only [maxLen, List.length_nil, List.length_append]; omega) (by simp only [List.length_nil, List.length_append]; omega) b11.size) rfl rfl ?_; intro v12 w12 ap12; have b12 := ap12.below b11 o11 (Nat.le_refl _) b11.size; have cx := CVX.out _ b12; have cy := conv_str (w := w12) (bs := bs ++ le8 n ++ [byte1 k] ++ textBytes s.data.toList) (Sl.of_own (own_cast ap12.own rfl (by simp [bvs]))) Try.underlying22 Try.underlying5 Try.underlying9; have htl := strOf_toList)
    go_ret
    exact ⟨rfl, bel1.trans ((b5.trans (b12.mono b5.size)).mono bel1.size)⟩
end Go.Proofs.Ytneikkofembgmaa
