/- What is written: the law CodeWrites. -/
import Derived.Test.YtneikkofembgmaaKnown
import Derived.Test.YtneikkofembgmaaRegs
namespace Go.Proofs.Ytneikkofembgmaa
open Go.RowKit
set_option linter.unusedVariables false
set_option linter.unusedSimpArgs false
set_option linter.unnecessarySimpa false
attribute [local go_sem ↓] Go.wp_at_zero Go.wp_at_succ

/-- What holds all through CodeWrites' last statement: the argument and its copy read as they did. -/
structure In (w0 : World) (b was : Value) (bs : List UInt8) (W : World) : Prop where
  below : Below w0.heap.size w0 W
  arg : Sl w0 w0.heap.size 1 b bs.length (bvs bs)
  own : W.ownsRow w0.heap.size 5 1 was bs.length (bvs bs)

/-- The bytes of v read as bs for as long as only the copy's row turns. -/
def Txt (was : Value) (w : World) (v : Value) (bs : List UInt8) : Prop :=
  ∀ W, w.grownBy W was.ownBlock → (convert 22 9 v).run Try.prog W = .ok (.string (strOf bs)) W

theorem txt_fresh {w0 W w1 : World} {b was v : Value} {n : Nat} {bs cs : List UInt8} (hI : In w0 b was bs W) (h : w1.ownsRow W.heap.size 5 1 v n (bvs cs)) : Txt was w1 v cs := by
  intro W' hg
  refine conv_str ((Sl.of_own h).only hg ?_) Try.underlying22 Try.underlying5 Try.underlying9
  rcases hI.own.2 with ⟨rfl, _⟩ | ⟨g, cap, cur, rfl, hb, hg', _⟩
  · exact .inl rfl
  · right
    intro e
    have := h.lt g (by rw [e]; rfl)
    have := (Array.getElem?_eq_some_iff.1 hg').1
    omega
theorem in_fresh {w0 W w1 : World} {b was : Value} {bs : List UInt8} (hI : In w0 b was bs W) (h : Below W.heap.size W w1) : In w0 b was bs w1 :=
  ⟨hI.below.trans (h.mono hI.below.size), hI.arg, hI.own.kept (grown_of_below h none) (by cases was.ownBlock <;> simp)⟩
theorem in_apd {w0 W w1 : World} {b was v : Value} {bs ys : List UInt8} {m : Nat} (hI : In w0 b was bs W) (h : Apd w0.heap.size 5 1 W was bs.length (bvs bs) w1 v m (bvs ys)) : In w0 b was bs w1 :=
  ⟨h.below hI.below hI.own (Nat.le_refl _) hI.below.size, hI.arg, h.old⟩
theorem in_arg {w0 W : World} {b was : Value} {bs : List UInt8} (hI : In w0 b was bs W) : Sl W W.heap.size 1 b bs.length (bvs bs) := (hI.arg.below hI.below).more hI.below.size

section
variable {w0 : World} {b was : Value} {bs : List UInt8} (hl : bs.length ≤ 300)
include hl
theorem C12 (n : Int) (W : World) (hI : In w0 b was bs W) : Calls Try.prog 12 #[b, .int .i64 n] W fun e w' => ∃ v', e = .returned v' ∧ In w0 b was bs w' ∧ W.grownBy w' was.ownBlock ∧ Txt was w' v' (bs ++ le8 n) :=
  (Int_any b bs.length bs n W (in_arg hI) (by omega)).mono fun e w' ⟨v', he, ho, hb⟩ => ⟨v', he, in_fresh hI hb, grown_of_below hb _, txt_fresh hI ho⟩
theorem C14 (n : Int) (W : World) (hI : In w0 b was bs W) : Calls Try.prog 14 #[b, .int .i64 n] W fun e w' => ∃ v', e = .returned v' ∧ In w0 b was bs w' ∧ W.grownBy w' was.ownBlock ∧ Txt was w' v' (bs ++ [byte1 n]) :=
  (Byte_any b bs n W (in_arg hI) (by omega)).mono fun e w' ⟨v', he, ho, hb⟩ => ⟨v', he, in_fresh hI hb, grown_of_below hb _, txt_fresh hI ho⟩
theorem C16 (s : ByteArray) (hs : s.size ≤ maxLen) (W : World) (hI : In w0 b was bs W) : Calls Try.prog 16 #[b, .string s] W fun e w' => ∃ v', e = .returned v' ∧ In w0 b was bs w' ∧ W.grownBy w' was.ownBlock ∧ Txt was w' v' (bs ++ textBytes s.data.toList) :=
  (Text_any b bs s W (in_arg hI) (by omega) hs).mono fun e w' ⟨v', he, ho, hb⟩ => ⟨v', he, in_fresh hI hb, grown_of_below hb _, txt_fresh hI ho⟩
theorem C13 (n : Int) (W : World) (hI : In w0 b was bs W) : Calls Try.prog 13 #[was, .int .i64 n] W fun e w' => ∃ v', e = .returned v' ∧ In w0 b was bs w' ∧ W.grownBy w' was.ownBlock ∧ (convert 22 9 v').run Try.prog w' = .ok (.string (strOf (bs ++ le8 n))) w' :=
  (RInt_any _ was bs n W hI.own hI.below.size (by omega)).mono fun e w' ⟨v', he, ap⟩ => ⟨v', he, in_apd hI ap, ap.grown, conv_str (Sl.of_own ap.own) Try.underlying22 Try.underlying5 Try.underlying9⟩
theorem C15 (n : Int) (W : World) (hI : In w0 b was bs W) : Calls Try.prog 15 #[was, .int .i64 n] W fun e w' => ∃ v', e = .returned v' ∧ In w0 b was bs w' ∧ W.grownBy w' was.ownBlock ∧ (convert 22 9 v').run Try.prog w' = .ok (.string (strOf (bs ++ [byte1 n]))) w' :=
  (RByte_any _ was bs n W hI.own hI.below.size (by omega)).mono fun e w' ⟨v', he, ap⟩ => ⟨v', he, in_apd hI ap, ap.grown, conv_str (Sl.of_own ap.own) Try.underlying22 Try.underlying5 Try.underlying9⟩
theorem C17 (s : ByteArray) (hs : s.size ≤ maxLen) (W : World) (hI : In w0 b was bs W) : Calls Try.prog 17 #[was, .string s] W fun e w' => ∃ v', e = .returned v' ∧ In w0 b was bs w' ∧ W.grownBy w' was.ownBlock ∧ (convert 22 9 v').run Try.prog w' = .ok (.string (strOf (bs ++ textBytes s.data.toList))) w' :=
  (RText_any _ was bs s W hI.own hI.below.size (by omega) hs).mono fun e w' ⟨v', he, ap⟩ => ⟨v', he, in_apd hI ap, ap.grown, conv_str (Sl.of_own ap.own) Try.underlying22 Try.underlying5 Try.underlying9⟩
end

set_option maxHeartbeats 2000000 in
theorem CodeWrites_walk (b : Value) (m : Nat) (bs : List UInt8) (n : Int) (s : ByteArray) (w : World) (h : Sl w w.heap.size 1 b m (bvs bs)) (hs : s.size ≤ maxLen) :
    Calls Try.prog 3 #[b, .int .i64 n, .string s] w fun e w' => e = .returned (.bool true) ∧ Below w.heap.size w w' := by
  obtain rfl : bs.length = m := by have := h.1; rw [bvs_length] at this; omega
  have hm : bs.length ≤ maxLen := by obtain ⟨_, A, c, _, h1, h2, _⟩ := h; omega
  have h' := h
  obtain ⟨hlen, A, c, rfl, hnc, hcm, hA, hrd⟩ := h
  clear hlen hA hrd hnc
  unfold maxLen at hm
  have hs' := hs
  unfold maxLen at hs'
  by_cases hb1 : 300 < bs.length
  · go_enter Try.func3, Try.ntmps3
    go_wp2_with (go_at_call 11; refine (known_any _).mono ?_; rintro e w1 ⟨rfl, bel1⟩)
    go_ret
    exact ⟨rfl, bel1⟩
  by_cases hb2 : 500 < s.size
  · go_enter Try.func3, Try.ntmps3
    go_wp2_with (go_at_call 11; refine (known_any _).mono ?_; rintro e w1 ⟨rfl, bel1⟩)
    go_ret
    exact ⟨rfl, bel1⟩
  · go_enter Try.func3, Try.ntmps3
    go_wp2_with fail
    refine (known_any _).mono ?_
    rintro e w1 ⟨rfl, bel1⟩
    have h1 := (h'.below bel1)
    have hown : (w1.alloc (.cells #[] 5)).ownsRow w1.heap.size 5 1 (.slice (some ⟨w1.heap.size, 0, none⟩) 0 0) 0 [] :=
      World.ownsRow_made w1 #[] 0 (Nat.le_refl _) (Nat.zero_le _) (by simp)
    go_wp2_with (at_builtin; refine wpList_append _ rfl (.tmp 18) (.tmp 19) rfl (run_append_rd _ T8 _ hown ((h1.alloc bel1.size _)) (bvs_one _) (by simp only [maxLen]; omega) (by omega) (by simp)) rfl rfl ?_; intro was w2 ap)
    have hI : In w1 (.slice A bs.length c) was bs w2 := ⟨ap.below ((Below.refl _ _).alloc (Nat.le_refl _) _) hown (Nat.le_refl _) (by simp), h1.more bel1.size, own_cast ap.own (by simp) (by simp)⟩
    have hl : bs.length ≤ 300 := by omega
    have hI2 : In w1 (.slice A bs.length c) was bs w2.drew := ⟨hI.below.drew, hI.arg, hI.own.drew⟩
    have hB := hI.below
    clear ap hown h1 h' hI
    refine held_begin (In w1 (.slice A bs.length c) was bs) 32 #[false, false, false, false, false, false, false, false, false, false, false, false, false, false, false, false, false, false, false, false, false, false, false, false, false, false, false, false, false, false, false, false] (by kernel_rfl) (by kernel_rfl) (by kernel_rfl) ?_
    refine held_take 0 21 31 #[true, false, false, false, false, false, false, false, false, false, false, false, false, false, false, false, false, false, false, false, false, false, false, false, false, false, false, false, false, false, false, false] (v := ?_) rfl rfl (by kernel_rfl) (by kernel_rfl) (by kernel_rfl) (by kernel_rfl) (fun _ _ _ h => h) (by rfl) ?_ hI2 ?_
    rotate_left
    · intro W hS; go_simp; all_goals with_reducible rfl
    try simp only [List.setIfInBounds_toArray, List.set_cons_succ, List.set_cons_zero]
    refine held_take 1 22 30 #[true, true, false, false, false, false, false, false, false, false, false, false, false, false, false, false, false, false, false, false, false, false, false, false, false, false, false, false, false, false, false, false] (v := ?_) rfl rfl (by kernel_rfl) (by kernel_rfl) (by kernel_rfl) (by kernel_rfl) (fun _ _ _ h => h) (by rfl) ?_ hI2 ?_
    rotate_left
    · intro W hS; go_simp; all_goals with_reducible rfl
    try simp only [List.setIfInBounds_toArray, List.set_cons_succ, List.set_cons_zero]
    refine held_take 4 25 29 #[true, true, false, false, true, false, false, false, false, false, false, false, false, false, false, false, false, false, false, false, false, false, false, false, false, false, false, false, false, false, false, false] (v := ?_) rfl rfl (by kernel_rfl) (by kernel_rfl) (by kernel_rfl) (by kernel_rfl) (fun _ _ _ h => h) (by rfl) ?_ hI2 ?_
    rotate_left
    · intro W hS; go_simp; all_goals with_reducible rfl
    try simp only [List.setIfInBounds_toArray, List.set_cons_succ, List.set_cons_zero]
    refine held_take 5 26 28 #[true, true, false, false, true, true, false, false, false, false, false, false, false, false, false, false, false, false, false, false, false, false, false, false, false, false, false, false, false, false, false, false] (v := ?_) rfl rfl (by kernel_rfl) (by kernel_rfl) (by kernel_rfl) (by kernel_rfl) (fun _ _ _ h => h) (by rfl) ?_ hI2 ?_
    rotate_left
    · intro W hS; go_simp; all_goals with_reducible rfl
    try simp only [List.setIfInBounds_toArray, List.set_cons_succ, List.set_cons_zero]
    refine held_call 2 27 #[true, true, true, false, true, true, false, false, false, false, false, false, false, false, false, false, false, false, false, false, false, false, false, false, false, false, false, false, false, false, false, false] (by kernel_rfl) rfl (by rfl) (by kernel_rfl) (fun K hK => ?_)
    go_simp
    refine (C12 hl n _ hI2).mono ?_
    rintro e wa1 ⟨va1, rfl, hIa1, hga1, hta1⟩
    have HS1 : (fun W => In w1 (.slice A bs.length c) was bs W ∧ wa1.grownBy W was.ownBlock) wa1 := ⟨hIa1, World.grownBy.refl _ _⟩
    refine hK _ _ hIa1 (held_more (S' := fun W => In w1 (.slice A bs.length c) was bs W ∧ wa1.grownBy W was.ownBlock) (fun W h => h.1) _ _ _ _ ?_)
    clear hK K
    refine held_take 3 24 26 #[true, true, true, true, true, true, false, false, false, false, false, false, false, false, false, false, false, false, false, false, false, false, false, false, false, false, false, false, false, false, false, false] (v := ?_) rfl rfl (by kernel_rfl) (by kernel_rfl) (by kernel_rfl) (by kernel_rfl) (fun _ _ _ h => h) (by rfl) ?_ HS1 ?_
    rotate_left
    · intro W hS; have hc := hta1 W hS.2; go_simp; all_goals with_reducible rfl
    try simp only [List.setIfInBounds_toArray, List.set_cons_succ, List.set_cons_zero]
    refine held_call 6 25 #[true, true, true, true, true, true, true, false, false, false, false, false, false, false, false, false, false, false, false, false, false, false, false, false, false, false, false, false, false, false, false, false] (by kernel_rfl) rfl (by rfl) (by kernel_rfl) (fun K hK => ?_)
    go_simp
    refine (C13 hl n _ hIa1).mono ?_
    rintro e wa2 ⟨va2, rfl, hIa2, hga2, hta2⟩
    have HS2 : (fun W => In w1 (.slice A bs.length c) was bs W ∧ wa1.grownBy W was.ownBlock) wa2 := ⟨hIa2, hga2⟩
    refine hK _ _ HS2 ?_
    clear hK K
    refine held_call 7 24 #[true, true, true, true, true, true, true, true, false, false, false, false, false, false, false, false, false, false, false, false, false, false, false, false, false, false, false, false, false, false, false, false] (by kernel_rfl) rfl (by rfl) (by kernel_rfl) (fun K hK => ?_)
    go_simp
    refine hK _ _ HS2 ?_
    clear hK K
    try simp only [List.setIfInBounds_toArray, List.set_cons_succ, List.set_cons_zero]
    refine held_take 8 29 23 #[true, true, true, true, true, true, true, true, true, false, false, false, false, false, false, false, false, false, false, false, false, false, false, false, false, false, false, false, false, false, false, false] (v := ?_) rfl rfl (by kernel_rfl) (by kernel_rfl) (by kernel_rfl) (by kernel_rfl) (fun _ _ _ h => h) (by rfl) ?_ HS2 ?_
    rotate_left
    · intro W hS; go_simp; all_goals with_reducible rfl
    try simp only [List.setIfInBounds_toArray, List.set_cons_succ, List.set_cons_zero]
    refine held_take 9 30 22 #[true, true, true, true, true, true, true, true, true, true, false, false, false, false, false, false, false, false, false, false, false, false, false, false, false, false, false, false, false, false, false, false] (v := ?_) rfl rfl (by kernel_rfl) (by kernel_rfl) (by kernel_rfl) (by kernel_rfl) (fun _ _ _ h => h) (by rfl) ?_ HS2 ?_
    rotate_left
    · intro W hS; go_simp; all_goals with_reducible rfl
    try simp only [List.setIfInBounds_toArray, List.set_cons_succ, List.set_cons_zero]
    refine held_take 10 31 21 #[true, true, true, true, true, true, true, true, true, true, true, false, false, false, false, false, false, false, false, false, false, false, false, false, false, false, false, false, false, false, false, false] (v := ?_) rfl rfl (by kernel_rfl) (by kernel_rfl) (by kernel_rfl) (by kernel_rfl) (fun _ _ _ h => h) (by rfl) ?_ HS2 ?_
    rotate_left
    · intro W hS; go_simp; all_goals with_reducible rfl
    try simp only [List.setIfInBounds_toArray, List.set_cons_succ, List.set_cons_zero]
    refine held_take 11 32 20 #[true, true, true, true, true, true, true, true, true, true, true, true, false, false, false, false, false, false, false, false, false, false, false, false, false, false, false, false, false, false, false, false] (v := ?_) rfl rfl (by kernel_rfl) (by kernel_rfl) (by kernel_rfl) (by kernel_rfl) (fun _ _ _ h => h) (by rfl) ?_ HS2 ?_
    rotate_left
    · intro W hS; go_simp; all_goals with_reducible rfl
    try simp only [List.setIfInBounds_toArray, List.set_cons_succ, List.set_cons_zero]
    refine held_take 14 35 19 #[true, true, true, true, true, true, true, true, true, true, true, true, false, false, true, false, false, false, false, false, false, false, false, false, false, false, false, false, false, false, false, false] (v := ?_) rfl rfl (by kernel_rfl) (by kernel_rfl) (by kernel_rfl) (by kernel_rfl) (fun _ _ _ h => h) (by rfl) ?_ HS2 ?_
    rotate_left
    · intro W hS; go_simp; all_goals with_reducible rfl
    try simp only [List.setIfInBounds_toArray, List.set_cons_succ, List.set_cons_zero]
    refine held_take 15 36 18 #[true, true, true, true, true, true, true, true, true, true, true, true, false, false, true, true, false, false, false, false, false, false, false, false, false, false, false, false, false, false, false, false] (v := ?_) rfl rfl (by kernel_rfl) (by kernel_rfl) (by kernel_rfl) (by kernel_rfl) (fun _ _ _ h => h) (by rfl) ?_ HS2 ?_
    rotate_left
    · intro W hS; go_simp; all_goals with_reducible rfl
    try simp only [List.setIfInBounds_toArray, List.set_cons_succ, List.set_cons_zero]
    refine held_call 12 17 #[true, true, true, true, true, true, true, true, true, true, true, true, true, false, true, true, false, false, false, false, false, false, false, false, false, false, false, false, false, false, false, false] (by kernel_rfl) rfl (by rfl) (by kernel_rfl) (fun K hK => ?_)
    go_simp
    refine (C14 hl n _ hIa2).mono ?_
    rintro e wa3 ⟨va3, rfl, hIa3, hga3, hta3⟩
    have HS3 : (fun W => (In w1 (.slice A bs.length c) was bs W ∧ wa1.grownBy W was.ownBlock) ∧ wa3.grownBy W was.ownBlock) wa3 := ⟨⟨hIa3, grown_trans' hga2 hga3⟩, World.grownBy.refl _ _⟩
    refine hK _ _ HS3.1 (held_more (S' := fun W => (In w1 (.slice A bs.length c) was bs W ∧ wa1.grownBy W was.ownBlock) ∧ wa3.grownBy W was.ownBlock) (fun W h => h.1) _ _ _ _ ?_)
    clear hK K
    refine held_take 13 34 16 #[true, true, true, true, true, true, true, true, true, true, true, true, true, true, true, true, false, false, false, false, false, false, false, false, false, false, false, false, false, false, false, false] (v := ?_) rfl rfl (by kernel_rfl) (by kernel_rfl) (by kernel_rfl) (by kernel_rfl) (fun _ _ _ h => h) (by rfl) ?_ HS3 ?_
    rotate_left
    · intro W hS; have hc := hta3 W hS.2; go_simp; all_goals with_reducible rfl
    try simp only [List.setIfInBounds_toArray, List.set_cons_succ, List.set_cons_zero]
    refine held_call 16 15 #[true, true, true, true, true, true, true, true, true, true, true, true, true, true, true, true, true, false, false, false, false, false, false, false, false, false, false, false, false, false, false, false] (by kernel_rfl) rfl (by rfl) (by kernel_rfl) (fun K hK => ?_)
    go_simp
    refine (C15 hl n _ hIa3).mono ?_
    rintro e wa4 ⟨va4, rfl, hIa4, hga4, hta4⟩
    have HS4 : (fun W => (In w1 (.slice A bs.length c) was bs W ∧ wa1.grownBy W was.ownBlock) ∧ wa3.grownBy W was.ownBlock) wa4 := ⟨⟨hIa4, grown_trans' (grown_trans' hga2 hga3) hga4⟩, hga4⟩
    refine hK _ _ HS4 ?_
    clear hK K
    refine held_call 17 14 #[true, true, true, true, true, true, true, true, true, true, true, true, true, true, true, true, true, true, false, false, false, false, false, false, false, false, false, false, false, false, false, false] (by kernel_rfl) rfl (by rfl) (by kernel_rfl) (fun K hK => ?_)
    go_simp
    refine hK _ _ HS4 ?_
    clear hK K
    try simp only [List.setIfInBounds_toArray, List.set_cons_succ, List.set_cons_zero]
    refine held_take 18 39 13 #[true, true, true, true, true, true, true, true, true, true, true, true, true, true, true, true, true, true, true, false, false, false, false, false, false, false, false, false, false, false, false, false] (v := ?_) rfl rfl (by kernel_rfl) (by kernel_rfl) (by kernel_rfl) (by kernel_rfl) (fun _ _ _ h => h) (by rfl) ?_ HS4 ?_
    rotate_left
    · intro W hS; go_simp; all_goals with_reducible rfl
    try simp only [List.setIfInBounds_toArray, List.set_cons_succ, List.set_cons_zero]
    refine held_take 19 40 12 #[true, true, true, true, true, true, true, true, true, true, true, true, true, true, true, true, true, true, true, true, false, false, false, false, false, false, false, false, false, false, false, false] (v := ?_) rfl rfl (by kernel_rfl) (by kernel_rfl) (by kernel_rfl) (by kernel_rfl) (fun _ _ _ h => h) (by rfl) ?_ HS4 ?_
    rotate_left
    · intro W hS; go_simp; all_goals with_reducible rfl
    try simp only [List.setIfInBounds_toArray, List.set_cons_succ, List.set_cons_zero]
    refine held_take 20 41 11 #[true, true, true, true, true, true, true, true, true, true, true, true, true, true, true, true, true, true, true, true, true, false, false, false, false, false, false, false, false, false, false, false] (v := ?_) rfl rfl (by kernel_rfl) (by kernel_rfl) (by kernel_rfl) (by kernel_rfl) (fun _ _ _ h => h) (by rfl) ?_ HS4 ?_
    rotate_left
    · intro W hS; go_simp; all_goals with_reducible rfl
    try simp only [List.setIfInBounds_toArray, List.set_cons_succ, List.set_cons_zero]
    refine held_take 21 42 10 #[true, true, true, true, true, true, true, true, true, true, true, true, true, true, true, true, true, true, true, true, true, true, false, false, false, false, false, false, false, false, false, false] (v := ?_) rfl rfl (by kernel_rfl) (by kernel_rfl) (by kernel_rfl) (by kernel_rfl) (fun _ _ _ h => h) (by rfl) ?_ HS4 ?_
    rotate_left
    · intro W hS; go_simp; all_goals with_reducible rfl
    try simp only [List.setIfInBounds_toArray, List.set_cons_succ, List.set_cons_zero]
    refine held_take 22 43 9 #[true, true, true, true, true, true, true, true, true, true, true, true, true, true, true, true, true, true, true, true, true, true, true, false, false, false, false, false, false, false, false, false] (v := ?_) rfl rfl (by kernel_rfl) (by kernel_rfl) (by kernel_rfl) (by kernel_rfl) (fun _ _ _ h => h) (by rfl) ?_ HS4 ?_
    rotate_left
    · intro W hS; go_simp; all_goals with_reducible rfl
    try simp only [List.setIfInBounds_toArray, List.set_cons_succ, List.set_cons_zero]
    refine held_take 25 46 8 #[true, true, true, true, true, true, true, true, true, true, true, true, true, true, true, true, true, true, true, true, true, true, true, false, false, true, false, false, false, false, false, false] (v := ?_) rfl rfl (by kernel_rfl) (by kernel_rfl) (by kernel_rfl) (by kernel_rfl) (fun _ _ _ h => h) (by rfl) ?_ HS4 ?_
    rotate_left
    · intro W hS; go_simp; all_goals with_reducible rfl
    try simp only [List.setIfInBounds_toArray, List.set_cons_succ, List.set_cons_zero]
    refine held_take 26 47 7 #[true, true, true, true, true, true, true, true, true, true, true, true, true, true, true, true, true, true, true, true, true, true, true, false, false, true, true, false, false, false, false, false] (v := ?_) rfl rfl (by kernel_rfl) (by kernel_rfl) (by kernel_rfl) (by kernel_rfl) (fun _ _ _ h => h) (by rfl) ?_ HS4 ?_
    rotate_left
    · intro W hS; go_simp; all_goals with_reducible rfl
    try simp only [List.setIfInBounds_toArray, List.set_cons_succ, List.set_cons_zero]
    refine held_call 23 6 #[true, true, true, true, true, true, true, true, true, true, true, true, true, true, true, true, true, true, true, true, true, true, true, true, false, true, true, false, false, false, false, false] (by kernel_rfl) rfl (by rfl) (by kernel_rfl) (fun K hK => ?_)
    go_simp
    refine (C16 hl s hs _ hIa4).mono ?_
    rintro e wa5 ⟨va5, rfl, hIa5, hga5, hta5⟩
    have HS5 : (fun W => ((In w1 (.slice A bs.length c) was bs W ∧ wa1.grownBy W was.ownBlock) ∧ wa3.grownBy W was.ownBlock) ∧ wa5.grownBy W was.ownBlock) wa5 := ⟨⟨⟨hIa5, grown_trans' (grown_trans' (grown_trans' hga2 hga3) hga4) hga5⟩, grown_trans' hga4 hga5⟩, World.grownBy.refl _ _⟩
    refine hK _ _ HS5.1 (held_more (S' := fun W => ((In w1 (.slice A bs.length c) was bs W ∧ wa1.grownBy W was.ownBlock) ∧ wa3.grownBy W was.ownBlock) ∧ wa5.grownBy W was.ownBlock) (fun W h => h.1) _ _ _ _ ?_)
    clear hK K
    refine held_take 24 45 5 #[true, true, true, true, true, true, true, true, true, true, true, true, true, true, true, true, true, true, true, true, true, true, true, true, true, true, true, false, false, false, false, false] (v := ?_) rfl rfl (by kernel_rfl) (by kernel_rfl) (by kernel_rfl) (by kernel_rfl) (fun _ _ _ h => h) (by rfl) ?_ HS5 ?_
    rotate_left
    · intro W hS; have hc := hta5 W hS.2; go_simp; all_goals with_reducible rfl
    try simp only [List.setIfInBounds_toArray, List.set_cons_succ, List.set_cons_zero]
    refine held_call 27 4 #[true, true, true, true, true, true, true, true, true, true, true, true, true, true, true, true, true, true, true, true, true, true, true, true, true, true, true, true, false, false, false, false] (by kernel_rfl) rfl (by rfl) (by kernel_rfl) (fun K hK => ?_)
    go_simp
    refine (C17 hl s hs _ hIa5).mono ?_
    rintro e wa6 ⟨va6, rfl, hIa6, hga6, hta6⟩
    have HS6 : (fun W => ((In w1 (.slice A bs.length c) was bs W ∧ wa1.grownBy W was.ownBlock) ∧ wa3.grownBy W was.ownBlock) ∧ wa5.grownBy W was.ownBlock) wa6 := ⟨⟨⟨hIa6, grown_trans' (grown_trans' (grown_trans' (grown_trans' hga2 hga3) hga4) hga5) hga6⟩, grown_trans' (grown_trans' hga4 hga5) hga6⟩, hga6⟩
    refine hK _ _ HS6 ?_
    clear hK K
    refine held_call 28 3 #[true, true, true, true, true, true, true, true, true, true, true, true, true, true, true, true, true, true, true, true, true, true, true, true, true, true, true, true, true, false, false, false] (by kernel_rfl) rfl (by rfl) (by kernel_rfl) (fun K hK => ?_)
    go_simp
    refine hK _ _ HS6 ?_
    clear hK K
    try simp only [List.setIfInBounds_toArray, List.set_cons_succ, List.set_cons_zero]
    refine held_take 29 50 2 #[true, true, true, true, true, true, true, true, true, true, true, true, true, true, true, true, true, true, true, true, true, true, true, true, true, true, true, true, true, true, false, false] (v := ?_) rfl rfl (by kernel_rfl) (by kernel_rfl) (by kernel_rfl) (by kernel_rfl) (fun _ _ _ h => h) (by rfl) ?_ HS6 ?_
    rotate_left
    · intro W hS; go_simp; all_goals with_reducible rfl
    try simp only [List.setIfInBounds_toArray, List.set_cons_succ, List.set_cons_zero]
    refine held_take 30 51 1 #[true, true, true, true, true, true, true, true, true, true, true, true, true, true, true, true, true, true, true, true, true, true, true, true, true, true, true, true, true, true, true, false] (v := ?_) rfl rfl (by kernel_rfl) (by kernel_rfl) (by kernel_rfl) (by kernel_rfl) (fun _ _ _ h => h) (by rfl) ?_ HS6 ?_
    rotate_left
    · intro W hS; go_simp; all_goals with_reducible rfl
    try simp only [List.setIfInBounds_toArray, List.set_cons_succ, List.set_cons_zero]
    refine held_take 31 6 0 #[true, true, true, true, true, true, true, true, true, true, true, true, true, true, true, true, true, true, true, true, true, true, true, true, true, true, true, true, true, true, true, true] (v := ?_) rfl rfl (by kernel_rfl) (by kernel_rfl) (by kernel_rfl) (by kernel_rfl) (fun _ _ _ h => h) (by rfl) ?_ HS6 ?_
    rotate_left
    · intro W hS; go_simp; all_goals with_reducible rfl
    try simp only [List.setIfInBounds_toArray, List.set_cons_succ, List.set_cons_zero]
    refine wpAnyH_done (by kernel_rfl) ?_ _
    go_wp2_with fail
    go_ret
    exact ⟨rfl, bel1.trans (hIa6.below.mono bel1.size)⟩
end Go.Proofs.Ytneikkofembgmaa
