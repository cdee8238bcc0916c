/- MerkleRoots, walked. -/
import Derived.Test.YtnjnealphbcamaaMkI
import Derived.Test.YtnjnealphbcamaaWithinL
namespace Go.Proofs.Ytnjnealphbcamaa
open Go.RowKit
set_option linter.unusedVariables false
set_option maxRecDepth 10000
set_option linter.unusedSimpArgs false
set_option linter.unnecessarySimpa false

theorem below_of {w w' : World} (t : Turns [] w w') : Below w.heap.size w w' := t.below (Nat.le_refl _) (by simp)
set_option maxRecDepth 100000 in
set_option maxHeartbeats 2000000 in
theorem MerkleRoots_walk (A A' : Option Addr) (n c n' c' : Nat) (x : Int) (b : List UInt8) (hs : List (List UInt8)) (w : World) (h : Sl w w.heap.size 1 (.slice A n c) n (bvs b)) (h' : Hs w w.heap.size (.slice A' n' c') hs) (hx1 : -9223372036854775808 ≤ x) (hx2 : x ≤ 9223372036854775807) :
    Calls Try.prog 3 #[.slice A n c, .slice A' n' c', .int .i64 x] w fun e w' => e = .returned (.bool true) ∧ Below w.heap.size w w' := by
  have hbn := h.1
  rw [bvs_length, Nat.mul_one] at hbn
  subst hbn
  obtain ⟨A2, c2, hv, _, _⟩ := h'.form
  injection hv with e1 e2 e3
  subst e1 e2 e3
  have KN := Lib.hid (known_any w)
  have HS := Lib.hid (And.intro h h')
  clear h h'
  by_cases h1 : 300 < b.length
  · have h1i : (300 : Int) < (b.length : Int) := by omega
    clear h1
    go_enter Try.func3, Try.ntmps3
    go_wp2_with fail
    refine KN.out.mono ?_
    rintro e w1 ⟨rfl, t1⟩
    have HT := Lib.hid (below_of t1)
    clear t1
    go_wp2_with fail
    go_ret
    exact ⟨rfl, HT.out⟩
  · by_cases h2 : 40 < hs.length
    · have h1i : ¬ (300 : Int) < (b.length : Int) := by omega
      have h2i : (40 : Int) < (hs.length : Int) := by omega
      clear h1 h2
      go_enter Try.func3, Try.ntmps3
      go_wp2_with fail
      refine KN.out.mono ?_
      rintro e w1 ⟨rfl, t1⟩
      have HT := Lib.hid (below_of t1)
      clear t1
      go_wp2_with fail
      go_ret
      exact ⟨rfl, HT.out⟩
    · have h1i : ¬ (300 : Int) < (b.length : Int) := by omega
      have h2i : ¬ (40 : Int) < (hs.length : Int) := by omega
      obtain ⟨k, hk, hk40⟩ : ∃ k : Nat, (k : Int) = x % 40 ∧ k < 40 := ⟨(x % 40).toNat, by omega, by omega⟩
      have WI := fun w => within_any x 40 w hx1 hx2 (by omega) (by omega)
      rw [← hk] at WI
      have HWI := Lib.hid WI
      have eq1 := eqlS (leafH b) (leafH_len b)
      have eq2 := eqlS (mroot hs) (mroot_len hs HS.out.2.all)
      have eq3 := eqlS (mroot (hashesL k)) (mroot_len _ (hashesL_all k))
      have HB := Lib.hid (And.intro h1 (And.intro h2 hk40))
      clear h1 h2 hk hk40 WI hx1 hx2
      go_enter Try.func3, Try.ntmps3
      go_wp2_with fail
      refine KN.out.mono ?_
      rintro e w1 ⟨rfl, t1⟩
      have HT1 := Lib.hid t1
      clear t1 KN
      go_wp2_with fail
      refine (HWI.out w1).mono ?_
      rintro e w2 ⟨rfl, rfl⟩
      clear HWI
      go_wp2_with fail
      refine (Leaf_any A b.length c w1.heap.size b w1 ((HT1.out.slice HS.out.1 (Nat.le_refl _) (by simp)).more HT1.out.size) (Nat.le_refl _) (by have := HB.out.1; omega)).mono ?_
      rintro e w2 ⟨rfl, t2⟩
      have HT2 := Lib.hid (HT1.out.trans t2 (by simp))
      clear t2
      go_wp2_with fail
      refine (refLeaf_any A b.length c w2.heap.size b w2 ((HT2.out.slice HS.out.1 (Nat.le_refl _) (by simp)).more HT2.out.size) (Nat.le_refl _) (by have := HB.out.1; omega)).mono ?_
      rintro e w3 ⟨rfl, t3⟩
      have HT3 := Lib.hid (HT2.out.trans t3 (by simp))
      clear t3
      go_wp2_with fail
      refine (Root_any hs.length hs hs.length rfl (Nat.le_refl _) (by have := HB.out.2.1; omega) A' c' w.heap.size w3 (HS.out.2.turns HT3.out (Nat.le_refl _) (by simp)) HT3.out.size).mono ?_
      rintro e w4 ⟨rfl, t4⟩
      have HT4 := Lib.hid (HT3.out.trans t4 (by simp))
      clear t4
      go_wp2_with fail
      refine (refRoot_any hs.length hs hs.length rfl (Nat.le_refl _) (by have := HB.out.2.1; omega) A' c' w.heap.size w4 (HS.out.2.turns HT4.out (Nat.le_refl _) (by simp)) HT4.out.size).mono ?_
      rintro e w5 ⟨rfl, t5⟩
      have HT5 := Lib.hid (HT4.out.trans t5 (by simp))
      clear t5
      go_wp2_with fail
      refine (Hashes_any k (by have := HB.out.2.2; omega) w5).mono ?_
      rintro e w6 ⟨A6, c6, rfl, m6⟩
      have M6 := Lib.hid m6
      clear m6
      go_wp2_with fail
      refine (Root_any k (hashesL k) k (hashesL_len k) (Nat.le_refl _) (by have := HB.out.2.2; omega) A6 c6 w6.heap.size w6 M6.out.hs (Nat.le_refl _)).mono ?_
      rintro e w7 ⟨rfl, t7⟩
      have HT7 := Lib.hid ((HT5.out.trans M6.out.turns (by simp)).trans t7 (by simp))
      clear t7 M6
      go_wp2_with fail
      refine (Hashes_any k (by have := HB.out.2.2; omega) w7).mono ?_
      rintro e w8 ⟨A8, c8, rfl, m8⟩
      have M8 := Lib.hid m8
      clear m8
      go_wp2_with fail
      refine (refRoot_any k (hashesL k) k (hashesL_len k) (Nat.le_refl _) (by have := HB.out.2.2; omega) A8 c8 w8.heap.size w8 M8.out.hs (Nat.le_refl _)).mono ?_
      rintro e w9 ⟨rfl, t9⟩
      have HT9 := Lib.hid (below_of ((HT7.out.trans M8.out.turns (by simp)).trans t9 (by simp)))
      clear t9 M8
      go_wp2_with fail
      go_ret
      exact ⟨rfl, HT9.out⟩
end Go.Proofs.Ytnjnealphbcamaa
