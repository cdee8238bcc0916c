/- The chapter's example: known. -/
import Derived.Test.YtdhbaepmbgoobaaWAt
import Derived.Test.YtdhbaepmbgoobaaGrd
import Derived.Test.YtdhbaepmbgoobaaArgI
namespace Go.Proofs.Ytdhbaepmbgoobaa
open Go.RowKit
set_option linter.unusedVariables false
set_option maxRecDepth 10000
set_option linter.unusedSimpArgs false
set_option linter.unnecessarySimpa false

theorem SlsF.get {B0 : Nat} {w : World} {v : Value} {n : Nat} {ls : List (List UInt8)} (h : SlsF B0 w v n ls) {k : Nat} (hk : k < n) :
    ∃ (b off : Nat) (c n' : Nat) (A : Option Addr) (l : List UInt8), (∃ c', v = .slice (some ⟨b, off, none⟩) n c' ∧ n ≤ c') ∧ b < w.heap.size ∧ w.cell? ⟨b, off + k, none⟩ = some (.slice A n' c) ∧ ls[k]? = some l ∧ l.length = n' ∧ Sl w w.heap.size 1 (.slice A n' c) n' (bvs l) := h.sls.get hk
set_option maxRecDepth 100000 in
set_option maxHeartbeats 8000000 in
theorem known_any (w : World) : Calls Try.prog 10 #[] w fun e w' => e = .returned (.bool true) ∧ Turns [] w w' := by
  have NW := Lib.hid (New_at (w0 := w) (w := w) 4 (by omega) (by omega) (Below.refl _ _))
  go_enter Try.func10, Try.ntmps10
  go_wp2_with fail
  refine NW.out.mono ?_
  rintro e w1 ⟨B, g, rfl, a1, b1⟩
  have OP := Lib.hid (Open_img a1 rfl (img_fresh 4 (by omega)))
  clear a1 b1 NW
  go_wp2_with fail
  refine OP.out.mono ?_
  rintro e w2 ⟨gl, A, n, c, rfl, hgx, a2, s2, bl2, sls2⟩
  obtain rfl : n = 0 := by obtain ⟨_, h, _⟩ := sls2; simpa using h.symm
  obtain ⟨w3, hw3⟩ : ∃ x, x = w2.alloc (.cells #[.int .u8 1, .int .u8 2, .int .u8 3] 5) := ⟨_, rfl⟩
  have hs3 := Sl.new w2 #[.int .u8 1, .int .u8 2, .int .u8 3] 5 3 1 rfl (by simp [maxLen])
  rw [← hw3] at hs3
  have t3 : Turns [] w2 w3 := by rw [hw3]; exact (Turns.refl _ _).alloc _
  have hz3 : w2.heap.size + 1 = w3.heap.size := by rw [hw3]; simp
  rw [hz3] at hs3
  have a3 := a2.turn t3 (by simp)
  have bl3 := bl2.turns t3 (by simp)
  have AP := Lib.hid (Append_calm a3 (by simp) 0 [] bl3 (some ⟨w2.heap.size, 0, none⟩) 3 [1, 2, 3] hs3 (calm_fresh 4) (img_fresh 4 (by omega)) (by simp) (by simp))
  have HW := Lib.hid hw3
  clear a2 s2 bl2 sls2 hs3 t3 hz3 a3 bl3 hw3 OP hgx
  go_wp2_with fail
  rw [← HW.out]
  refine AP.out.mono ?_
  rintro e w4 ⟨rfl, ⟨st4, a4, k4, i4⟩, s4, bl4⟩
  have OP := Lib.hid (Open_img a4 k4.dead i4)
  have BL := Lib.hid bl4
  clear a4 k4 i4 s4 bl4 AP
  go_wp2_with fail
  refine OP.out.mono ?_
  rintro e w5 ⟨gl2, A2, n2, c2, rfl, hg2, a5, s5, bl5, sls5⟩
  obtain rfl : n2 = 1 := by obtain ⟨_, h, _⟩ := sls5; simpa using h.symm
  obtain ⟨b6, o6, c6, n6, A6, l6, ⟨c6', hv6, _⟩, hb6, hc6, hl6, hn6, _⟩ := sls5.get (k := 0) (by omega)
  rw [Nat.add_zero] at hc6
  injection hv6 with e6 _ _
  subst e6
  obtain rfl : n6 = 3 := by
    have : l6 = [1, 2, 3] := by simpa using hl6.symm
    rw [← hn6, this]; rfl
  have CO := Lib.hid (Count_any w5 gl g _ _ (s5.blk (x := gl) (by simp) BL.out))
  have HF := Lib.hid (show Turns [] w w5 from Turns.of_below (L := []) a5.bel)
  clear a5 s5 bl5 sls5 hl6 hn6 OP hg2
  go_wp2_with fail
  trace_state
  refine CO.out.mono ?_
  rintro e ww ⟨rfl, rfl⟩
  go_wp2_with fail
  go_ret
  exact ⟨rfl, HF.out⟩
end Go.Proofs.Ytdhbaepmbgoobaa
