/- How long a record may be: WalLong. -/
import Derived.Test.YtdhbaepmbgoobaaWKn
import Derived.Test.YtdhbaepmbgoobaaWithinL
namespace Go.Proofs.Ytdhbaepmbgoobaa
open Go.RowKit
set_option linter.unusedVariables false
set_option maxRecDepth 10000
set_option linter.unusedSimpArgs false
set_option linter.unnecessarySimpa false

set_option maxRecDepth 100000 in
set_option maxHeartbeats 8000000 in
theorem WalLong_walk (zp : Int) (w : World) (hzp : -9223372036854775808 ≤ zp ∧ zp ≤ 9223372036854775807) :
    Calls Try.prog 4 #[.int .i64 zp] w fun e w' => e = .returned (.bool true) ∧ Below w.heap.size w w' := by
  have KN := Lib.hid (known_any w)
  obtain ⟨m, hm⟩ : ∃ m : Nat, 65534 + zp % 5 = (m : Int) := ⟨(65534 + zp % 5).toNat, by omega⟩
  have hm2 : 65534 ≤ m ∧ m ≤ 65538 := by omega
  have hmI : (65534 : Int) ≤ m ∧ (m : Int) ≤ 65538 := by omega
  have HP := Lib.hid hm
  have hpe : 0 ≤ zp % 5 ∧ zp % 5 ≤ 4 := by omega
  have WI := Lib.hid fun (W : World) => within_any zp 5 W hzp.1 hzp.2 (by omega) (by omega)
  clear hm hzp
  go_enter Try.func4, Try.ntmps4
  go_wp2_with fail
  refine KN.out.mono ?_
  rintro e w1 ⟨rfl, t1⟩
  have H1 := Lib.hid (Turns.below (B := w.heap.size) t1 (Nat.le_refl _) (by simp))
  clear KN t1
  go_wp2_with fail
  refine (WI.out w1).mono ?_
  rintro e ww ⟨rfl, rfl⟩
  go_wp2_with fail
  rw [HP.out]
  refine (New_at (w0 := w) (w := w1) 1100 (by omega) (by omega) H1.out).mono ?_
  rintro e w2 ⟨B, g, rfl, a2, b2⟩
  have OP := Lib.hid (Open_img a2 rfl (img_fresh 1100 (by omega)))
  clear a2 b2 hpe
  go_wp2_with fail
  refine OP.out.mono ?_
  rintro e Y ⟨gl, A, n, c, rfl, hgx, a3, s3, bl3, sls3⟩
  have hmk := run_make_u8 m (by omega) Y
  obtain ⟨Y2, hY2⟩ : ∃ Y2, Y2 = Y.alloc (.cells (bvs (zeros m)).toArray 5) := ⟨_, rfl⟩
  rw [← hY2] at hmk
  have t5 : Turns [] Y Y2 := by rw [hY2]; exact (Turns.refl _ _).alloc _
  have a5 := a3.turn t5 (by simp)
  have bl5 := bl3.turns t5 (by simp)
  have hsl := Sl.new Y (bvs (zeros m)).toArray 5 m 1 (by simp [bvs, zeros]) (by simp only [maxLen]; omega)
  rw [← hY2] at hsl
  have hyz : Y.heap.size + 1 = Y2.heap.size := by rw [hY2]; simp
  rw [hyz] at hsl
  have hzl2 : (zeros m).length = m := zeros_length m
  by_cases hfit : m ≤ 65536
  · have hsl2 : Sl Y2 Y2.heap.size 1 (.slice (some ⟨Y.heap.size, 0, none⟩) (zeros m).length m) (zeros m).length (bvs (zeros m)) := by rw [hzl2]; exact hsl
    have AP := Append_calm a5 (by simp) 0 [] bl5 (some ⟨Y.heap.size, 0, none⟩) m (zeros m) hsl2 (calm_fresh 1100) (img_fresh 1100 (by omega)) (by omega) (by omega)
    rw [hzl2] at AP
    replace AP := Lib.hid AP
    have hfI : (m : Int) ≤ 65536 := by omega
    clear a3 s3 bl3 sls3 a5 bl5 hsl hsl2 hY2 hyz t5 OP hgx
    go_wp2_with fail
    refine AP.out.mono ?_
    rintro e y6 ⟨rfl, ⟨st6, a6, k6, i6⟩, s6, bl6⟩
    have OP := Lib.hid (Open_img a6 k6.dead i6)
    clear AP a6 k6 i6 s6 bl6
    go_wp2_with fail
    refine OP.out.mono ?_
    rintro e w5 ⟨gl2, A2, n2, c2, rfl, hg2, a7, s7, bl7, sls7⟩
    obtain rfl : n2 = 1 := by obtain ⟨_, h, _⟩ := sls7; simpa using h.symm
    obtain ⟨b6, o6, c6, n6, A6, l6, ⟨c6', hv6, _⟩, hb6, hc6, hl6, hn6, _⟩ := sls7.get (k := 0) (by omega)
    rw [Nat.add_zero] at hc6
    injection hv6 with e6 _ _
    subst e6
    have hl6' : l6 = zeros m := by simpa using hl6.symm
    obtain rfl : n6 = m := by rw [← hn6, hl6', hzl2]
    have HF := Lib.hid a7.bel
    clear a7 s7 bl7 sls7 hl6 hl6' hn6 OP hg2 hzl2
    go_wp2_with fail
    go_ret
    exact ⟨rfl, HF.out⟩
  · have AP := Lib.hid (Append_long a5 gl 0 0 bl5 (some ⟨Y.heap.size, 0, none⟩) m m (by omega) (by omega))
    have hfI : (65536 : Int) < m := by omega
    have OP := Lib.hid (Open_img a5 rfl (img_fresh 1100 (by omega)))
    clear a3 s3 bl3 sls3 a5 bl5 hsl hY2 hyz t5 hgx hzl2
    go_wp2_with fail
    refine AP.out.mono ?_
    rintro e ww ⟨rfl, rfl⟩
    go_wp2_with fail
    refine OP.out.mono ?_
    rintro e w5 ⟨gl2, A2, n2, c2, rfl, hg2, a7, s7, bl7, sls7⟩
    obtain rfl : n2 = 0 := by obtain ⟨_, h, _⟩ := sls7; simpa using h.symm
    have HF := Lib.hid a7.bel
    clear a7 s7 bl7 sls7 OP hg2 AP
    go_wp2_with fail
    go_ret
    exact ⟨rfl, HF.out⟩
end Go.Proofs.Ytdhbaepmbgoobaa
