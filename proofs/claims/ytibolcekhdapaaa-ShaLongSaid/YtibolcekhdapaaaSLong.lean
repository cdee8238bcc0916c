/- ShaLong, walked. -/
import Derived.Test.YtibolcekhdapaaaSumL
import Derived.Test.YtibolcekhdapaaaPats
namespace Go.Proofs.Ytibolcekhdapaaa
open Go.RowKit
set_option linter.unusedVariables false
set_option maxRecDepth 10000
set_option linter.unusedSimpArgs false
set_option linter.unnecessarySimpa false

/-- A block of so many bytes, whichever they are. -/
def RowU (w : World) (g m : Nat) : Prop := ∃ bs : List UInt8, bs.length = m ∧ Blk w g (bvs bs) 5
theorem RowU.set {w : World} {g m : Nat} (h : RowU w g m) (k : Nat) (x : Int) : RowU (w.setCell ⟨g, k, none⟩ (.int .u8 (x % 256))) g m := by
  obtain ⟨bs, hl, hb⟩ := h
  obtain ⟨b, e⟩ := u8_ex (x % 256) (by omega) (by omega)
  refine ⟨bs.set k b, by rw [List.length_set]; exact hl, ?_⟩
  have := hb.set k (u8v b)
  rw [e]
  rwa [show bvs (bs.set k b) = (bvs bs).set k (u8v b) by simp [bvs, List.map_set]]
theorem RowU.cell {w : World} {g m : Nat} (h : RowU w g m) {k : Nat} (hk : k < m) : ∃ b : UInt8, w.cell? ⟨g, k, none⟩ = some (.int .u8 (b.toNat : Int)) ∧ w.frozen? ⟨g, k, none⟩ = false := by
  obtain ⟨bs, hl, hb⟩ := h
  refine ⟨bs[k]'(by omega), ?_, hb.free k⟩
  rw [hb.cell]
  simp [bvs, u8v, show k < bs.length by omega]
theorem RowU.sl {w : World} {g m : Nat} (h : RowU w g m) (hm : m ≤ 1000) : ∃ bs : List UInt8, bs.length = m ∧ Sl w w.heap.size 1 (.slice (some ⟨g, 0, none⟩) m m) m (bvs bs) := by
  obtain ⟨bs, hl, hb⟩ := h
  refine ⟨bs, hl, ?_⟩
  have := hb.sl 0 m m 1 (by rw [bvs_length]; omega) (Nat.le_refl _) (by simp only [maxLen]; omega)
  rwa [List.drop_zero, List.take_of_length_le (by rw [bvs_length]; omega)] at this

set_option maxRecDepth 100000 in
set_option maxHeartbeats 2000000 in
theorem ShaLong_walk (n0 by0 at0 tu0 : Int) (w : World) (hn1 : -9223372036854775808 ≤ n0 ∧ n0 ≤ 9223372036854775807) (ha1 : -9223372036854775808 ≤ at0 ∧ at0 ≤ 9223372036854775807) :
    Calls Try.prog 4 #[.int .i64 n0, .int .u8 by0, .int .i64 at0, .int .u8 tu0] w fun e w' => e = .returned (.bool true) ∧ Below w.heap.size w w' := by
  obtain ⟨m, hm, hm300⟩ : ∃ q : Nat, (q : Int) = n0 % 300 ∧ q < 300 := ⟨(n0 % 300).toNat, by omega, by omega⟩
  have WI := fun w => within_any n0 300 w hn1.1 hn1.2 (by omega) (by omega)
  rw [← hm] at WI
  have HWI := Lib.hid WI
  have KN := Lib.hid (known_any w)
  have hmi : (m : Int) < 300 := by omega
  have HM := Lib.hid hm300
  have HA := Lib.hid ha1
  clear hm WI hn1 hm300 ha1
  go_enter Try.func4, Try.ntmps4
  go_wp2_with fail
  refine KN.out.mono ?_
  rintro e w1 ⟨rfl, t1⟩
  have HT1 := Lib.hid t1
  clear t1 KN
  go_wp2_with fail
  refine (HWI.out w1).mono ?_
  rintro e w2 ⟨rfl, rfl⟩
  clear HWI
  have hmk := run_make_u8 m (by have := HM.out; omega) w1
  have b1 := Blk.new w1 (bvs (zeros m)) 5
  have tw : Turns [] w1 (w1.alloc (.cells (bvs (zeros m)).toArray 5)) := (Turns.refl _ _).alloc _
  obtain ⟨g, hg⟩ : ∃ g, g = w1.heap.size := ⟨_, rfl⟩
  have r1 : RowU (w1.alloc (.cells (bvs (zeros m)).toArray 5)) g m := ⟨zeros m, zeros_length m, by rw [hg]; exact b1⟩
  rw [← hg] at hmk
  have hgl : w1.heap.size ≤ g := by omega
  have H1 := Lib.hid (And.intro r1 (And.intro tw hgl))
  clear b1 tw r1 hg hgl
  go_wp2_with fail
  clear hmk
  go_loopw [10] (fun i wr => ∃ k : Nat, k ≤ m ∧ i = .int .i64 k ∧ RowU wr g m ∧ Turns [g] w1 wr) (fun i _ => m - (intOf i).toNat)
  case atStart => exact ⟨0, by omega, rfl, H1.out.1, H1.out.2.1.mono (by simp)⟩
  case round =>
    obtain ⟨k, hk, rfl, rk, tk⟩ := hrel
    by_cases hlt : k < m
    · have hki : (k : Int) < (m : Int) := by omega
      obtain ⟨b, cb, fb⟩ := rk.cell hlt
      have RK := Lib.hid (And.intro rk tk)
      clear rk tk hlt hk
      go_wp2_with fail
      go_roundw
      case rel => exact ⟨k + 1, by omega, by go_num, RK.out.1.set k _, RK.out.2.setCell (p := ⟨g, k, none⟩) (.inl (by simp)) _⟩
      case measure => (simp [intOf] <;> omega)
    · obtain rfl : k = m := by omega
      clear hlt hk
      obtain ⟨bs, hbl, hs⟩ := rk.sl (by have := HM.out; omega)
      have SO := Sum_one _ bs wr (by rw [hbl]; exact hs) (by have := HM.out; omega)
      have RF := fun (w' : World) (t : Turns [] wr w') => refSum_any (some ⟨g, 0, none⟩) k k wr.heap.size bs w' (hs |> fun h => t.slice h (Nat.le_refl _) (by simp)) t.size (by have := HM.out; omega)
      have HSO := Lib.hid SO
      have HRF := Lib.hid RF
      have eq1 := eqlS (sha bs) (sha_len bs)
      have HK := Lib.hid (And.intro rk tk)
      clear SO RF hs rk tk hbl
      go_wp2_with fail
      refine HSO.out.mono ?_
      rintro e w3 ⟨rfl, t3⟩
      go_wp2_with fail
      refine (HRF.out w3 t3).mono ?_
      rintro e w4 ⟨rfl, t4⟩
      have r4 : RowU w4 g k := by
        obtain ⟨bs, hl, hb⟩ := HK.out.1
        exact ⟨bs, hl, (hb.turns t3 (by simp)).turns t4 (by simp)⟩
      have HT4 := Lib.hid ((HK.out.2.trans t3 (by simp)).trans t4 (by simp))
      have R4 := Lib.hid r4
      clear t3 t4 r4 HSO HRF HK
      by_cases hk0 : k = 0
      · have z0 : ¬ 0 < (k : Int) := by omega
        have z1 : ¬ 0 < k := by omega
        clear hk0
        obtain ⟨cs, hcl, hs⟩ := R4.out.sl (by have := HM.out; omega)
        have SO := Sum_one _ cs w4 (by rw [hcl]; exact hs) (by have := HM.out; omega)
        have RF := fun (w' : World) (t : Turns [] w4 w') => refSum_any (some ⟨g, 0, none⟩) k k w4.heap.size cs w' (hs |> fun h => t.slice h (Nat.le_refl _) (by simp)) t.size (by have := HM.out; omega)
        have HSO := Lib.hid SO
        have HRF := Lib.hid RF
        have eq2 := eqlS (sha cs) (sha_len cs)
        clear SO RF hs hcl
        go_wp2_with fail
        refine HSO.out.mono ?_
        rintro e w7 ⟨rfl, t7⟩
        go_wp2_with fail
        refine (HRF.out w7 t7).mono ?_
        rintro e w8 ⟨rfl, t8⟩
        have HF := Lib.hid (HT1.out.trans ((HT4.out.trans t7 (by simp)).trans t8 (by simp)) (by intro q hq; simp at hq; subst hq; exact .inr (Nat.le_trans HT1.out.size H1.out.2.2)))
        clear t7 t8
        go_wp2_with fail
        go_ret
        exact ⟨rfl, below_of HF.out⟩
      · have z0 : 0 < (k : Int) := by omega
        have z1 : 0 < k := by omega
        obtain ⟨t, ht⟩ : ∃ x : Nat, (x : Int) = at0 % (k : Int) := ⟨(at0 % (k : Int)).toNat, by have := Int.emod_nonneg at0 (show (k : Int) ≠ 0 by omega); omega⟩
        have htm : t < k := by have := Int.emod_lt_of_pos at0 z0; omega
        obtain ⟨b, cb, fb⟩ := R4.out.cell htm
        have hti : (t : Int) < (k : Int) := by omega
        have HTT := Lib.hid ht
        clear ht htm hk0 z1
        go_wp2_with fail
        refine (within_any at0 k w4 HA.out.1 HA.out.2 z0 (by have := HM.out; omega)).mono ?_
        rintro e w5 ⟨rfl, rfl⟩
        rw [← HTT.out]
        go_upto_region 13 with fail
        have r5 := R4.out.set t ((b.toNat : Int) + tu0)
        have t5 := HT4.out.setCell (p := ⟨g, t, none⟩) (.inl (by simp)) (.int .u8 (((b.toNat : Int) + tu0) % 256))
        have R4 := Lib.hid r5
        have HT4 := Lib.hid t5
        clear r5 t5 cb fb
        obtain ⟨w4, hw4⟩ : ∃ W, W = w4.setCell ⟨g, t, none⟩ (.int .u8 (((b.toNat : Int) + tu0) % 256)) := ⟨_, rfl⟩
        rw [← hw4] at R4 HT4 ⊢
        clear hw4
        obtain ⟨cs, hcl, hs⟩ := R4.out.sl (by have := HM.out; omega)
        have SO := Sum_one _ cs w4 (by rw [hcl]; exact hs) (by have := HM.out; omega)
        have RF := fun (w' : World) (t : Turns [] w4 w') => refSum_any (some ⟨g, 0, none⟩) k k w4.heap.size cs w' (hs |> fun h => t.slice h (Nat.le_refl _) (by simp)) t.size (by have := HM.out; omega)
        have HSO := Lib.hid SO
        have HRF := Lib.hid RF
        have eq2 := eqlS (sha cs) (sha_len cs)
        clear SO RF hs hcl
        go_wp2_with fail
        refine HSO.out.mono ?_
        rintro e w7 ⟨rfl, t7⟩
        go_wp2_with fail
        refine (HRF.out w7 t7).mono ?_
        rintro e w8 ⟨rfl, t8⟩
        have HF := Lib.hid (HT1.out.trans ((HT4.out.trans t7 (by simp)).trans t8 (by simp)) (by intro q hq; simp at hq; subst hq; exact .inr (Nat.le_trans HT1.out.size H1.out.2.2)))
        clear t7 t8
        go_wp2_with fail
        go_ret
        exact ⟨rfl, below_of HF.out⟩
end Go.Proofs.Ytibolcekhdapaaa
