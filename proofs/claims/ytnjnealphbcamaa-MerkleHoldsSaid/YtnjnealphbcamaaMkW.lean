/- The document's Check, walked. -/
import Derived.Test.YtnjnealphbcamaaMkV
import Derived.Test.YtnjnealphbcamaaGrd
namespace Go.Proofs.Ytnjnealphbcamaa
open Go.RowKit
set_option linter.unusedVariables false
set_option maxRecDepth 10000
set_option linter.unusedSimpArgs false
set_option linter.unnecessarySimpa false

set_option maxRecDepth 100000 in
set_option maxHeartbeats 2000000 in
theorem refCheck_out (root leaf : List UInt8) (i n : Int) (hin : 1048576 < n ∨ i < 0 ∨ n ≤ i) (v : Value) (w : World) :
    Calls Try.prog 23 #[.agg (bvs root).toArray, .agg (bvs leaf).toArray, .int .i64 i, .int .i64 n, v] w fun e w' => e = .returned (.bool false) ∧ Turns [] w w' := by
  have HT := Lib.hid (two_boxes w root leaf 27).2.2
  by_cases h1 : 1048576 < n
  · clear hin
    go_enter Try.func23, Try.ntmps23
    go_wp2_with fail
    go_ret
    exact ⟨rfl, HT.out⟩
  · by_cases h2 : i < 0
    · clear hin
      go_enter Try.func23, Try.ntmps23
      go_wp2_with fail
      go_ret
      exact ⟨rfl, HT.out⟩
    · have h3 : n ≤ i := by omega
      clear hin
      go_enter Try.func23, Try.ntmps23
      go_wp2_with fail
      go_ret
      exact ⟨rfl, HT.out⟩

set_option maxRecDepth 100000 in
set_option maxHeartbeats 4000000 in
theorem refCheck_in (root leaf : List UInt8) (hr : root.length = 32) (hf : leaf.length = 32) (i n : Nat) (hi : i < n) (hn : n ≤ 1048576) (p : List (List UInt8)) (m : Nat) (hpm : p.length = m) (hm : m ≤ 1000) (A : Option Addr) (c B : Nat) (w : World) (h : Hs w B (.slice A m c) p) (hB : B ≤ w.heap.size) :
    Calls Try.prog 23 #[.agg (bvs root).toArray, .agg (bvs leaf).toArray, .int .i64 i, .int .i64 n, .slice A m c] w fun e w' => e = .returned (.bool (mcheck root leaf i n p)) ∧ Turns [] w w' := by
  obtain ⟨res, hres⟩ : ∃ r, r = mcheck root leaf i n p := ⟨_, rfl⟩
  rw [← hres]
  have HRES := Lib.hid hres
  obtain ⟨b5, b6, tx⟩ := two_boxes w root leaf 27
  obtain ⟨X0, hX0⟩ : ∃ x, x = (w.alloc (.cells (bvs root).toArray 27)).alloc (.cells (bvs leaf).toArray 27) := ⟨_, rfl⟩
  rw [← hX0] at b5 b6 tx
  have hl20 := mway_le 20 n i (by omega)
  have z1 : ¬ (1048576 : Int) < (n : Int) := by omega
  have z2 : ¬ (i : Int) < 0 := by omega
  have z3 : ¬ (n : Int) ≤ (i : Int) := by omega
  by_cases h30 : 30 < m
  · have z4 : (30 : Int) < (m : Int) := by omega
    have HF := Lib.hid (show res = false by
      rw [hres]; unfold mcheck
      rw [show ((mway i n).length == p.length) = false by simp; omega]; rfl)
    have HT := Lib.hid tx
    have HX := Lib.hid hX0
    clear hres b5 b6 tx hX0 hl20 hi hn hpm hm h hB h30
    go_enter Try.func23, Try.ntmps23
    go_wp2_with fail
    go_ret
    exact ⟨by rw [HF.out]; rfl, by rw [← HX.out]; exact HT.out⟩
  · have z4 : ¬ (30 : Int) < (m : Int) := by omega
    have LD := Lib.hid (led_any n leaf i n m p hf hpm (Nat.le_refl _) hi hn hm A c B X0 (h.turns tx hB (by simp)) (Nat.le_trans hB tx.size))
    have hz32 := zero_hash
    have hzl := zeros32_len
    generalize hzz : bvs (zeros 32) = zz at hz32 hzl
    have HZL := Lib.hid hzl
    obtain ⟨p5, hp5⟩ : ∃ q, q = w.heap.size := ⟨_, rfl⟩
    obtain ⟨p6, hp6⟩ : ∃ q, q = w.heap.size + 1 := ⟨_, rfl⟩
    rw [← hp5] at b5
    rw [← hp6] at b6
    have HP := Lib.hid (And.intro hp5 hp6)
    have HX := Lib.hid hX0
    have hsr := Lib.hid (show (Try.prog.info? 27).map (·.size) = some (bvs root).length by rw [size_hash, bvs_length, hr])
    have hsl := Lib.hid (show (Try.prog.info? 27).map (·.size) = some (bvs leaf).length by rw [size_hash, bvs_length, hf])
    have H0 := Lib.hid (And.intro b5 (And.intro b6 (And.intro tx (And.intro hr hf))))
    clear hres b5 b6 tx hX0 hl20 hi hn hpm hm h hB h30 hzz hzl hr hf hp5 hp6
    go_enter Try.func23, Try.ntmps23
    go_upto_region 3 with fail
    rw [← HX.out, ← HP.out.2, ← HP.out.1]
    go_wp2_with (first
      | (refine wpList_load_blk rfl 27 (.tmp 6) rfl p6 (by kernel_rfl) (bvs leaf) _ _ H0.out.2.1 Try.underlying27 rfl hsl.out ?_)
      | fail)
    refine LD.out.mono ?_
    rintro e X1 ⟨x, is, hled, rfl, t1⟩
    have hx32 := hled.1
    have b11 := Blk.new X1 zz 27
    have ta : Turns [] X1 (X1.alloc (.cells zz.toArray 27)) := (Turns.refl _ _).alloc _
    have HB := Lib.hid (And.intro b11 (And.intro t1 (And.intro ta hled)))
    have hsx := Lib.hid (show (Try.prog.info? 27).map (·.size) = some (bvs x).length by rw [size_hash, bvs_length, hx32])
    have hlx := Lib.hid (show zz.length = (bvs x).length by rw [HZL.out, bvs_length, hx32])
    have eq1 := eqlH x root hx32 H0.out.2.2.2.1
    clear b11 t1 ta hled hx32 LD
    go_upto_region 4 with (first
      | (refine wpList_alloc_arr rfl 27 rfl zz.toArray hz32 ?_)
      | (refine wpList_store_blk rfl 27 (.tmp 11) (.tmp 35) rfl X1.heap.size (by kernel_rfl) (bvs x) zz 27 (by kernel_rfl) HB.out.1 hlx.out hsx.out (bvs_one _) (fun y1 hb1 ht1 hs1 => ?_); have HQ := Lib.hid (And.intro hb1 ht1); clear hb1 ht1 hs1)
      | fail)
    try simp only [Act.put, List.setIfInBounds_toArray, List.set_cons_succ, List.set_cons_zero]
    have tall : Turns [] X0 y1 := (HB.out.2.1.trans HB.out.2.2.1 (by simp)).trans HQ.out.2 (by intro q hq; simp at hq; subst hq; exact .inr HB.out.2.1.size)
    have r11 := HQ.out.1.range 0 32
    have r5 := (H0.out.1.turns tall (by simp)).range 0 32
    rw [List.drop_zero, List.take_of_length_le (by rw [bvs_length, HB.out.2.2.2.1]; omega)] at r11
    rw [List.drop_zero, List.take_of_length_le (by rw [bvs_length, H0.out.2.2.2.1]; omega)] at r5
    have HR := Lib.hid (And.intro r11 (And.intro r5 (H0.out.2.2.1.trans tall (by simp))))
    have hl := HB.out.2.2.2
    have HF := Lib.hid (show res = (is && x == root) by
      rw [HRES.out]; unfold mcheck
      rw [← hl.2.1]
      cases his : is with
      | false => rfl
      | true => rw [← hl.2.2 his])
    clear tall r11 r5 hl
    obtain ⟨p11, hp11⟩ : ∃ q, q = X1.heap.size := ⟨_, rfl⟩
    rw [← hp11] at HR ⊢
    clear hp11
    cases is with
    | false =>
      clear eq1
      go_wp2_with fail
      go_ret
      exact ⟨by rw [HF.out]; rfl, HR.out.2.2⟩
    | true =>
      go_wp2_with (first
        | (refine wpList_load_g rfl 27 (.tmp 11) rfl p11 0 (by kernel_rfl) (bvs x) _ HR.out.1 Try.underlying27 rfl hsx.out ?_)
        | (refine wpList_load_g rfl 27 (.tmp 5) rfl p5 0 (by kernel_rfl) (bvs root) _ HR.out.2.1 Try.underlying27 rfl hsr.out ?_)
        | fail)
      go_ret
      exact ⟨by rw [HF.out]; rfl, HR.out.2.2⟩
/-- Whatever the numbers are. -/
theorem Check_any (root leaf : List UInt8) (hr : root.length = 32) (hf : leaf.length = 32) (i n : Int) (p : List (List UInt8)) (m : Nat) (hpm : p.length = m) (hm : m ≤ 1000) (A : Option Addr) (c B : Nat) (w : World) (h : Hs w B (.slice A m c) p) (hB : B ≤ w.heap.size) :
    Calls Try.prog 22 #[.agg (bvs root).toArray, .agg (bvs leaf).toArray, .int .i64 i, .int .i64 n, .slice A m c] w fun e w' => e = .returned (.bool (mcheckZ root leaf i n p)) ∧ Turns [] w w' := by
  unfold mcheckZ
  by_cases hin : n ≤ 1048576 ∧ 0 ≤ i ∧ i < n
  · rw [if_pos hin]
    obtain ⟨i', rfl⟩ := Int.eq_ofNat_of_zero_le hin.2.1
    obtain ⟨n', rfl⟩ := Int.eq_ofNat_of_zero_le (show 0 ≤ n by omega)
    exact Check_in root leaf hr hf i' n' (by omega) (by omega) p m hpm hm A c B w h hB
  · rw [if_neg hin]
    exact Check_out 0 root leaf i n (by omega) _ w
theorem refCheck_any (root leaf : List UInt8) (hr : root.length = 32) (hf : leaf.length = 32) (i n : Int) (p : List (List UInt8)) (m : Nat) (hpm : p.length = m) (hm : m ≤ 1000) (A : Option Addr) (c B : Nat) (w : World) (h : Hs w B (.slice A m c) p) (hB : B ≤ w.heap.size) :
    Calls Try.prog 23 #[.agg (bvs root).toArray, .agg (bvs leaf).toArray, .int .i64 i, .int .i64 n, .slice A m c] w fun e w' => e = .returned (.bool (mcheckZ root leaf i n p)) ∧ Turns [] w w' := by
  unfold mcheckZ
  by_cases hin : n ≤ 1048576 ∧ 0 ≤ i ∧ i < n
  · rw [if_pos hin]
    obtain ⟨i', rfl⟩ := Int.eq_ofNat_of_zero_le hin.2.1
    obtain ⟨n', rfl⟩ := Int.eq_ofNat_of_zero_le (show 0 ≤ n by omega)
    exact refCheck_in root leaf hr hf i' n' (by omega) (by omega) p m hpm hm A c B w h hB
  · rw [if_neg hin]
    exact refCheck_out root leaf i n (by omega) _ w
end Go.Proofs.Ytnjnealphbcamaa
