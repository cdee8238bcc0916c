/- The rounds' numbers, a sum of nothing yet. -/
import Derived.Test.YtibolcekhdapaaaSha1
import Derived.Test.YtibolcekhdapaaaArr
namespace Go.Proofs.Ytibolcekhdapaaa
open Go.RowKit
set_option linter.unusedVariables false
set_option maxRecDepth 10000
set_option linter.unusedSimpArgs false
set_option linter.unnecessarySimpa false

def u32s (l : List UInt32) : List Value := l.map u32v
theorem u32s_length (l : List UInt32) : (u32s l).length = l.length := by simp [u32s]
theorem u32s_one (l : List UInt32) : ∀ u ∈ u32s l, u.oneCell' = true := by
  intro u hu
  obtain ⟨b, _, rfl⟩ := List.mem_map.1 hu
  rfl
def ints32 (l : List UInt32) : List Int := l.map fun x => (x.toNat : Int)
theorem ints32_map (l : List UInt32) : (ints32 l).map (Value.int .u32) = u32s l := by simp [ints32, u32s, u32v]
def zerosW (n : Nat) : List UInt32 := List.replicate n 0
theorem zero_w64 : (Try.prog.info? 55).bind (·.zero) = some (.agg (u32s (zerosW 64)).toArray) := by kernel_rfl
theorem zero_w8 : (Try.prog.info? 64).bind (·.zero) = some (.agg (u32s (zerosW 8)).toArray) := by kernel_rfl
theorem size_w64 : (Try.prog.info? 55).map (·.size) = some 64 := by kernel_rfl
theorem size_w8 : (Try.prog.info? 64).map (·.size) = some 8 := by kernel_rfl
theorem zerosW_len (n : Nat) : (u32s (zerosW n)).length = n := by rw [u32s_length]; simp [zerosW]
theorem shaK_len : (u32s shaK).length = 64 := by rw [u32s_length]; rfl
theorem shaH_len : (u32s shaH).length = 8 := by rw [u32s_length]; rfl

set_option maxRecDepth 100000 in
set_option maxHeartbeats 2000000 in
theorem begun_any (w : World) : Calls Try.prog 23 #[] w fun e w' => e = .returned (.agg (u32s shaH).toArray) ∧ Turns [] w w' := by
  have hz := zero_w8
  have e1 := ints32_map shaH
  have hl := shaH_len
  have hzl := zerosW_len 8
  have h1 := u32s_one shaH
  rw [← e1] at hl h1
  obtain ⟨W', hr, hb, ht⟩ := store_var (P := Try.prog) w (u32s (zerosW 8)).toArray 64 ((ints32 shaH).map (Value.int .u32)) (by rw [hl]; simpa using hzl) h1
  generalize u32s (zerosW 8) = zz at hz hr
  generalize u32s shaH = ks at e1
  have E1 := Lib.hid e1
  have hsz : (Try.prog.info? 64).map (·.size) = some ((ints32 shaH).map (Value.int .u32)).toArray.size := by rw [size_w8, List.size_toArray, hl]
  have B0 := Lib.hid (And.intro hb (And.intro ht hsz))
  clear e1 hl hzl h1 hb ht hsz
  go_enter Try.func23, Try.ntmps23
  go_wp2_with (first
    | (refine wpList_alloc_arr rfl 64 rfl zz.toArray hz ?_)
    | (refine wpList_buildFlatArrTo rfl 64 43 8 _ rfl .u32 (ints32 shaH) (some 1) rfl Try.underlying64 (by kernel_rfl) (by kernel_rfl) (by kernel_rfl) ?_)
    | fail)
  refine bodyPost_ret (results_cell_row rfl _ _ w.heap.size _ _ _ _ rfl B0.out.1 Try.underlying64 rfl B0.out.2.2) rfl ?_
  exact ⟨by rw [← E1.out], B0.out.2.1⟩
set_option maxRecDepth 100000 in
set_option maxHeartbeats 2000000 in
theorem keys_any (w : World) : Calls Try.prog 37 #[] w fun e w' => e = .returned (.agg (u32s shaK).toArray) ∧ Turns [] w w' := by
  have hz := zero_w64
  have e1 := ints32_map shaK
  have hl := shaK_len
  have hzl := zerosW_len 64
  have h1 := u32s_one shaK
  rw [← e1] at hl h1
  obtain ⟨W', hr, hb, ht⟩ := store_var (P := Try.prog) w (u32s (zerosW 64)).toArray 55 ((ints32 shaK).map (Value.int .u32)) (by rw [hl]; simpa using hzl) h1
  generalize u32s (zerosW 64) = zz at hz hr
  generalize u32s shaK = ks at e1
  have E1 := Lib.hid e1
  have hsz : (Try.prog.info? 55).map (·.size) = some ((ints32 shaK).map (Value.int .u32)).toArray.size := by rw [size_w64, List.size_toArray, hl]
  have B0 := Lib.hid (And.intro hb (And.intro ht hsz))
  clear e1 hl hzl h1 hb ht hsz
  go_enter Try.func37, Try.ntmps37
  go_wp2_with (first
    | (refine wpList_alloc_arr rfl 55 rfl zz.toArray hz ?_)
    | (refine wpList_buildFlatArrTo rfl 55 43 64 _ rfl .u32 (ints32 shaK) (some 1) rfl Try.underlying55 (by kernel_rfl) (by kernel_rfl) (by kernel_rfl) ?_)
    | fail)
  refine bodyPost_ret (results_cell_row rfl _ _ w.heap.size _ _ _ _ rfl B0.out.1 Try.underlying55 rfl B0.out.2.2) rfl ?_
  exact ⟨by rw [← E1.out], B0.out.2.1⟩
set_option maxRecDepth 100000 in
set_option maxHeartbeats 2000000 in
theorem words_any (w : World) : Calls Try.prog 17 #[] w fun e w' => e = .returned (.agg (u32s shaK).toArray) ∧ Turns [] w w' := by
  have hz := zero_w64
  have e1 := ints32_map shaK
  have hl := shaK_len
  have hzl := zerosW_len 64
  have h1 := u32s_one shaK
  rw [← e1] at hl h1
  obtain ⟨W', hr, hb, ht⟩ := store_var (P := Try.prog) w (u32s (zerosW 64)).toArray 55 ((ints32 shaK).map (Value.int .u32)) (by rw [hl]; simpa using hzl) h1
  generalize u32s (zerosW 64) = zz at hz hr
  generalize u32s shaK = ks at e1
  have E1 := Lib.hid e1
  have hsz : (Try.prog.info? 55).map (·.size) = some ((ints32 shaK).map (Value.int .u32)).toArray.size := by rw [size_w64, List.size_toArray, hl]
  have B0 := Lib.hid (And.intro hb (And.intro ht hsz))
  clear e1 hl hzl h1 hb ht hsz
  go_enter Try.func17, Try.ntmps17
  go_wp2_with (first
    | (refine wpList_alloc_arr rfl 55 rfl zz.toArray hz ?_)
    | (refine wpList_buildFlatArrTo rfl 55 43 64 _ rfl .u32 (ints32 shaK) (some 1) rfl Try.underlying55 (by kernel_rfl) (by kernel_rfl) (by kernel_rfl) ?_)
    | fail)
  refine bodyPost_ret (results_cell_row rfl _ _ w.heap.size _ _ _ _ rfl B0.out.1 Try.underlying55 rfl B0.out.2.2) rfl ?_
  exact ⟨by rw [← E1.out], B0.out.2.1⟩
end Go.Proofs.Ytibolcekhdapaaa
