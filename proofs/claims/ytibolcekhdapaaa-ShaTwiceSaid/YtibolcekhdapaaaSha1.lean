/- Words are turned to the right. -/
import Derived.Test.YtibolcekhdapaaaSha0
import Derived.Test.YtibolcekhdapaaaPats
import Derived.Test.YtibolcekhdapaaaProg
namespace Go.Proofs.Ytibolcekhdapaaa
open Go.RowKit
set_option linter.unusedVariables false
set_option maxRecDepth 10000
set_option linter.unusedSimpArgs false
set_option linter.unnecessarySimpa false

theorem rorW (x : UInt32) (n m : Nat) (c d : Int) (hc : c = ((2 ^ n : Nat) : Int)) (hd : d = ((2 ^ m : Nat) : Int)) (hm : m = 32 - n) : bits .or .u32 ((x.toNat : Int) * d % 4294967296) ((x.toNat : Int) / c) = ((ror x n).toNat : Int) := by
  subst hc hd hm
  rw [← IntKind.wrap_u32, shlW, shrW, bitsOr, UInt32.or_comm]; rfl
theorem rotl_2 (x : UInt32) (w : World) : Calls Try.prog 48 #[.int .u32 x.toNat, .int .i64 (-2)] w fun e w' => e = .returned (.int .u32 (ror x 2).toNat) ∧ w = w' := by
  have hx := w_lt x
  have hb : bits .and .u64 (IntKind.u64.wrap (-2)) 31 = 30 := by decide +kernel
  have hv := Lib.hid (rorW x 2 30 4 1073741824 (by decide) (by decide) (by decide))
  go_enter Try.func48, Try.ntmps48
  go_wp2_with fail
  go_ret
  exact ⟨by rw [← hv.out]; rfl, rfl⟩
theorem right_2 (x : UInt32) (w : World) : Calls Try.prog 38 #[.int .u32 x.toNat, .int .i64 2] w fun e w' => e = .returned (.int .u32 (ror x 2).toNat) ∧ w = w' := by
  have RL := Lib.hid (rotl_2 x w)
  go_enter Try.func38, Try.ntmps38
  go_wp2_with fail
  refine RL.out.mono ?_
  rintro e ww ⟨rfl, rfl⟩
  go_wp2_with fail
  go_ret
  exact ⟨rfl, rfl⟩
theorem rotl_6 (x : UInt32) (w : World) : Calls Try.prog 48 #[.int .u32 x.toNat, .int .i64 (-6)] w fun e w' => e = .returned (.int .u32 (ror x 6).toNat) ∧ w = w' := by
  have hx := w_lt x
  have hb : bits .and .u64 (IntKind.u64.wrap (-6)) 31 = 26 := by decide +kernel
  have hv := Lib.hid (rorW x 6 26 64 67108864 (by decide) (by decide) (by decide))
  go_enter Try.func48, Try.ntmps48
  go_wp2_with fail
  go_ret
  exact ⟨by rw [← hv.out]; rfl, rfl⟩
theorem right_6 (x : UInt32) (w : World) : Calls Try.prog 38 #[.int .u32 x.toNat, .int .i64 6] w fun e w' => e = .returned (.int .u32 (ror x 6).toNat) ∧ w = w' := by
  have RL := Lib.hid (rotl_6 x w)
  go_enter Try.func38, Try.ntmps38
  go_wp2_with fail
  refine RL.out.mono ?_
  rintro e ww ⟨rfl, rfl⟩
  go_wp2_with fail
  go_ret
  exact ⟨rfl, rfl⟩
theorem rotl_7 (x : UInt32) (w : World) : Calls Try.prog 48 #[.int .u32 x.toNat, .int .i64 (-7)] w fun e w' => e = .returned (.int .u32 (ror x 7).toNat) ∧ w = w' := by
  have hx := w_lt x
  have hb : bits .and .u64 (IntKind.u64.wrap (-7)) 31 = 25 := by decide +kernel
  have hv := Lib.hid (rorW x 7 25 128 33554432 (by decide) (by decide) (by decide))
  go_enter Try.func48, Try.ntmps48
  go_wp2_with fail
  go_ret
  exact ⟨by rw [← hv.out]; rfl, rfl⟩
theorem right_7 (x : UInt32) (w : World) : Calls Try.prog 38 #[.int .u32 x.toNat, .int .i64 7] w fun e w' => e = .returned (.int .u32 (ror x 7).toNat) ∧ w = w' := by
  have RL := Lib.hid (rotl_7 x w)
  go_enter Try.func38, Try.ntmps38
  go_wp2_with fail
  refine RL.out.mono ?_
  rintro e ww ⟨rfl, rfl⟩
  go_wp2_with fail
  go_ret
  exact ⟨rfl, rfl⟩
theorem rotl_11 (x : UInt32) (w : World) : Calls Try.prog 48 #[.int .u32 x.toNat, .int .i64 (-11)] w fun e w' => e = .returned (.int .u32 (ror x 11).toNat) ∧ w = w' := by
  have hx := w_lt x
  have hb : bits .and .u64 (IntKind.u64.wrap (-11)) 31 = 21 := by decide +kernel
  have hv := Lib.hid (rorW x 11 21 2048 2097152 (by decide) (by decide) (by decide))
  go_enter Try.func48, Try.ntmps48
  go_wp2_with fail
  go_ret
  exact ⟨by rw [← hv.out]; rfl, rfl⟩
theorem right_11 (x : UInt32) (w : World) : Calls Try.prog 38 #[.int .u32 x.toNat, .int .i64 11] w fun e w' => e = .returned (.int .u32 (ror x 11).toNat) ∧ w = w' := by
  have RL := Lib.hid (rotl_11 x w)
  go_enter Try.func38, Try.ntmps38
  go_wp2_with fail
  refine RL.out.mono ?_
  rintro e ww ⟨rfl, rfl⟩
  go_wp2_with fail
  go_ret
  exact ⟨rfl, rfl⟩
theorem rotl_13 (x : UInt32) (w : World) : Calls Try.prog 48 #[.int .u32 x.toNat, .int .i64 (-13)] w fun e w' => e = .returned (.int .u32 (ror x 13).toNat) ∧ w = w' := by
  have hx := w_lt x
  have hb : bits .and .u64 (IntKind.u64.wrap (-13)) 31 = 19 := by decide +kernel
  have hv := Lib.hid (rorW x 13 19 8192 524288 (by decide) (by decide) (by decide))
  go_enter Try.func48, Try.ntmps48
  go_wp2_with fail
  go_ret
  exact ⟨by rw [← hv.out]; rfl, rfl⟩
theorem right_13 (x : UInt32) (w : World) : Calls Try.prog 38 #[.int .u32 x.toNat, .int .i64 13] w fun e w' => e = .returned (.int .u32 (ror x 13).toNat) ∧ w = w' := by
  have RL := Lib.hid (rotl_13 x w)
  go_enter Try.func38, Try.ntmps38
  go_wp2_with fail
  refine RL.out.mono ?_
  rintro e ww ⟨rfl, rfl⟩
  go_wp2_with fail
  go_ret
  exact ⟨rfl, rfl⟩
theorem rotl_17 (x : UInt32) (w : World) : Calls Try.prog 48 #[.int .u32 x.toNat, .int .i64 (-17)] w fun e w' => e = .returned (.int .u32 (ror x 17).toNat) ∧ w = w' := by
  have hx := w_lt x
  have hb : bits .and .u64 (IntKind.u64.wrap (-17)) 31 = 15 := by decide +kernel
  have hv := Lib.hid (rorW x 17 15 131072 32768 (by decide) (by decide) (by decide))
  go_enter Try.func48, Try.ntmps48
  go_wp2_with fail
  go_ret
  exact ⟨by rw [← hv.out]; rfl, rfl⟩
theorem right_17 (x : UInt32) (w : World) : Calls Try.prog 38 #[.int .u32 x.toNat, .int .i64 17] w fun e w' => e = .returned (.int .u32 (ror x 17).toNat) ∧ w = w' := by
  have RL := Lib.hid (rotl_17 x w)
  go_enter Try.func38, Try.ntmps38
  go_wp2_with fail
  refine RL.out.mono ?_
  rintro e ww ⟨rfl, rfl⟩
  go_wp2_with fail
  go_ret
  exact ⟨rfl, rfl⟩
theorem rotl_18 (x : UInt32) (w : World) : Calls Try.prog 48 #[.int .u32 x.toNat, .int .i64 (-18)] w fun e w' => e = .returned (.int .u32 (ror x 18).toNat) ∧ w = w' := by
  have hx := w_lt x
  have hb : bits .and .u64 (IntKind.u64.wrap (-18)) 31 = 14 := by decide +kernel
  have hv := Lib.hid (rorW x 18 14 262144 16384 (by decide) (by decide) (by decide))
  go_enter Try.func48, Try.ntmps48
  go_wp2_with fail
  go_ret
  exact ⟨by rw [← hv.out]; rfl, rfl⟩
theorem right_18 (x : UInt32) (w : World) : Calls Try.prog 38 #[.int .u32 x.toNat, .int .i64 18] w fun e w' => e = .returned (.int .u32 (ror x 18).toNat) ∧ w = w' := by
  have RL := Lib.hid (rotl_18 x w)
  go_enter Try.func38, Try.ntmps38
  go_wp2_with fail
  refine RL.out.mono ?_
  rintro e ww ⟨rfl, rfl⟩
  go_wp2_with fail
  go_ret
  exact ⟨rfl, rfl⟩
theorem rotl_19 (x : UInt32) (w : World) : Calls Try.prog 48 #[.int .u32 x.toNat, .int .i64 (-19)] w fun e w' => e = .returned (.int .u32 (ror x 19).toNat) ∧ w = w' := by
  have hx := w_lt x
  have hb : bits .and .u64 (IntKind.u64.wrap (-19)) 31 = 13 := by decide +kernel
  have hv := Lib.hid (rorW x 19 13 524288 8192 (by decide) (by decide) (by decide))
  go_enter Try.func48, Try.ntmps48
  go_wp2_with fail
  go_ret
  exact ⟨by rw [← hv.out]; rfl, rfl⟩
theorem right_19 (x : UInt32) (w : World) : Calls Try.prog 38 #[.int .u32 x.toNat, .int .i64 19] w fun e w' => e = .returned (.int .u32 (ror x 19).toNat) ∧ w = w' := by
  have RL := Lib.hid (rotl_19 x w)
  go_enter Try.func38, Try.ntmps38
  go_wp2_with fail
  refine RL.out.mono ?_
  rintro e ww ⟨rfl, rfl⟩
  go_wp2_with fail
  go_ret
  exact ⟨rfl, rfl⟩
theorem rotl_22 (x : UInt32) (w : World) : Calls Try.prog 48 #[.int .u32 x.toNat, .int .i64 (-22)] w fun e w' => e = .returned (.int .u32 (ror x 22).toNat) ∧ w = w' := by
  have hx := w_lt x
  have hb : bits .and .u64 (IntKind.u64.wrap (-22)) 31 = 10 := by decide +kernel
  have hv := Lib.hid (rorW x 22 10 4194304 1024 (by decide) (by decide) (by decide))
  go_enter Try.func48, Try.ntmps48
  go_wp2_with fail
  go_ret
  exact ⟨by rw [← hv.out]; rfl, rfl⟩
theorem right_22 (x : UInt32) (w : World) : Calls Try.prog 38 #[.int .u32 x.toNat, .int .i64 22] w fun e w' => e = .returned (.int .u32 (ror x 22).toNat) ∧ w = w' := by
  have RL := Lib.hid (rotl_22 x w)
  go_enter Try.func38, Try.ntmps38
  go_wp2_with fail
  refine RL.out.mono ?_
  rintro e ww ⟨rfl, rfl⟩
  go_wp2_with fail
  go_ret
  exact ⟨rfl, rfl⟩
theorem rotl_25 (x : UInt32) (w : World) : Calls Try.prog 48 #[.int .u32 x.toNat, .int .i64 (-25)] w fun e w' => e = .returned (.int .u32 (ror x 25).toNat) ∧ w = w' := by
  have hx := w_lt x
  have hb : bits .and .u64 (IntKind.u64.wrap (-25)) 31 = 7 := by decide +kernel
  have hv := Lib.hid (rorW x 25 7 33554432 128 (by decide) (by decide) (by decide))
  go_enter Try.func48, Try.ntmps48
  go_wp2_with fail
  go_ret
  exact ⟨by rw [← hv.out]; rfl, rfl⟩
theorem right_25 (x : UInt32) (w : World) : Calls Try.prog 38 #[.int .u32 x.toNat, .int .i64 25] w fun e w' => e = .returned (.int .u32 (ror x 25).toNat) ∧ w = w' := by
  have RL := Lib.hid (rotl_25 x w)
  go_enter Try.func38, Try.ntmps38
  go_wp2_with fail
  refine RL.out.mono ?_
  rintro e ww ⟨rfl, rfl⟩
  go_wp2_with fail
  go_ret
  exact ⟨rfl, rfl⟩
end Go.Proofs.Ytibolcekhdapaaa
