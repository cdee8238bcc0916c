/- The law SchemaRows, walked. -/
import Derived.Test.YtdllgnccjejhiaaKnown9
import Derived.Test.YtdllgnccjejhiaaWithinL
import Derived.Test.YtdllgnccjejhiaaSRows1
namespace Go.Proofs.Ytdllgnccjejhiaa
open Go.RowKit
set_option linter.unusedVariables false
set_option maxRecDepth 10000
set_option linter.unusedSimpArgs false
set_option linter.unnecessarySimpa false

set_option maxRecDepth 100000 in
set_option maxHeartbeats 1000000 in
theorem Rows_0_0 (z : Int) (w : World) (hz : -9223372036854775808 ≤ z ∧ z ≤ 9223372036854775807) (hr : z % 7 = 0) :
    Calls Try.prog 4 #[.int .i64 z, .bool false] w fun e w' => e = .returned (.bool true) ∧ Below w.heap.size w w' := by
  have KN := Lib.hid (known_any w)
  have WI := fun W => within_any z 7 W hz.1 hz.2 (by omega) (by omega)
  rw [hr] at WI
  replace WI := Lib.hid WI
  clear hr
  go_enter Try.func4, Try.ntmps4
  go_wp2_with fail
  refine KN.out.mono ?_
  rintro e w1 ⟨rfl, bel1⟩
  clear KN
  go_wp2_with fail
  refine (WI.out _).mono ?_
  rintro e ww ⟨rfl, rfl⟩
  go_wp2_with fail
  have hck : checkS ⟨⟨#[97, 98, 99, 100, 101, 102, 103, 104, 105, 106, 107, 108]⟩, [⟨⟨#[97]⟩, 2, false⟩, ⟨⟨#[98]⟩, 3, false⟩], 0, false⟩ = 0 := by decide +kernel
  have t1 := ((Turns.refl [] w1).alloc (.cells (colCells (⟨⟨#[97, 98, 99, 100, 101, 102, 103, 104, 105, 106, 107, 108]⟩, [⟨⟨#[97]⟩, 2, false⟩, ⟨⟨#[98]⟩, 3, false⟩], 0, false⟩ : Sch).cols).toArray 27))
  refine (Check_any ⟨⟨#[97, 98, 99, 100, 101, 102, 103, 104, 105, 106, 107, 108]⟩, [⟨⟨#[97]⟩, 2, false⟩, ⟨⟨#[98]⟩, 3, false⟩], 0, false⟩ _ 2 2 (w1.heap.size + 1) _ (by decide +kernel) (by exact lit_sl _ _ _ _ _ 2 rfl) (by simp)).mono ?_
  rintro e w5 ⟨rfl, t5⟩
  rw [hck]
  have bel5 := bel_two bel1 t5
  clear t5 t1 hck
  go_wp2_with fail
  go_ret
  exact ⟨rfl, bel5⟩

set_option maxRecDepth 100000 in
set_option maxHeartbeats 1000000 in
theorem Rows_0_1 (z : Int) (w : World) (hz : -9223372036854775808 ≤ z ∧ z ≤ 9223372036854775807) (hr : z % 7 = 0) :
    Calls Try.prog 4 #[.int .i64 z, .bool true] w fun e w' => e = .returned (.bool true) ∧ Below w.heap.size w w' := by
  have KN := Lib.hid (known_any w)
  have WI := fun W => within_any z 7 W hz.1 hz.2 (by omega) (by omega)
  rw [hr] at WI
  replace WI := Lib.hid WI
  clear hr
  go_enter Try.func4, Try.ntmps4
  go_wp2_with fail
  refine KN.out.mono ?_
  rintro e w1 ⟨rfl, bel1⟩
  clear KN
  go_wp2_with fail
  refine (WI.out _).mono ?_
  rintro e ww ⟨rfl, rfl⟩
  go_wp2_with fail
  have hck : checkS ⟨⟨#[97, 98, 99, 100, 101, 102, 103, 104, 105, 106, 107, 108, 109]⟩, [⟨⟨#[97]⟩, 2, false⟩, ⟨⟨#[98]⟩, 3, false⟩], 0, false⟩ = 12 := by decide +kernel
  have t1 := ((Turns.refl [] w1).alloc (.cells (colCells (⟨⟨#[97, 98, 99, 100, 101, 102, 103, 104, 105, 106, 107, 108, 109]⟩, [⟨⟨#[97]⟩, 2, false⟩, ⟨⟨#[98]⟩, 3, false⟩], 0, false⟩ : Sch).cols).toArray 27))
  refine (Check_any ⟨⟨#[97, 98, 99, 100, 101, 102, 103, 104, 105, 106, 107, 108, 109]⟩, [⟨⟨#[97]⟩, 2, false⟩, ⟨⟨#[98]⟩, 3, false⟩], 0, false⟩ _ 2 2 (w1.heap.size + 1) _ (by decide +kernel) (by exact lit_sl _ _ _ _ _ 2 rfl) (by simp)).mono ?_
  rintro e w5 ⟨rfl, t5⟩
  rw [hck]
  have bel5 := bel_two bel1 t5
  clear t5 t1 hck
  go_wp2_with fail
  go_ret
  exact ⟨rfl, bel5⟩

set_option maxRecDepth 100000 in
set_option maxHeartbeats 1000000 in
theorem Rows_2_0 (z : Int) (w : World) (hz : -9223372036854775808 ≤ z ∧ z ≤ 9223372036854775807) (hr : z % 7 = 2) :
    Calls Try.prog 4 #[.int .i64 z, .bool false] w fun e w' => e = .returned (.bool true) ∧ Below w.heap.size w w' := by
  have KN := Lib.hid (known_any w)
  have WI := fun W => within_any z 7 W hz.1 hz.2 (by omega) (by omega)
  rw [hr] at WI
  replace WI := Lib.hid WI
  clear hr
  go_enter Try.func4, Try.ntmps4
  go_wp2_with fail
  refine KN.out.mono ?_
  rintro e w1 ⟨rfl, bel1⟩
  clear KN
  go_wp2_with fail
  refine (WI.out _).mono ?_
  rintro e ww ⟨rfl, rfl⟩
  go_wp2_with fail
  have hck : checkS ⟨⟨#[97, 98, 99]⟩, [⟨⟨#[97]⟩, 2, false⟩, ⟨⟨#[98]⟩, 3, false⟩], 0, false⟩ = 0 := by decide +kernel
  have t1 := ((Turns.refl [] w1).alloc (.cells (colCells (⟨⟨#[97, 98, 99]⟩, [⟨⟨#[97]⟩, 2, false⟩, ⟨⟨#[98]⟩, 3, false⟩], 0, false⟩ : Sch).cols).toArray 27))
  refine (Check_any ⟨⟨#[97, 98, 99]⟩, [⟨⟨#[97]⟩, 2, false⟩, ⟨⟨#[98]⟩, 3, false⟩], 0, false⟩ _ 2 2 (w1.heap.size + 1) _ (by decide +kernel) (by exact lit_sl _ _ _ _ _ 2 rfl) (by simp)).mono ?_
  rintro e w5 ⟨rfl, t5⟩
  rw [hck]
  have bel5 := bel_two bel1 t5
  clear t5 t1 hck
  go_wp2_with fail
  go_ret
  exact ⟨rfl, bel5⟩

set_option maxRecDepth 100000 in
set_option maxHeartbeats 1000000 in
theorem Rows_2_1 (z : Int) (w : World) (hz : -9223372036854775808 ≤ z ∧ z ≤ 9223372036854775807) (hr : z % 7 = 2) :
    Calls Try.prog 4 #[.int .i64 z, .bool true] w fun e w' => e = .returned (.bool true) ∧ Below w.heap.size w w' := by
  have KN := Lib.hid (known_any w)
  have WI := fun W => within_any z 7 W hz.1 hz.2 (by omega) (by omega)
  rw [hr] at WI
  replace WI := Lib.hid WI
  clear hr
  go_enter Try.func4, Try.ntmps4
  go_wp2_with fail
  refine KN.out.mono ?_
  rintro e w1 ⟨rfl, bel1⟩
  clear KN
  go_wp2_with fail
  refine (WI.out _).mono ?_
  rintro e ww ⟨rfl, rfl⟩
  go_wp2_with fail
  have hck : checkS ⟨⟨#[97, 98, 99]⟩, [⟨⟨#[97]⟩, 2, false⟩, ⟨⟨#[98]⟩, 4, false⟩], 0, false⟩ = 3 := by decide +kernel
  have t1 := ((Turns.refl [] w1).alloc (.cells (colCells (⟨⟨#[97, 98, 99]⟩, [⟨⟨#[97]⟩, 2, false⟩, ⟨⟨#[98]⟩, 4, false⟩], 0, false⟩ : Sch).cols).toArray 27))
  refine (Check_any ⟨⟨#[97, 98, 99]⟩, [⟨⟨#[97]⟩, 2, false⟩, ⟨⟨#[98]⟩, 4, false⟩], 0, false⟩ _ 2 2 (w1.heap.size + 1) _ (by decide +kernel) (by exact lit_sl _ _ _ _ _ 2 rfl) (by simp)).mono ?_
  rintro e w5 ⟨rfl, t5⟩
  rw [hck]
  have bel5 := bel_two bel1 t5
  clear t5 t1 hck
  go_wp2_with fail
  go_ret
  exact ⟨rfl, bel5⟩

set_option maxRecDepth 100000 in
set_option maxHeartbeats 1000000 in
theorem Rows_3_0 (z : Int) (w : World) (hz : -9223372036854775808 ≤ z ∧ z ≤ 9223372036854775807) (hr : z % 7 = 3) :
    Calls Try.prog 4 #[.int .i64 z, .bool false] w fun e w' => e = .returned (.bool true) ∧ Below w.heap.size w w' := by
  have KN := Lib.hid (known_any w)
  have WI := fun W => within_any z 7 W hz.1 hz.2 (by omega) (by omega)
  rw [hr] at WI
  replace WI := Lib.hid WI
  clear hr
  go_enter Try.func4, Try.ntmps4
  go_wp2_with fail
  refine KN.out.mono ?_
  rintro e w1 ⟨rfl, bel1⟩
  clear KN
  go_wp2_with fail
  refine (WI.out _).mono ?_
  rintro e ww ⟨rfl, rfl⟩
  go_wp2_with fail
  have hck : checkS ⟨⟨#[97, 98, 99]⟩, [⟨⟨#[97]⟩, 1, false⟩, ⟨⟨#[98]⟩, 3, false⟩], 0, false⟩ = 0 := by decide +kernel
  have t1 := ((Turns.refl [] w1).alloc (.cells (colCells (⟨⟨#[97, 98, 99]⟩, [⟨⟨#[97]⟩, 1, false⟩, ⟨⟨#[98]⟩, 3, false⟩], 0, false⟩ : Sch).cols).toArray 27))
  refine (Check_any ⟨⟨#[97, 98, 99]⟩, [⟨⟨#[97]⟩, 1, false⟩, ⟨⟨#[98]⟩, 3, false⟩], 0, false⟩ _ 2 2 (w1.heap.size + 1) _ (by decide +kernel) (by exact lit_sl _ _ _ _ _ 2 rfl) (by simp)).mono ?_
  rintro e w5 ⟨rfl, t5⟩
  rw [hck]
  have bel5 := bel_two bel1 t5
  clear t5 t1 hck
  go_wp2_with fail
  go_ret
  exact ⟨rfl, bel5⟩

set_option maxRecDepth 100000 in
set_option maxHeartbeats 1000000 in
theorem Rows_3_1 (z : Int) (w : World) (hz : -9223372036854775808 ≤ z ∧ z ≤ 9223372036854775807) (hr : z % 7 = 3) :
    Calls Try.prog 4 #[.int .i64 z, .bool true] w fun e w' => e = .returned (.bool true) ∧ Below w.heap.size w w' := by
  have KN := Lib.hid (known_any w)
  have WI := fun W => within_any z 7 W hz.1 hz.2 (by omega) (by omega)
  rw [hr] at WI
  replace WI := Lib.hid WI
  clear hr
  go_enter Try.func4, Try.ntmps4
  go_wp2_with fail
  refine KN.out.mono ?_
  rintro e w1 ⟨rfl, bel1⟩
  clear KN
  go_wp2_with fail
  refine (WI.out _).mono ?_
  rintro e ww ⟨rfl, rfl⟩
  go_wp2_with fail
  have hck : checkS ⟨⟨#[97, 98, 99]⟩, [⟨⟨#[97]⟩, 0, false⟩, ⟨⟨#[98]⟩, 3, false⟩], 0, false⟩ = 3 := by decide +kernel
  have t1 := ((Turns.refl [] w1).alloc (.cells (colCells (⟨⟨#[97, 98, 99]⟩, [⟨⟨#[97]⟩, 0, false⟩, ⟨⟨#[98]⟩, 3, false⟩], 0, false⟩ : Sch).cols).toArray 27))
  refine (Check_any ⟨⟨#[97, 98, 99]⟩, [⟨⟨#[97]⟩, 0, false⟩, ⟨⟨#[98]⟩, 3, false⟩], 0, false⟩ _ 2 2 (w1.heap.size + 1) _ (by decide +kernel) (by exact lit_sl _ _ _ _ _ 2 rfl) (by simp)).mono ?_
  rintro e w5 ⟨rfl, t5⟩
  rw [hck]
  have bel5 := bel_two bel1 t5
  clear t5 t1 hck
  go_wp2_with fail
  go_ret
  exact ⟨rfl, bel5⟩

set_option maxRecDepth 100000 in
set_option maxHeartbeats 1000000 in
theorem Rows_4_0 (z : Int) (w : World) (hz : -9223372036854775808 ≤ z ∧ z ≤ 9223372036854775807) (hr : z % 7 = 4) :
    Calls Try.prog 4 #[.int .i64 z, .bool false] w fun e w' => e = .returned (.bool true) ∧ Below w.heap.size w w' := by
  have KN := Lib.hid (known_any w)
  have WI := fun W => within_any z 7 W hz.1 hz.2 (by omega) (by omega)
  rw [hr] at WI
  replace WI := Lib.hid WI
  clear hr
  go_enter Try.func4, Try.ntmps4
  go_wp2_with fail
  refine KN.out.mono ?_
  rintro e w1 ⟨rfl, bel1⟩
  clear KN
  go_wp2_with fail
  refine (WI.out _).mono ?_
  rintro e ww ⟨rfl, rfl⟩
  go_wp2_with fail
  have hck : checkS ⟨⟨#[97, 98, 99]⟩, [⟨⟨#[97]⟩, 2, false⟩, ⟨⟨#[98]⟩, 3, false⟩], 1, false⟩ = 0 := by decide +kernel
  have t1 := ((Turns.refl [] w1).alloc (.cells (colCells (⟨⟨#[97, 98, 99]⟩, [⟨⟨#[97]⟩, 2, false⟩, ⟨⟨#[98]⟩, 3, false⟩], 1, false⟩ : Sch).cols).toArray 27))
  refine (Check_any ⟨⟨#[97, 98, 99]⟩, [⟨⟨#[97]⟩, 2, false⟩, ⟨⟨#[98]⟩, 3, false⟩], 1, false⟩ _ 2 2 (w1.heap.size + 1) _ (by decide +kernel) (by exact lit_sl _ _ _ _ _ 2 rfl) (by simp)).mono ?_
  rintro e w5 ⟨rfl, t5⟩
  rw [hck]
  have bel5 := bel_two bel1 t5
  clear t5 t1 hck
  go_wp2_with fail
  go_ret
  exact ⟨rfl, bel5⟩

set_option maxRecDepth 100000 in
set_option maxHeartbeats 1000000 in
theorem Rows_4_1 (z : Int) (w : World) (hz : -9223372036854775808 ≤ z ∧ z ≤ 9223372036854775807) (hr : z % 7 = 4) :
    Calls Try.prog 4 #[.int .i64 z, .bool true] w fun e w' => e = .returned (.bool true) ∧ Below w.heap.size w w' := by
  have KN := Lib.hid (known_any w)
  have WI := fun W => within_any z 7 W hz.1 hz.2 (by omega) (by omega)
  rw [hr] at WI
  replace WI := Lib.hid WI
  clear hr
  go_enter Try.func4, Try.ntmps4
  go_wp2_with fail
  refine KN.out.mono ?_
  rintro e w1 ⟨rfl, bel1⟩
  clear KN
  go_wp2_with fail
  refine (WI.out _).mono ?_
  rintro e ww ⟨rfl, rfl⟩
  go_wp2_with fail
  have hck : checkS ⟨⟨#[97, 98, 99]⟩, [⟨⟨#[97]⟩, 2, false⟩, ⟨⟨#[98]⟩, 3, false⟩], 2, false⟩ = 1 := by decide +kernel
  have t1 := ((Turns.refl [] w1).alloc (.cells (colCells (⟨⟨#[97, 98, 99]⟩, [⟨⟨#[97]⟩, 2, false⟩, ⟨⟨#[98]⟩, 3, false⟩], 2, false⟩ : Sch).cols).toArray 27))
  refine (Check_any ⟨⟨#[97, 98, 99]⟩, [⟨⟨#[97]⟩, 2, false⟩, ⟨⟨#[98]⟩, 3, false⟩], 2, false⟩ _ 2 2 (w1.heap.size + 1) _ (by decide +kernel) (by exact lit_sl _ _ _ _ _ 2 rfl) (by simp)).mono ?_
  rintro e w5 ⟨rfl, t5⟩
  rw [hck]
  have bel5 := bel_two bel1 t5
  clear t5 t1 hck
  go_wp2_with fail
  go_ret
  exact ⟨rfl, bel5⟩

set_option maxRecDepth 100000 in
set_option maxHeartbeats 1000000 in
theorem Rows_5_0 (z : Int) (w : World) (hz : -9223372036854775808 ≤ z ∧ z ≤ 9223372036854775807) (hr : z % 7 = 5) :
    Calls Try.prog 4 #[.int .i64 z, .bool false] w fun e w' => e = .returned (.bool true) ∧ Below w.heap.size w w' := by
  have KN := Lib.hid (known_any w)
  have WI := fun W => within_any z 7 W hz.1 hz.2 (by omega) (by omega)
  rw [hr] at WI
  replace WI := Lib.hid WI
  clear hr
  go_enter Try.func4, Try.ntmps4
  go_wp2_with fail
  refine KN.out.mono ?_
  rintro e w1 ⟨rfl, bel1⟩
  clear KN
  go_wp2_with fail
  refine (WI.out _).mono ?_
  rintro e ww ⟨rfl, rfl⟩
  go_wp2_with fail
  have hck : checkS ⟨⟨#[97, 98, 99]⟩, [⟨⟨#[97]⟩, 2, false⟩, ⟨⟨#[98]⟩, 3, false⟩], 0, false⟩ = 0 := by decide +kernel
  have t1 := ((Turns.refl [] w1).alloc (.cells (colCells (⟨⟨#[97, 98, 99]⟩, [⟨⟨#[97]⟩, 2, false⟩, ⟨⟨#[98]⟩, 3, false⟩], 0, false⟩ : Sch).cols).toArray 27))
  refine (Check_any ⟨⟨#[97, 98, 99]⟩, [⟨⟨#[97]⟩, 2, false⟩, ⟨⟨#[98]⟩, 3, false⟩], 0, false⟩ _ 2 2 (w1.heap.size + 1) _ (by decide +kernel) (by exact lit_sl _ _ _ _ _ 2 rfl) (by simp)).mono ?_
  rintro e w5 ⟨rfl, t5⟩
  rw [hck]
  have bel5 := bel_two bel1 t5
  clear t5 t1 hck
  go_wp2_with fail
  go_ret
  exact ⟨rfl, bel5⟩

set_option maxRecDepth 100000 in
set_option maxHeartbeats 1000000 in
theorem Rows_5_1 (z : Int) (w : World) (hz : -9223372036854775808 ≤ z ∧ z ≤ 9223372036854775807) (hr : z % 7 = 5) :
    Calls Try.prog 4 #[.int .i64 z, .bool true] w fun e w' => e = .returned (.bool true) ∧ Below w.heap.size w w' := by
  have KN := Lib.hid (known_any w)
  have WI := fun W => within_any z 7 W hz.1 hz.2 (by omega) (by omega)
  rw [hr] at WI
  replace WI := Lib.hid WI
  clear hr
  go_enter Try.func4, Try.ntmps4
  go_wp2_with fail
  refine KN.out.mono ?_
  rintro e w1 ⟨rfl, bel1⟩
  clear KN
  go_wp2_with fail
  refine (WI.out _).mono ?_
  rintro e ww ⟨rfl, rfl⟩
  go_wp2_with fail
  have hck : checkS ⟨⟨#[97, 98, 99]⟩, [⟨⟨#[97]⟩, 2, false⟩, ⟨⟨#[98]⟩, 3, false⟩], -1, false⟩ = 1 := by decide +kernel
  have t1 := ((Turns.refl [] w1).alloc (.cells (colCells (⟨⟨#[97, 98, 99]⟩, [⟨⟨#[97]⟩, 2, false⟩, ⟨⟨#[98]⟩, 3, false⟩], -1, false⟩ : Sch).cols).toArray 27))
  refine (Check_any ⟨⟨#[97, 98, 99]⟩, [⟨⟨#[97]⟩, 2, false⟩, ⟨⟨#[98]⟩, 3, false⟩], -1, false⟩ _ 2 2 (w1.heap.size + 1) _ (by decide +kernel) (by exact lit_sl _ _ _ _ _ 2 rfl) (by simp)).mono ?_
  rintro e w5 ⟨rfl, t5⟩
  rw [hck]
  have bel5 := bel_two bel1 t5
  clear t5 t1 hck
  go_wp2_with fail
  go_ret
  exact ⟨rfl, bel5⟩

set_option maxRecDepth 100000 in
set_option maxHeartbeats 1000000 in
theorem Rows_6_0 (z : Int) (w : World) (hz : -9223372036854775808 ≤ z ∧ z ≤ 9223372036854775807) (hr : z % 7 = 6) :
    Calls Try.prog 4 #[.int .i64 z, .bool false] w fun e w' => e = .returned (.bool true) ∧ Below w.heap.size w w' := by
  have KN := Lib.hid (known_any w)
  have WI := fun W => within_any z 7 W hz.1 hz.2 (by omega) (by omega)
  rw [hr] at WI
  replace WI := Lib.hid WI
  clear hr
  go_enter Try.func4, Try.ntmps4
  go_wp2_with fail
  refine KN.out.mono ?_
  rintro e w1 ⟨rfl, bel1⟩
  clear KN
  go_wp2_with fail
  refine (WI.out _).mono ?_
  rintro e ww ⟨rfl, rfl⟩
  go_wp2_with fail
  have hck : checkS ⟨⟨#[97, 98, 99]⟩, [⟨⟨#[97]⟩, 2, false⟩, ⟨⟨#[98]⟩, 3, true⟩], 0, false⟩ = 0 := by decide +kernel
  have t1 := ((Turns.refl [] w1).alloc (.cells (colCells (⟨⟨#[97, 98, 99]⟩, [⟨⟨#[97]⟩, 2, false⟩, ⟨⟨#[98]⟩, 3, true⟩], 0, false⟩ : Sch).cols).toArray 27))
  refine (Check_any ⟨⟨#[97, 98, 99]⟩, [⟨⟨#[97]⟩, 2, false⟩, ⟨⟨#[98]⟩, 3, true⟩], 0, false⟩ _ 2 2 (w1.heap.size + 1) _ (by decide +kernel) (by exact lit_sl _ _ _ _ _ 2 rfl) (by simp)).mono ?_
  rintro e w5 ⟨rfl, t5⟩
  rw [hck]
  have bel5 := bel_two bel1 t5
  clear t5 t1 hck
  go_wp2_with fail
  go_ret
  exact ⟨rfl, bel5⟩

set_option maxRecDepth 100000 in
set_option maxHeartbeats 1000000 in
theorem Rows_6_1 (z : Int) (w : World) (hz : -9223372036854775808 ≤ z ∧ z ≤ 9223372036854775807) (hr : z % 7 = 6) :
    Calls Try.prog 4 #[.int .i64 z, .bool true] w fun e w' => e = .returned (.bool true) ∧ Below w.heap.size w w' := by
  have KN := Lib.hid (known_any w)
  have WI := fun W => within_any z 7 W hz.1 hz.2 (by omega) (by omega)
  rw [hr] at WI
  replace WI := Lib.hid WI
  clear hr
  go_enter Try.func4, Try.ntmps4
  go_wp2_with fail
  refine KN.out.mono ?_
  rintro e w1 ⟨rfl, bel1⟩
  clear KN
  go_wp2_with fail
  refine (WI.out _).mono ?_
  rintro e ww ⟨rfl, rfl⟩
  go_wp2_with fail
  have hck : checkS ⟨⟨#[97, 98, 99]⟩, [⟨⟨#[97]⟩, 2, true⟩, ⟨⟨#[98]⟩, 3, false⟩], 0, false⟩ = 13 := by decide +kernel
  have t1 := ((Turns.refl [] w1).alloc (.cells (colCells (⟨⟨#[97, 98, 99]⟩, [⟨⟨#[97]⟩, 2, true⟩, ⟨⟨#[98]⟩, 3, false⟩], 0, false⟩ : Sch).cols).toArray 27))
  refine (Check_any ⟨⟨#[97, 98, 99]⟩, [⟨⟨#[97]⟩, 2, true⟩, ⟨⟨#[98]⟩, 3, false⟩], 0, false⟩ _ 2 2 (w1.heap.size + 1) _ (by decide +kernel) (by exact lit_sl _ _ _ _ _ 2 rfl) (by simp)).mono ?_
  rintro e w5 ⟨rfl, t5⟩
  rw [hck]
  have bel5 := bel_two bel1 t5
  clear t5 t1 hck
  go_wp2_with fail
  go_ret
  exact ⟨rfl, bel5⟩

theorem SchemaRows_walk (z : Int) (above : Bool) (w : World) (hz : -9223372036854775808 ≤ z ∧ z ≤ 9223372036854775807) :
    Calls Try.prog 4 #[.int .i64 z, .bool above] w fun e w' => e = .returned (.bool true) ∧ Below w.heap.size w w' := by
  have hr : z % 7 = 0 ∨ z % 7 = 1 ∨ z % 7 = 2 ∨ z % 7 = 3 ∨ z % 7 = 4 ∨ z % 7 = 5 ∨ z % 7 = 6 := by omega
  cases above
  · rcases hr with h | h | h | h | h | h | h
    · exact Rows_0_0 z w hz h
    · exact Rows_1_0 z w hz h
    · exact Rows_2_0 z w hz h
    · exact Rows_3_0 z w hz h
    · exact Rows_4_0 z w hz h
    · exact Rows_5_0 z w hz h
    · exact Rows_6_0 z w hz h
  · rcases hr with h | h | h | h | h | h | h
    · exact Rows_0_1 z w hz h
    · exact Rows_1_1 z w hz h
    · exact Rows_2_1 z w hz h
    · exact Rows_3_1 z w hz h
    · exact Rows_4_1 z w hz h
    · exact Rows_5_1 z w hz h
    · exact Rows_6_1 z w hz h
end Go.Proofs.Ytdllgnccjejhiaa
