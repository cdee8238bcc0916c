/- The law SchemaNames, walked. -/
import Derived.Test.YtdllgnccjejhiaaKnown9
import Derived.Test.YtdllgnccjejhiaaWithinL
import Derived.Test.YtdllgnccjejhiaaRefName
import Derived.Test.YtdllgnccjejhiaaRegl
namespace Go.Proofs.Ytdllgnccjejhiaa
open Go.RowKit
set_option linter.unusedVariables false
set_option maxRecDepth 10000
set_option linter.unusedSimpArgs false
set_option linter.unnecessarySimpa false

theorem cellT {a w : World} (h : Turns [] a w) {p : Addr} {v : Value} (hc : a.cell? p = some v) : w.cell? p = some v :=
  (World.cell?_of_block (h.block p.block (World.block_lt_of_cell? a p hc) (by simp))).trans hc
theorem rangeT {a w : World} (h : Turns [] a w) {b o : Nat} {cs : List Value} (hc : a.rangeAt b o cs) : w.rangeAt b o cs := fun j v hj => cellT h (hc j v hj)
theorem Sl.turnsT {a w : World} {size n : Nat} {v : Value} {xs : List Value} (h : Sl a a.heap.size size v n xs) (t : Turns [] a w) : Sl w a.heap.size size v n xs := t.slice h (Nat.le_refl _) (by simp)
theorem fits1 (t : ByteArray) (h : t.size ≤ 9223372036854775807) : (⟨t, [⟨⟨#[97]⟩, 2, false⟩], 0, false⟩ : Sch).fits := ⟨h, by intro c hc; cases List.mem_singleton.1 hc; exact (by decide : (1 : Nat) ≤ 9223372036854775807)⟩
theorem fits2 (t : ByteArray) (h : t.size ≤ 9223372036854775807) : (⟨⟨#[120]⟩, [⟨t, 2, false⟩], 0, false⟩ : Sch).fits := ⟨by show (1 : Nat) ≤ 9223372036854775807; omega, by intro c hc; cases List.mem_singleton.1 hc; exact h⟩
theorem one1 (t : ByteArray) : checkS ⟨t, [⟨⟨#[97]⟩, 2, false⟩], 0, false⟩ = if nameOk t = true then 0 else 12 := by
  unfold checkS
  cases nameOk t
  · rfl
  · have e : colsCheck [] [(⟨⟨#[97]⟩, 2, false⟩ : Col)] = 0 := by decide +kernel
    simp only [List.length_cons, List.length_nil]
    rw [e]
    rfl
theorem one2 (t : ByteArray) : checkS ⟨⟨#[120]⟩, [⟨t, 2, false⟩], 0, false⟩ = if nameOk t = true then 0 else 12 := by
  unfold checkS
  rw [show nameOk ⟨#[120]⟩ = true by decide +kernel]
  have e : colsCheck [] [(⟨t, 2, false⟩ : Col)] = if nameOk t = true then 0 else 12 := by
    unfold colsCheck
    cases nameOk t <;> simp [colsCheck]
  simp only [List.length_cons, List.length_nil]
  rw [e]
  cases nameOk t <;> rfl
/-- The texts that are tried. -/
def rowsL (nm r : ByteArray) : List ByteArray := [nm, r, r ++ ⟨#[95]⟩]

set_option maxRecDepth 100000 in
set_option maxHeartbeats 4000000 in
theorem SchemaNames_walk (nm : ByteArray) (word : Int) (w : World) (hnm : nm.size ≤ 9223372036854775807) (hw : -9223372036854775808 ≤ word ∧ word ≤ 9223372036854775807) :
    Calls Try.prog 3 #[.string nm, .int .i64 word] w fun e w' => e = .returned (.bool true) ∧ Below w.heap.size w w' := by
  have KN := Lib.hid (known_any w)
  by_cases h30 : 30 < nm.size
  · have x : 30 < (nm.size : Int) := by omega
    go_enter Try.func3, Try.ntmps3
    go_wp2_with fail
    refine KN.out.mono ?_
    rintro e w1 ⟨rfl, bel1⟩
    clear KN
    go_wp2_with fail
    go_ret
    exact ⟨rfl, bel1⟩
  have x : (nm.size : Int) ≤ 30 := by omega
  obtain ⟨m, hm⟩ : ∃ m : Nat, word % 41 = m := ⟨(word % 41).toNat, by omega⟩
  have hm41 : m < 41 := by omega
  have hm41' : (m : Int) < 41 := by omega
  have WI := fun W => within_any word 41 W hw.1 hw.2 (by omega) (by omega)
  rw [hm] at WI
  replace WI := Lib.hid WI
  clear hm
  go_enter Try.func3, Try.ntmps3
  go_wp2_with fail
  refine KN.out.mono ?_
  rintro e w1 ⟨rfl, bel1⟩
  clear KN
  have LA := Lib.hid (refReserved_any w1)
  go_wp2_with fail
  refine LA.out.mono ?_
  rintro e w4 ⟨rfl, hw4⟩
  have t4 : Turns [] w1 w4 := by rw [hw4]; exact (Turns.refl _ _).alloc _
  have hmr : m < reserved.length := hm41
  have hc4 : w4.cell? ⟨w1.heap.size, m, none⟩ = some (.string reserved[m]) := by
    have hb := Blk.new w1 (reserved.map Value.string) 9
    rw [hw4, hb.cell m, List.getElem?_map, List.getElem?_eq_getElem hmr]; rfl
  have hrs : reserved[m].size ≤ 12 := by
    have : ∀ r ∈ reserved, r.size ≤ 12 := by decide +kernel
    exact this _ (List.getElem_mem hmr)
  generalize reserved[m] = r at *
  have hr1 : ¬ 9223372036854775807 < r.size + 1 := by omega
  have hS4 : Turns [] w4 w4.drew := (Turns.refl _ _).drew
  have hS5 : Turns [] w4 (w4.drew.alloc (.cells ((rowsL nm r).map Value.string).toArray 9)) := hS4.alloc _
  have hbr := Blk.new w4.drew ((rowsL nm r).map Value.string) 9
  have bel4 := bel1.trans ((t4.below (Nat.le_refl _) (by simp)).mono bel1.size)
  have bel6 := bel4.trans ((hS5.below (Nat.le_refl _) (by simp)).mono bel4.size)
  clear hw4 LA t4 bel1 bel4
  go_wp2_with fail
  refine reg_begin (fun W => Turns [] w4 W) (fun _ => True) 18 18 #[false, false, false, false, false, false, false, false, false, false, false, false, false, false, false, false, false, false] (by kernel_rfl) (by kernel_rfl) (by kernel_rfl) ?_
  refine reg_take 0 16 17 #[true, false, false, false, false, false, false, false, false, false, false, false, false, false, false, false, false, false] (by rfl) (v := ?_) rfl rfl (by kernel_rfl) (by kernel_rfl) (by kernel_rfl) (by kernel_rfl) (fun _ _ _ h => h) (by rfl) ?_ (Till.mk' hS4 trivial) ?_
  rotate_left
  · intro W hS; go_simp; all_goals with_reducible rfl
  try simp only [List.setIfInBounds_toArray, List.set_cons_succ, List.set_cons_zero]
  refine reg_take 1 17 16 #[true, true, false, false, false, false, false, false, false, false, false, false, false, false, false, false, false, false] (by rfl) (v := ?_) rfl rfl (by kernel_rfl) (by kernel_rfl) (by kernel_rfl) (by kernel_rfl) (fun _ _ _ h => h) (by rfl) ?_ (Till.mk' hS4 trivial) ?_
  rotate_left
  · intro W hS; go_simp; all_goals with_reducible rfl
  try simp only [List.setIfInBounds_toArray, List.set_cons_succ, List.set_cons_zero]
  refine reg_take 2 18 15 #[true, true, true, false, false, false, false, false, false, false, false, false, false, false, false, false, false, false] (by rfl) (v := ?_) rfl rfl (by kernel_rfl) (by kernel_rfl) (by kernel_rfl) (by kernel_rfl) (fun _ _ _ h => h) (by rfl) ?_ (Till.mk' hS4 trivial) ?_
  rotate_left
  · intro W hS; go_simp; all_goals with_reducible rfl
  try simp only [List.setIfInBounds_toArray, List.set_cons_succ, List.set_cons_zero]
  refine reg_take 3 19 14 #[true, true, true, true, false, false, false, false, false, false, false, false, false, false, false, false, false, false] (by rfl) (v := ?_) rfl rfl (by kernel_rfl) (by kernel_rfl) (by kernel_rfl) (by kernel_rfl) (fun _ _ _ h => h) (by rfl) ?_ (Till.mk' hS4 trivial) ?_
  rotate_left
  · intro W hS; go_simp; all_goals with_reducible rfl
  try simp only [List.setIfInBounds_toArray, List.set_cons_succ, List.set_cons_zero]
  refine reg_take 4 20 13 #[true, true, true, true, true, false, false, false, false, false, false, false, false, false, false, false, false, false] (by rfl) (v := ?_) rfl rfl (by kernel_rfl) (by kernel_rfl) (by kernel_rfl) (by kernel_rfl) (fun _ _ _ h => h) (by rfl) ?_ (Till.mk' hS4 trivial) ?_
  rotate_left
  · intro W hS; go_simp; all_goals with_reducible rfl
  try simp only [List.setIfInBounds_toArray, List.set_cons_succ, List.set_cons_zero]
  refine reg_take 8 24 12 #[true, true, true, true, true, false, false, false, true, false, false, false, false, false, false, false, false, false] (by rfl) (v := ?_) rfl rfl (by kernel_rfl) (by kernel_rfl) (by kernel_rfl) (by kernel_rfl) (fun _ _ _ h => h) (by rfl) ?_ (Till.mk' hS4 trivial) ?_
  rotate_left
  · intro W hS; go_simp; all_goals with_reducible rfl
  try simp only [List.setIfInBounds_toArray, List.set_cons_succ, List.set_cons_zero]
  refine reg_take 9 25 11 #[true, true, true, true, true, false, false, false, true, true, false, false, false, false, false, false, false, false] (by rfl) (v := ?_) rfl rfl (by kernel_rfl) (by kernel_rfl) (by kernel_rfl) (by kernel_rfl) (fun _ _ _ h => h) (by rfl) ?_ (Till.mk' hS4 trivial) ?_
  rotate_left
  · intro W hS; go_simp; all_goals with_reducible rfl
  try simp only [List.setIfInBounds_toArray, List.set_cons_succ, List.set_cons_zero]
  refine reg_take 10 26 10 #[true, true, true, true, true, false, false, false, true, true, true, false, false, false, false, false, false, false] (by rfl) (v := ?_) rfl rfl (by kernel_rfl) (by kernel_rfl) (by kernel_rfl) (by kernel_rfl) (fun _ _ _ h => h) (by rfl) ?_ (Till.mk' hS4 trivial) ?_
  rotate_left
  · intro W hS; go_simp; all_goals with_reducible rfl
  try simp only [List.setIfInBounds_toArray, List.set_cons_succ, List.set_cons_zero]
  refine reg_take 11 27 9 #[true, true, true, true, true, false, false, false, true, true, true, true, false, false, false, false, false, false] (by rfl) (v := ?_) rfl rfl (by kernel_rfl) (by kernel_rfl) (by kernel_rfl) (by kernel_rfl) (fun _ _ _ h => h) (by rfl) ?_ (Till.mk' hS4 trivial) ?_
  rotate_left
  · intro W hS; go_simp; all_goals with_reducible rfl
  try simp only [List.setIfInBounds_toArray, List.set_cons_succ, List.set_cons_zero]
  refine reg_one 5 8 #[true, true, true, true, true, true, false, false, true, true, true, true, false, false, false, false, false, false] (by kernel_rfl) rfl (by rfl) (by kernel_rfl) (fun K hK => ?_)
  go_simp
  refine (WI.out _).mono ?_
  rintro e ww ⟨rfl, rfl⟩
  refine hK _ _ (Till.mk' hS4 trivial) ?_
  clear hK K
  try simp only [List.setIfInBounds_toArray, List.set_cons_succ, List.set_cons_zero]
  refine reg_take 6 22 7 #[true, true, true, true, true, true, true, false, true, true, true, true, false, false, false, false, false, false] (by rfl) (v := ?_) rfl rfl (by kernel_rfl) (by kernel_rfl) (by kernel_rfl) (by kernel_rfl) (fun _ _ _ h => h) (by rfl) ?_ (Till.mk' hS4 trivial) ?_
  rotate_left
  · intro W hS; go_simp; all_goals with_reducible rfl
  try simp only [List.setIfInBounds_toArray, List.set_cons_succ, List.set_cons_zero]
  refine reg_take 7 23 6 #[true, true, true, true, true, true, true, true, true, true, true, true, false, false, false, false, false, false] (by rfl) (v := ?_) rfl rfl (by kernel_rfl) (by kernel_rfl) (by kernel_rfl) (by kernel_rfl) (fun _ _ _ h => h) (by rfl) ?_ (Till.mk' hS4 trivial) ?_
  rotate_left
  · intro W hS; have c1 := cellT hS hc4; go_simp; all_goals with_reducible rfl
  try simp only [List.setIfInBounds_toArray, List.set_cons_succ, List.set_cons_zero]
  refine reg_one 12 5 #[true, true, true, true, true, true, true, true, true, true, true, true, true, false, false, false, false, false] (by kernel_rfl) rfl (by rfl) (by kernel_rfl) (fun K hK => ?_)
  go_simp
  refine (WI.out _).mono ?_
  rintro e ww ⟨rfl, rfl⟩
  refine hK _ _ (Till.mk' hS4 trivial) ?_
  clear hK K
  try simp only [List.setIfInBounds_toArray, List.set_cons_succ, List.set_cons_zero]
  refine reg_take 13 29 4 #[true, true, true, true, true, true, true, true, true, true, true, true, true, true, false, false, false, false] (by rfl) (v := ?_) rfl rfl (by kernel_rfl) (by kernel_rfl) (by kernel_rfl) (by kernel_rfl) (fun _ _ _ h => h) (by rfl) ?_ (Till.mk' hS4 trivial) ?_
  rotate_left
  · intro W hS; go_simp; all_goals with_reducible rfl
  try simp only [List.setIfInBounds_toArray, List.set_cons_succ, List.set_cons_zero]
  refine reg_take 14 30 3 #[true, true, true, true, true, true, true, true, true, true, true, true, true, true, true, false, false, false] (by rfl) (v := ?_) rfl rfl (by kernel_rfl) (by kernel_rfl) (by kernel_rfl) (by kernel_rfl) (fun _ _ _ h => h) (by rfl) ?_ (Till.mk' hS4 trivial) ?_
  rotate_left
  · intro W hS; have c1 := cellT hS hc4; go_simp; all_goals with_reducible rfl
  try simp only [List.setIfInBounds_toArray, List.set_cons_succ, List.set_cons_zero]
  refine reg_take 15 31 2 #[true, true, true, true, true, true, true, true, true, true, true, true, true, true, true, true, false, false] (by rfl) (v := ?_) rfl rfl (by kernel_rfl) (by kernel_rfl) (by kernel_rfl) (by kernel_rfl) (fun _ _ _ h => h) (by rfl) ?_ (Till.mk' hS4 trivial) ?_
  rotate_left
  · intro W hS; go_simp; all_goals with_reducible rfl
  try simp only [List.setIfInBounds_toArray, List.set_cons_succ, List.set_cons_zero]
  refine reg_one 16 1 #[true, true, true, true, true, true, true, true, true, true, true, true, true, true, true, true, true, false] (by kernel_rfl) rfl (by rfl) (by kernel_rfl) (fun K hK => ?_)
  go_simp
  refine hK _ _ (Till.mk' hS5 trivial) ?_
  clear hK K
  try simp only [List.setIfInBounds_toArray, List.set_cons_succ, List.set_cons_zero]
  refine reg_take 17 6 0 #[true, true, true, true, true, true, true, true, true, true, true, true, true, true, true, true, true, true] (by rfl) (v := ?_) rfl rfl (by kernel_rfl) (by kernel_rfl) (by kernel_rfl) (by kernel_rfl) (fun _ _ _ h => h) (by rfl) ?_ (Till.mk' hS5 trivial) ?_
  rotate_left
  · intro W hS; go_simp; all_goals with_reducible rfl
  try simp only [List.setIfInBounds_toArray, List.set_cons_succ, List.set_cons_zero]
  refine reg_done (by kernel_rfl) ?_ _
  obtain ⟨w6, hw6⟩ : ∃ w6, w6 = (w4.alloc (.cells #[.string nm, .string r, .string (r ++ ⟨#[95]⟩)] 9)).drew := ⟨_, rfl⟩
  have hbr' : Blk w6 w4.heap.size ((rowsL nm r).map Value.string) 9 := by rw [hw6]; exact hbr
  replace bel6 : Below w.heap.size w w6 := by rw [hw6]; exact bel6
  have hw6' := Lib.hid hw6
  clear hbr hS4 hS5 hc4 hw6
  have rsz : ∀ (k : Nat) (hk : k < (rowsL nm r).length), (rowsL nm r)[k].size ≤ 9223372036854775807 := by
    intro k hk
    have : ∀ t ∈ rowsL nm r, t.size ≤ 9223372036854775807 := by
      intro t ht
      simp [rowsL] at ht
      rcases ht with rfl | rfl | rfl
      · exact hnm
      · omega
      · rw [ByteArray.size_append]; show _ + 1 ≤ _; omega
    exact this _ (List.getElem_mem hk)
  go_wp2_with fail
  rw [← hw6'.out]
  generalize w4.heap.size = rb at *
  go_loopw [7] (fun i wr => ∃ k : Nat, k ≤ 3 ∧ i = .int .i64 k ∧ Turns [] w6 wr) (fun i _ => 3 - (intOf i).toNat)
  case atStart => exact ⟨0, by omega, rfl, Turns.refl _ _⟩
  case round =>
    obtain ⟨k, hk, rfl, tr⟩ := hrel
    by_cases hlt : k < 3
    · have hlr : k < (rowsL nm r).length := hlt
      have ht := rsz k hlr
      have hc6 : w6.cell? ⟨rb, k, none⟩ = some (.string (rowsL nm r)[k]) := by
        rw [hbr'.cell k, List.getElem?_map, List.getElem?_eq_getElem hlr]; rfl
      generalize (rowsL nm r)[k] = t at hc6 ht
      have hcw := cellT tr hc6
      have hlb : rb < wr.heap.size := World.block_lt_of_cell? _ _ hcw
      have hcw2 : ∀ o o', ((wr.alloc o).alloc o').cell? ⟨rb, k, none⟩ = some (.string t) := fun o o' => by rw [World.cell?_alloc_lt _ _ _ (by simp; omega), World.cell?_alloc_lt _ _ _ hlb]; exact hcw
      obtain ⟨q, hq⟩ : ∃ q, q = wr.heap.size := ⟨_, rfl⟩
      obtain ⟨wa, hwa⟩ : ∃ wa, wa = wr.alloc (.cells #[.string ⟨#[97]⟩, .int .i64 2, .bool false] 27) := ⟨_, rfl⟩
      have A0 : Blk wa q (colCells [⟨⟨#[97]⟩, 2, false⟩]) 27 := by rw [hwa, hq]; exact Blk.new wr (colCells [⟨⟨#[97]⟩, 2, false⟩]) 27
      have ta : Turns [] wr wa := by rw [hwa]; exact (Turns.refl _ _).alloc _
      have sa : wa.heap.size = q + 1 := by rw [hwa, hq]; simp
      obtain ⟨wb, hwb⟩ : ∃ wb, wb = wa.alloc (.cells #[.string t, .slice (some ⟨q, 0, none⟩) 1 1, .int .i64 0, .bool false] 30) := ⟨_, rfl⟩
      have B0 : Blk wb (q + 1) [.string t, .slice (some ⟨q, 0, none⟩) 1 1, .int .i64 0, .bool false] 30 := by rw [hwb, ← sa]; exact Blk.new wa [.string t, .slice (some ⟨q, 0, none⟩) 1 1, .int .i64 0, .bool false] 30
      have tb : Turns [] wa wb := by rw [hwb]; exact (Turns.refl _ _).alloc _
      have sb : wb.heap.size = q + 1 + 1 := by rw [hwb]; simp [sa]
      obtain ⟨wc, hwc⟩ : ∃ wc, wc = wb.alloc (.cells #[.string t, .int .i64 2, .bool false] 27) := ⟨_, rfl⟩
      have C0 : Blk wc (q + 1 + 1) (colCells [⟨t, 2, false⟩]) 27 := by rw [hwc, ← sb]; exact Blk.new wb (colCells [⟨t, 2, false⟩]) 27
      have tc : Turns [] wb wc := by rw [hwc]; exact (Turns.refl _ _).alloc _
      have sc : wc.heap.size = q + 1 + 1 + 1 := by rw [hwc]; simp [sb]
      obtain ⟨w5, hw5⟩ : ∃ w5, w5 = wc.alloc (.cells #[.string ⟨#[120]⟩, .slice (some ⟨q + 1 + 1, 0, none⟩) 1 1, .int .i64 0, .bool false] 30) := ⟨_, rfl⟩
      have D0 : Blk w5 (q + 1 + 1 + 1) [.string ⟨#[120]⟩, .slice (some ⟨q + 1 + 1, 0, none⟩) 1 1, .int .i64 0, .bool false] 30 := by rw [hw5, ← sc]; exact Blk.new wc [.string ⟨#[120]⟩, .slice (some ⟨q + 1 + 1, 0, none⟩) 1 1, .int .i64 0, .bool false] 30
      have td : Turns [] wc w5 := by rw [hw5]; exact (Turns.refl _ _).alloc _
      have hw5' : w5 = (((wr.alloc (.cells #[.string ⟨#[97]⟩, .int .i64 2, .bool false] 27)).alloc (.cells #[.string t, .slice (some ⟨q, 0, none⟩) 1 1, .int .i64 0, .bool false] 30)).alloc (.cells #[.string t, .int .i64 2, .bool false] 27)).alloc (.cells #[.string ⟨#[120]⟩, .slice (some ⟨q + 1 + 1, 0, none⟩) 1 1, .int .i64 0, .bool false] 30) := by rw [hw5, hwc, hwb, hwa]
      have A5 := ((A0.turns tb (by simp)).turns tc (by simp)).turns td (by simp)
      have B5' := (B0.turns tc (by simp)).turns td (by simp)
      have C5 := C0.turns td (by simp)
      have rs1 := B5'.range 0 4
      have rs2 := D0.range 0 4
      have sl1 := A5.sl 0 1 1 3 (by simp [colCells, Col.cells]) (Nat.le_refl _) (by simp [maxLen])
      have sl2 := C5.sl 0 1 1 3 (by simp [colCells, Col.cells]) (Nat.le_refl _) (by simp [maxLen])
      rw [List.drop_zero, List.take_of_length_le (by simp [colCells, Col.cells])] at sl1 sl2
      have t05 := ((ta.trans tb (by simp)).trans tc (by simp)).trans td (by simp)
      have hcr := cellT t05 hcw
      have hS5 : Turns [] w5 w5.drew := (Turns.refl _ _).drew
      have hB5 : w5.heap.size ≤ w5.drew.heap.size := Nat.le_refl _
      have hsz30 : (Try.prog.info? 30).map (·.size) = some (List.take 4 (List.drop 0 ([.string t, .slice (some ⟨q, 0, none⟩) 1 1, .int .i64 0, .bool false] : List Value))).length := by kernel_rfl
      have hsz30' : (Try.prog.info? 30).map (·.size) = some (List.take 4 (List.drop 0 ([.string ⟨#[120]⟩, .slice (some ⟨q + 1 + 1, 0, none⟩) 1 1, .int .i64 0, .bool false] : List Value))).length := by kernel_rfl
      have k1 := one1 t
      have k2 := one2 t
      have H5 := Lib.hid hw5'
      have HQ := Lib.hid hq
      clear hw5' A0 B0 C0 D0 A5 B5' C5 ta tb tc td hwa hwb hwc hw5 sa sb sc hq
      cases hnv : nameOk t
      · have hk1 : checkS ⟨t, [⟨⟨#[97]⟩, 2, false⟩], 0, false⟩ = 12 := by rw [k1, hnv]; rfl
        have hk2 : checkS ⟨⟨#[120]⟩, [⟨t, 2, false⟩], 0, false⟩ = 12 := by rw [k2, hnv]; rfl
        clear k1 k2
        go_wp2_with fail
        rw [← HQ.out, ← H5.out]
        refine reg_begin (fun W => Turns [] w5 W) (fun _ => True) 20 20 #[false, false, false, false, false, false, false, false, false, false, false, false, false, false, false, false, false, false, false, false] (by kernel_rfl) (by kernel_rfl) (by kernel_rfl) ?_
        refine reg_take_y 0 51 19 #[true, false, false, false, false, false, false, false, false, false, false, false, false, false, false, false, false, false, false, false] (by rfl) rfl rfl (by kernel_rfl) (by kernel_rfl) (by kernel_rfl) (by kernel_rfl) (fun _ _ _ h => h) (yieldsIf_load_mid (by rfl) _ _ rfl (q + 1) 0 (by rfl) _ _ (fun W hS => rangeT hS rs1) Try.underlying30 rfl hsz30) (Till.mk' hS5 trivial) ?_
        try simp only [List.setIfInBounds_toArray, List.set_cons_succ, List.set_cons_zero]
        refine reg_take 3 54 18 #[true, false, false, true, false, false, false, false, false, false, false, false, false, false, false, false, false, false, false, false] (by rfl) (v := ?_) rfl rfl (by kernel_rfl) (by kernel_rfl) (by kernel_rfl) (by kernel_rfl) (fun _ _ _ h => h) (by rfl) ?_ (Till.mk' hS5 trivial) ?_
        rotate_left
        · intro W hS; go_simp; all_goals with_reducible rfl
        try simp only [List.setIfInBounds_toArray, List.set_cons_succ, List.set_cons_zero]
        refine reg_take 4 55 17 #[true, false, false, true, true, false, false, false, false, false, false, false, false, false, false, false, false, false, false, false] (by rfl) (v := ?_) rfl rfl (by kernel_rfl) (by kernel_rfl) (by kernel_rfl) (by kernel_rfl) (fun _ _ _ h => h) (by rfl) ?_ (Till.mk' hS5 trivial) ?_
        rotate_left
        · intro W hS; go_simp; all_goals with_reducible rfl
        try simp only [List.setIfInBounds_toArray, List.set_cons_succ, List.set_cons_zero]
        refine reg_take 5 56 16 #[true, false, false, true, true, true, false, false, false, false, false, false, false, false, false, false, false, false, false, false] (by rfl) (v := ?_) rfl rfl (by kernel_rfl) (by kernel_rfl) (by kernel_rfl) (by kernel_rfl) (fun _ _ _ h => h) (by rfl) ?_ (Till.mk' hS5 trivial) ?_
        rotate_left
        · intro W hS; go_simp; all_goals with_reducible rfl
        try simp only [List.setIfInBounds_toArray, List.set_cons_succ, List.set_cons_zero]
        refine reg_take 6 57 15 #[true, false, false, true, true, true, true, false, false, false, false, false, false, false, false, false, false, false, false, false] (by rfl) (v := ?_) rfl rfl (by kernel_rfl) (by kernel_rfl) (by kernel_rfl) (by kernel_rfl) (fun _ _ _ h => h) (by rfl) ?_ (Till.mk' hS5 trivial) ?_
        rotate_left
        · intro W hS; have c1 := cellT hS hcr; go_simp; all_goals with_reducible rfl
        try simp only [List.setIfInBounds_toArray, List.set_cons_succ, List.set_cons_zero]
        refine reg_one 1 14 #[true, true, false, true, true, true, true, false, false, false, false, false, false, false, false, false, false, false, false, false] (by kernel_rfl) rfl (by rfl) (by kernel_rfl) (fun K hK => ?_)
        go_simp
        refine (Check_any ⟨t, [⟨⟨#[97]⟩, 2, false⟩], 0, false⟩ _ 1 1 w5.heap.size _ (fits1 t ht) (by exact sl1.turnsT hS5) hB5).mono ?_
        rintro e w6 ⟨rfl, t6⟩
        have hS6 := hS5.trans t6 (by simp)
        rw [hk1]
        refine hK _ _ (Till.mk' hS6 trivial) ?_
        clear hK K
        try simp only [List.setIfInBounds_toArray, List.set_cons_succ, List.set_cons_zero]
        refine reg_take 2 53 13 #[true, true, true, true, true, true, true, false, false, false, false, false, false, false, false, false, false, false, false, false] (by rfl) (v := ?_) rfl rfl (by kernel_rfl) (by kernel_rfl) (by kernel_rfl) (by kernel_rfl) (fun _ _ _ h => h) (by rfl) ?_ (Till.mk' hS6 trivial) ?_
        rotate_left
        · intro W hS; go_simp; all_goals with_reducible rfl
        try simp only [List.setIfInBounds_toArray, List.set_cons_succ, List.set_cons_zero]
        refine reg_one 7 12 #[true, true, true, true, true, true, true, true, false, false, false, false, false, false, false, false, false, false, false, false] (by kernel_rfl) rfl (by rfl) (by kernel_rfl) (fun K hK => ?_)
        go_simp
        refine (refName_any t ht _).mono ?_
        rintro e w7 ⟨rfl, t7⟩
        have hS7 := hS6.trans t7 (by simp)
        have hB7 := hS7.size
        rw [hnv]
        refine hK _ _ (Till.mk' hS7 trivial) ?_
        clear hK K
        try simp only [List.setIfInBounds_toArray, List.set_cons_succ, List.set_cons_zero]
        refine reg_take 8 59 11 #[true, true, true, true, true, true, true, true, true, false, false, false, false, false, false, false, false, false, false, false] (by rfl) (v := ?_) rfl rfl (by kernel_rfl) (by kernel_rfl) (by kernel_rfl) (by kernel_rfl) (fun _ _ _ h => h) (by rfl) ?_ (Till.mk' hS7 trivial) ?_
        rotate_left
        · intro W hS; go_simp; all_goals with_reducible rfl
        try simp only [List.setIfInBounds_toArray, List.set_cons_succ, List.set_cons_zero]
        refine reg_take 9 60 10 #[true, true, true, true, true, true, true, true, true, true, false, false, false, false, false, false, false, false, false, false] (by rfl) (v := ?_) rfl rfl (by kernel_rfl) (by kernel_rfl) (by kernel_rfl) (by kernel_rfl) (fun _ _ _ h => h) (by rfl) ?_ (Till.mk' hS7 trivial) ?_
        rotate_left
        · intro W hS; go_simp; all_goals with_reducible rfl
        try simp only [List.setIfInBounds_toArray, List.set_cons_succ, List.set_cons_zero]
        refine reg_take_y 10 61 9 #[true, true, true, true, true, true, true, true, true, true, true, false, false, false, false, false, false, false, false, false] (by rfl) rfl rfl (by kernel_rfl) (by kernel_rfl) (by kernel_rfl) (by kernel_rfl) (fun _ _ _ h => h) (yieldsIf_load_mid (by rfl) _ _ rfl (q + 1 + 1 + 1) 0 (by rfl) _ _ (fun W hS => rangeT hS rs2) Try.underlying30 rfl hsz30') (Till.mk' hS7 trivial) ?_
        try simp only [List.setIfInBounds_toArray, List.set_cons_succ, List.set_cons_zero]
        refine reg_take 13 64 8 #[true, true, true, true, true, true, true, true, true, true, true, false, false, true, false, false, false, false, false, false] (by rfl) (v := ?_) rfl rfl (by kernel_rfl) (by kernel_rfl) (by kernel_rfl) (by kernel_rfl) (fun _ _ _ h => h) (by rfl) ?_ (Till.mk' hS7 trivial) ?_
        rotate_left
        · intro W hS; go_simp; all_goals with_reducible rfl
        try simp only [List.setIfInBounds_toArray, List.set_cons_succ, List.set_cons_zero]
        refine reg_take 14 65 7 #[true, true, true, true, true, true, true, true, true, true, true, false, false, true, true, false, false, false, false, false] (by rfl) (v := ?_) rfl rfl (by kernel_rfl) (by kernel_rfl) (by kernel_rfl) (by kernel_rfl) (fun _ _ _ h => h) (by rfl) ?_ (Till.mk' hS7 trivial) ?_
        rotate_left
        · intro W hS; go_simp; all_goals with_reducible rfl
        try simp only [List.setIfInBounds_toArray, List.set_cons_succ, List.set_cons_zero]
        refine reg_take 15 66 6 #[true, true, true, true, true, true, true, true, true, true, true, false, false, true, true, true, false, false, false, false] (by rfl) (v := ?_) rfl rfl (by kernel_rfl) (by kernel_rfl) (by kernel_rfl) (by kernel_rfl) (fun _ _ _ h => h) (by rfl) ?_ (Till.mk' hS7 trivial) ?_
        rotate_left
        · intro W hS; go_simp; all_goals with_reducible rfl
        try simp only [List.setIfInBounds_toArray, List.set_cons_succ, List.set_cons_zero]
        refine reg_take 16 67 5 #[true, true, true, true, true, true, true, true, true, true, true, false, false, true, true, true, true, false, false, false] (by rfl) (v := ?_) rfl rfl (by kernel_rfl) (by kernel_rfl) (by kernel_rfl) (by kernel_rfl) (fun _ _ _ h => h) (by rfl) ?_ (Till.mk' hS7 trivial) ?_
        rotate_left
        · intro W hS; have c1 := cellT hS hcr; go_simp; all_goals with_reducible rfl
        try simp only [List.setIfInBounds_toArray, List.set_cons_succ, List.set_cons_zero]
        refine reg_one 11 4 #[true, true, true, true, true, true, true, true, true, true, true, true, false, true, true, true, true, false, false, false] (by kernel_rfl) rfl (by rfl) (by kernel_rfl) (fun K hK => ?_)
        go_simp
        refine (Check_any ⟨⟨#[120]⟩, [⟨t, 2, false⟩], 0, false⟩ _ 1 1 w5.heap.size _ (fits2 t ht) (by exact sl2.turnsT hS7) hB7).mono ?_
        rintro e w8 ⟨rfl, t8⟩
        have hS8 := hS7.trans t8 (by simp)
        rw [hk2]
        refine hK _ _ (Till.mk' hS8 trivial) ?_
        clear hK K
        try simp only [List.setIfInBounds_toArray, List.set_cons_succ, List.set_cons_zero]
        refine reg_take 12 63 3 #[true, true, true, true, true, true, true, true, true, true, true, true, true, true, true, true, true, false, false, false] (by rfl) (v := ?_) rfl rfl (by kernel_rfl) (by kernel_rfl) (by kernel_rfl) (by kernel_rfl) (fun _ _ _ h => h) (by rfl) ?_ (Till.mk' hS8 trivial) ?_
        rotate_left
        · intro W hS; go_simp; all_goals with_reducible rfl
        try simp only [List.setIfInBounds_toArray, List.set_cons_succ, List.set_cons_zero]
        refine reg_one 17 2 #[true, true, true, true, true, true, true, true, true, true, true, true, true, true, true, true, true, true, false, false] (by kernel_rfl) rfl (by rfl) (by kernel_rfl) (fun K hK => ?_)
        go_simp
        refine (refName_any t ht _).mono ?_
        rintro e w9 ⟨rfl, t9⟩
        have hS9 := hS8.trans t9 (by simp)
        rw [hnv]
        refine hK _ _ (Till.mk' hS9 trivial) ?_
        clear hK K
        try simp only [List.setIfInBounds_toArray, List.set_cons_succ, List.set_cons_zero]
        refine reg_take 18 69 1 #[true, true, true, true, true, true, true, true, true, true, true, true, true, true, true, true, true, true, true, false] (by rfl) (v := ?_) rfl rfl (by kernel_rfl) (by kernel_rfl) (by kernel_rfl) (by kernel_rfl) (fun _ _ _ h => h) (by rfl) ?_ (Till.mk' hS9 trivial) ?_
        rotate_left
        · intro W hS; go_simp; all_goals with_reducible rfl
        try simp only [List.setIfInBounds_toArray, List.set_cons_succ, List.set_cons_zero]
        refine reg_take 19 70 0 #[true, true, true, true, true, true, true, true, true, true, true, true, true, true, true, true, true, true, true, true] (by rfl) (v := ?_) rfl rfl (by kernel_rfl) (by kernel_rfl) (by kernel_rfl) (by kernel_rfl) (fun _ _ _ h => h) (by rfl) ?_ (Till.mk' hS9 trivial) ?_
        rotate_left
        · intro W hS; go_simp; all_goals with_reducible rfl
        try simp only [List.setIfInBounds_toArray, List.set_cons_succ, List.set_cons_zero]
        refine reg_done (by kernel_rfl) ?_ _
        go_wp2_with fail
        go_roundw
        case rel => exact ⟨k + 1, by omega, by go_num, tr.trans (t05.trans hS9 (by simp)) (by simp)⟩
        case measure => (simp [intOf] <;> omega)
      · have hk1 : checkS ⟨t, [⟨⟨#[97]⟩, 2, false⟩], 0, false⟩ = 0 := by rw [k1, hnv]; rfl
        have hk2 : checkS ⟨⟨#[120]⟩, [⟨t, 2, false⟩], 0, false⟩ = 0 := by rw [k2, hnv]; rfl
        clear k1 k2
        go_wp2_with fail
        rw [← HQ.out, ← H5.out]
        refine reg_begin (fun W => Turns [] w5 W) (fun _ => True) 20 20 #[false, false, false, false, false, false, false, false, false, false, false, false, false, false, false, false, false, false, false, false] (by kernel_rfl) (by kernel_rfl) (by kernel_rfl) ?_
        refine reg_take_y 0 51 19 #[true, false, false, false, false, false, false, false, false, false, false, false, false, false, false, false, false, false, false, false] (by rfl) rfl rfl (by kernel_rfl) (by kernel_rfl) (by kernel_rfl) (by kernel_rfl) (fun _ _ _ h => h) (yieldsIf_load_mid (by rfl) _ _ rfl (q + 1) 0 (by rfl) _ _ (fun W hS => rangeT hS rs1) Try.underlying30 rfl hsz30) (Till.mk' hS5 trivial) ?_
        try simp only [List.setIfInBounds_toArray, List.set_cons_succ, List.set_cons_zero]
        refine reg_take 3 54 18 #[true, false, false, true, false, false, false, false, false, false, false, false, false, false, false, false, false, false, false, false] (by rfl) (v := ?_) rfl rfl (by kernel_rfl) (by kernel_rfl) (by kernel_rfl) (by kernel_rfl) (fun _ _ _ h => h) (by rfl) ?_ (Till.mk' hS5 trivial) ?_
        rotate_left
        · intro W hS; go_simp; all_goals with_reducible rfl
        try simp only [List.setIfInBounds_toArray, List.set_cons_succ, List.set_cons_zero]
        refine reg_take 4 55 17 #[true, false, false, true, true, false, false, false, false, false, false, false, false, false, false, false, false, false, false, false] (by rfl) (v := ?_) rfl rfl (by kernel_rfl) (by kernel_rfl) (by kernel_rfl) (by kernel_rfl) (fun _ _ _ h => h) (by rfl) ?_ (Till.mk' hS5 trivial) ?_
        rotate_left
        · intro W hS; go_simp; all_goals with_reducible rfl
        try simp only [List.setIfInBounds_toArray, List.set_cons_succ, List.set_cons_zero]
        refine reg_take 5 56 16 #[true, false, false, true, true, true, false, false, false, false, false, false, false, false, false, false, false, false, false, false] (by rfl) (v := ?_) rfl rfl (by kernel_rfl) (by kernel_rfl) (by kernel_rfl) (by kernel_rfl) (fun _ _ _ h => h) (by rfl) ?_ (Till.mk' hS5 trivial) ?_
        rotate_left
        · intro W hS; go_simp; all_goals with_reducible rfl
        try simp only [List.setIfInBounds_toArray, List.set_cons_succ, List.set_cons_zero]
        refine reg_take 6 57 15 #[true, false, false, true, true, true, true, false, false, false, false, false, false, false, false, false, false, false, false, false] (by rfl) (v := ?_) rfl rfl (by kernel_rfl) (by kernel_rfl) (by kernel_rfl) (by kernel_rfl) (fun _ _ _ h => h) (by rfl) ?_ (Till.mk' hS5 trivial) ?_
        rotate_left
        · intro W hS; have c1 := cellT hS hcr; go_simp; all_goals with_reducible rfl
        try simp only [List.setIfInBounds_toArray, List.set_cons_succ, List.set_cons_zero]
        refine reg_one 1 14 #[true, true, false, true, true, true, true, false, false, false, false, false, false, false, false, false, false, false, false, false] (by kernel_rfl) rfl (by rfl) (by kernel_rfl) (fun K hK => ?_)
        go_simp
        refine (Check_any ⟨t, [⟨⟨#[97]⟩, 2, false⟩], 0, false⟩ _ 1 1 w5.heap.size _ (fits1 t ht) (by exact sl1.turnsT hS5) hB5).mono ?_
        rintro e w6 ⟨rfl, t6⟩
        have hS6 := hS5.trans t6 (by simp)
        rw [hk1]
        refine hK _ _ (Till.mk' hS6 trivial) ?_
        clear hK K
        try simp only [List.setIfInBounds_toArray, List.set_cons_succ, List.set_cons_zero]
        refine reg_take 2 53 13 #[true, true, true, true, true, true, true, false, false, false, false, false, false, false, false, false, false, false, false, false] (by rfl) (v := ?_) rfl rfl (by kernel_rfl) (by kernel_rfl) (by kernel_rfl) (by kernel_rfl) (fun _ _ _ h => h) (by rfl) ?_ (Till.mk' hS6 trivial) ?_
        rotate_left
        · intro W hS; go_simp; all_goals with_reducible rfl
        try simp only [List.setIfInBounds_toArray, List.set_cons_succ, List.set_cons_zero]
        refine reg_one 7 12 #[true, true, true, true, true, true, true, true, false, false, false, false, false, false, false, false, false, false, false, false] (by kernel_rfl) rfl (by rfl) (by kernel_rfl) (fun K hK => ?_)
        go_simp
        refine (refName_any t ht _).mono ?_
        rintro e w7 ⟨rfl, t7⟩
        have hS7 := hS6.trans t7 (by simp)
        have hB7 := hS7.size
        rw [hnv]
        refine hK _ _ (Till.mk' hS7 trivial) ?_
        clear hK K
        try simp only [List.setIfInBounds_toArray, List.set_cons_succ, List.set_cons_zero]
        refine reg_take 8 59 11 #[true, true, true, true, true, true, true, true, true, false, false, false, false, false, false, false, false, false, false, false] (by rfl) (v := ?_) rfl rfl (by kernel_rfl) (by kernel_rfl) (by kernel_rfl) (by kernel_rfl) (fun _ _ _ h => h) (by rfl) ?_ (Till.mk' hS7 trivial) ?_
        rotate_left
        · intro W hS; go_simp; all_goals with_reducible rfl
        try simp only [List.setIfInBounds_toArray, List.set_cons_succ, List.set_cons_zero]
        refine reg_take 9 60 10 #[true, true, true, true, true, true, true, true, true, true, false, false, false, false, false, false, false, false, false, false] (by rfl) (v := ?_) rfl rfl (by kernel_rfl) (by kernel_rfl) (by kernel_rfl) (by kernel_rfl) (fun _ _ _ h => h) (by rfl) ?_ (Till.mk' hS7 trivial) ?_
        rotate_left
        · intro W hS; go_simp; all_goals with_reducible rfl
        try simp only [List.setIfInBounds_toArray, List.set_cons_succ, List.set_cons_zero]
        refine reg_take_y 10 61 9 #[true, true, true, true, true, true, true, true, true, true, true, false, false, false, false, false, false, false, false, false] (by rfl) rfl rfl (by kernel_rfl) (by kernel_rfl) (by kernel_rfl) (by kernel_rfl) (fun _ _ _ h => h) (yieldsIf_load_mid (by rfl) _ _ rfl (q + 1 + 1 + 1) 0 (by rfl) _ _ (fun W hS => rangeT hS rs2) Try.underlying30 rfl hsz30') (Till.mk' hS7 trivial) ?_
        try simp only [List.setIfInBounds_toArray, List.set_cons_succ, List.set_cons_zero]
        refine reg_take 13 64 8 #[true, true, true, true, true, true, true, true, true, true, true, false, false, true, false, false, false, false, false, false] (by rfl) (v := ?_) rfl rfl (by kernel_rfl) (by kernel_rfl) (by kernel_rfl) (by kernel_rfl) (fun _ _ _ h => h) (by rfl) ?_ (Till.mk' hS7 trivial) ?_
        rotate_left
        · intro W hS; go_simp; all_goals with_reducible rfl
        try simp only [List.setIfInBounds_toArray, List.set_cons_succ, List.set_cons_zero]
        refine reg_take 14 65 7 #[true, true, true, true, true, true, true, true, true, true, true, false, false, true, true, false, false, false, false, false] (by rfl) (v := ?_) rfl rfl (by kernel_rfl) (by kernel_rfl) (by kernel_rfl) (by kernel_rfl) (fun _ _ _ h => h) (by rfl) ?_ (Till.mk' hS7 trivial) ?_
        rotate_left
        · intro W hS; go_simp; all_goals with_reducible rfl
        try simp only [List.setIfInBounds_toArray, List.set_cons_succ, List.set_cons_zero]
        refine reg_take 15 66 6 #[true, true, true, true, true, true, true, true, true, true, true, false, false, true, true, true, false, false, false, false] (by rfl) (v := ?_) rfl rfl (by kernel_rfl) (by kernel_rfl) (by kernel_rfl) (by kernel_rfl) (fun _ _ _ h => h) (by rfl) ?_ (Till.mk' hS7 trivial) ?_
        rotate_left
        · intro W hS; go_simp; all_goals with_reducible rfl
        try simp only [List.setIfInBounds_toArray, List.set_cons_succ, List.set_cons_zero]
        refine reg_take 16 67 5 #[true, true, true, true, true, true, true, true, true, true, true, false, false, true, true, true, true, false, false, false] (by rfl) (v := ?_) rfl rfl (by kernel_rfl) (by kernel_rfl) (by kernel_rfl) (by kernel_rfl) (fun _ _ _ h => h) (by rfl) ?_ (Till.mk' hS7 trivial) ?_
        rotate_left
        · intro W hS; have c1 := cellT hS hcr; go_simp; all_goals with_reducible rfl
        try simp only [List.setIfInBounds_toArray, List.set_cons_succ, List.set_cons_zero]
        refine reg_one 11 4 #[true, true, true, true, true, true, true, true, true, true, true, true, false, true, true, true, true, false, false, false] (by kernel_rfl) rfl (by rfl) (by kernel_rfl) (fun K hK => ?_)
        go_simp
        refine (Check_any ⟨⟨#[120]⟩, [⟨t, 2, false⟩], 0, false⟩ _ 1 1 w5.heap.size _ (fits2 t ht) (by exact sl2.turnsT hS7) hB7).mono ?_
        rintro e w8 ⟨rfl, t8⟩
        have hS8 := hS7.trans t8 (by simp)
        rw [hk2]
        refine hK _ _ (Till.mk' hS8 trivial) ?_
        clear hK K
        try simp only [List.setIfInBounds_toArray, List.set_cons_succ, List.set_cons_zero]
        refine reg_take 12 63 3 #[true, true, true, true, true, true, true, true, true, true, true, true, true, true, true, true, true, false, false, false] (by rfl) (v := ?_) rfl rfl (by kernel_rfl) (by kernel_rfl) (by kernel_rfl) (by kernel_rfl) (fun _ _ _ h => h) (by rfl) ?_ (Till.mk' hS8 trivial) ?_
        rotate_left
        · intro W hS; go_simp; all_goals with_reducible rfl
        try simp only [List.setIfInBounds_toArray, List.set_cons_succ, List.set_cons_zero]
        refine reg_one 17 2 #[true, true, true, true, true, true, true, true, true, true, true, true, true, true, true, true, true, true, false, false] (by kernel_rfl) rfl (by rfl) (by kernel_rfl) (fun K hK => ?_)
        go_simp
        refine (refName_any t ht _).mono ?_
        rintro e w9 ⟨rfl, t9⟩
        have hS9 := hS8.trans t9 (by simp)
        rw [hnv]
        refine hK _ _ (Till.mk' hS9 trivial) ?_
        clear hK K
        try simp only [List.setIfInBounds_toArray, List.set_cons_succ, List.set_cons_zero]
        refine reg_take 18 69 1 #[true, true, true, true, true, true, true, true, true, true, true, true, true, true, true, true, true, true, true, false] (by rfl) (v := ?_) rfl rfl (by kernel_rfl) (by kernel_rfl) (by kernel_rfl) (by kernel_rfl) (fun _ _ _ h => h) (by rfl) ?_ (Till.mk' hS9 trivial) ?_
        rotate_left
        · intro W hS; go_simp; all_goals with_reducible rfl
        try simp only [List.setIfInBounds_toArray, List.set_cons_succ, List.set_cons_zero]
        refine reg_take 19 70 0 #[true, true, true, true, true, true, true, true, true, true, true, true, true, true, true, true, true, true, true, true] (by rfl) (v := ?_) rfl rfl (by kernel_rfl) (by kernel_rfl) (by kernel_rfl) (by kernel_rfl) (fun _ _ _ h => h) (by rfl) ?_ (Till.mk' hS9 trivial) ?_
        rotate_left
        · intro W hS; go_simp; all_goals with_reducible rfl
        try simp only [List.setIfInBounds_toArray, List.set_cons_succ, List.set_cons_zero]
        refine reg_done (by kernel_rfl) ?_ _
        go_wp2_with fail
        go_roundw
        case rel => exact ⟨k + 1, by omega, by go_num, tr.trans (t05.trans hS9 (by simp)) (by simp)⟩
        case measure => (simp [intOf] <;> omega)
    · have : k = 3 := by omega
      subst this
      have bel9 := bel6.trans ((tr.below (Nat.le_refl _) (by simp)).mono bel6.size)
      go_wp2_with fail
      go_ret
      exact ⟨rfl, bel9⟩
end Go.Proofs.Ytdllgnccjejhiaa
