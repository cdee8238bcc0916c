/- A new disk. -/
import Derived.Test.YtdhbaepmbgoobaaDisk
namespace Go.Proofs.Ytdhbaepmbgoobaa
open Go.RowKit
set_option linter.unusedVariables false
set_option maxRecDepth 10000
set_option linter.unusedSimpArgs false
set_option linter.unnecessarySimpa false

theorem T61 : SliceTy Try.prog 63 99 (.agg (Array.replicate 64 (.int .u8 0))) 64 64 := ⟨Try.underlying63, by kernel_rfl, by kernel_rfl, by omega⟩
theorem T63 : SliceTy Try.prog 64 101 (.agg (#[.int .i64 0] ++ Array.replicate 64 (.int .u8 0))) 65 72 := ⟨Try.underlying64, by kernel_rfl, by kernel_rfl, by omega⟩

theorem zeros64_bvs (n : Nat) : madeCells (Array.replicate 64 (Value.int .u8 0)) n = (bvs (List.replicate n (0 : UInt8))).toArray := by
  apply Array.ext'
  apply List.ext_getElem?
  intro i
  by_cases h : i < n
  · have : i % 64 < 64 := Nat.mod_lt _ (by omega)
    simp [madeCells, bvs, u8v, List.getElem?_replicate, h, this]
  · simp [madeCells, bvs, u8v, List.getElem?_replicate, h]

theorem run_make_pages (p : Nat) (hp : p ≤ 4096) (w : World) :
    (Instr.makeSlice 63 (.int .i64 (p : Int)) (.int .i64 (p : Int))).run Try.prog w = .ok (.slice (some ⟨w.heap.size, 0, none⟩) p p) (w.alloc (.cells (bvs (List.replicate (p * 64) 0)).toArray 99)) := by
  obtain ⟨i, hi, hz, hsz, hby⟩ := info_parts T61.info
  have hr := run_make (P := Try.prog) w _ _ i _ T61.und hi hz .i64 .i64 p p (by omega) (by omega) (by rw [hby]; omega) (by omega)
  simp only [Int.toNat_natCast] at hr
  rw [hr, hsz, ← zeros64_bvs]
  rfl

theorem New_end (w : World) (p s m : Nat) (h2 : 2 ≤ p) (hp : p ≤ 4096) (h : (s = w.heap.size ∧ m = w.heap.size + 1) ∨ (s = w.heap.size + 1 ∧ m = w.heap.size)) :
    DiskIs (((w.alloc (.cells (bvs (List.replicate (p * 64) 0)).toArray 99)).alloc (.cells (bvs (List.replicate (p * 64) 0)).toArray 99)).alloc (.cells #[.int .i64 0, .int .u32 0, .slice (some ⟨s, 0, none⟩) p p, .slice (some ⟨m, 0, none⟩) p p, .slice none 0 0] 66)).drew
      w.heap.size ⟨w.heap.size + 1 + 1, s, m, .slice none 0 0⟩ p ⟨0, false, List.replicate (p * 64) 0, List.replicate (p * 64) 0, []⟩ ∧
    Below w.heap.size w (((w.alloc (.cells (bvs (List.replicate (p * 64) 0)).toArray 99)).alloc (.cells (bvs (List.replicate (p * 64) 0)).toArray 99)).alloc (.cells #[.int .i64 0, .int .u32 0, .slice (some ⟨s, 0, none⟩) p p, .slice (some ⟨m, 0, none⟩) p p, .slice none 0 0] 66)).drew := by
  have hl : (List.replicate (p * 64) (0 : UInt8)).length = p * 64 := by simp
  generalize List.replicate (p * 64) (0 : UInt8) = Z at *
  have b1 : Blk (w.alloc (.cells (bvs Z).toArray 99)) w.heap.size (bvs Z) 99 := Blk.new _ _ _
  have b2 : Blk ((w.alloc (.cells (bvs Z).toArray 99)).alloc (.cells (bvs Z).toArray 99)) (w.heap.size + 1) (bvs Z) 99 := by
    have := Blk.new (w.alloc (.cells (bvs Z).toArray 99)) (bvs Z) 99
    simpa using this
  have b3 := Blk.new ((w.alloc (.cells (bvs Z).toArray 99)).alloc (.cells (bvs Z).toArray 99)) [.int .i64 0, .int .u32 0, .slice (some ⟨s, 0, none⟩) p p, .slice (some ⟨m, 0, none⟩) p p, .slice none 0 0] 66
  have hsz : ((w.alloc (.cells (bvs Z).toArray 99)).alloc (.cells (bvs Z).toArray 99)).heap.size = w.heap.size + 1 + 1 := by simp
  rw [hsz] at b3
  have c1 := ((b1.alloc (.cells (bvs Z).toArray 99)).alloc (.cells #[.int .i64 0, .int .u32 0, .slice (some ⟨s, 0, none⟩) p p, .slice (some ⟨m, 0, none⟩) p p, .slice none 0 0] 66)).drew
  have c2 := (b2.alloc (.cells #[.int .i64 0, .int .u32 0, .slice (some ⟨s, 0, none⟩) p p, .slice (some ⟨m, 0, none⟩) p p, .slice none 0 0] 66)).drew
  refine ⟨⟨b3, ?_, ?_, World.ownsRow_nil _ _ _ _, hl, hl, ⟨by simp, by simp⟩, ⟨h2, hp⟩, ?_, ⟨by simp [Value.ownBlock], by simp [Value.ownBlock], by simp [Value.ownBlock]⟩, ?_⟩, ?_⟩
  · rcases h with ⟨rfl, rfl⟩ | ⟨rfl, rfl⟩
    · exact c1
    · exact c2
  · rcases h with ⟨rfl, rfl⟩ | ⟨rfl, rfl⟩
    · exact c2
    · exact c1
  · show w.heap.size + 1 + 1 ≠ s ∧ w.heap.size + 1 + 1 ≠ m ∧ s ≠ m
    omega
  · show w.heap.size ≤ w.heap.size + 1 + 1 ∧ w.heap.size ≤ s ∧ w.heap.size ≤ m
    omega
  · exact ((((Below.refl _ _).alloc (Nat.le_refl _) _).alloc (by simp) _).alloc (by simp; omega) _).drew

set_option maxHeartbeats 1000000 in
theorem DNew_any (p : Nat) (h2 : 2 ≤ p) (hp : p ≤ 4096) (w : World) :
    Calls Try.prog 12 #[.int .i64 p] w fun e w' => ∃ D, e = .returned (.tuple #[.pointer (some ⟨D.g, 0, none⟩), .int .i64 0]) ∧ DiskIs w' w.heap.size D p ⟨0, false, List.replicate (p * 64) 0, List.replicate (p * 64) 0, []⟩ ∧ Below w.heap.size w w' := by
  have mk := run_make_pages p hp
  generalize hZ : bvs (List.replicate (p * 64) 0) = Z at mk
  go_enter Try.func12, Try.ntmps12
  go_wp2_with fail
  go_region
  all_goals go_wp2
  all_goals (go_ret2; subst hZ)
  · exact ⟨⟨_, _, _, _⟩, rfl, New_end w p _ _ h2 hp (.inl ⟨rfl, rfl⟩)⟩
  · exact ⟨⟨_, _, _, _⟩, rfl, New_end w p _ _ h2 hp (.inr ⟨rfl, rfl⟩)⟩
end Go.Proofs.Ytdhbaepmbgoobaa
