/- Sums are compared; rows of own bytes, pushed onto. -/
import Derived.Test.YtibolcekhdapaaaSha8
import Derived.Test.YtibolcekhdapaaaRefM
import Derived.Stop.BytesEq
namespace Go.Proofs.Ytibolcekhdapaaa
open Go.RowKit
set_option linter.unusedVariables false
set_option maxRecDepth 10000
set_option linter.unusedSimpArgs false
set_option linter.unnecessarySimpa false

theorem sz_u8 (w : World) : (sizeOf 5).run Try.prog w = .ok 1 w := by kernel_rfl
theorem und_hash : Try.prog.underlying 24 = some (.array 32 5) := by kernel_rfl
theorem und_u8 : Try.prog.underlying 5 = some (.int .u8) := by kernel_rfl
theorem eqlH (x y : List UInt8) (hx : x.length = 32) (hy : y.length = 32) : ∀ w, (Op.equalIn 10000 24 (.agg (bvs x).toArray) (.agg (bvs y).toArray)).run Try.prog w = .ok (x == y) w :=
  fun w => run_equalIn_bytes w 9998 24 5 32 und_hash und_u8 sz_u8 x y hx hy
theorem eqlS (x : List UInt8) (hx : x.length = 32) : ∀ w, (Op.equalIn 10000 24 (.agg (bvs x).toArray) (.agg (bvs x).toArray)).run Try.prog w = .ok true w :=
  fun w => by rw [eqlH x x hx hx w]; simp
theorem mine_lit (w : World) (bs : List UInt8) (hm : bs.length ≤ maxLen) : Mine w (w.alloc (.cells (bvs bs).toArray 5)) (.slice (some ⟨w.heap.size, 0, none⟩) bs.length bs.length) bs :=
  ⟨⟨by rw [bvs_length, Nat.mul_one], .inr ⟨w.heap.size, bs.length, (bvs bs).toArray, rfl, Nat.le_refl _, heap_alloc_new w _, Nat.le_refl _, hm, by simp [bvs_length], by
    rw [Nat.mul_one]
    exact List.take_of_length_le (by simp [bvs_length])⟩⟩, (Turns.refl [] w).alloc _⟩
theorem mine_append {W0 w : World} {v : Value} {bs : List UInt8} (h : Mine W0 w v bs) {B : Nat} {x : Value} {cs : List UInt8} (hx : Sl w B 1 x cs.length (bvs cs)) (hm : bs.length + cs.length ≤ 2000000000) (ty : TypeId) :
    ∃ v' w', (Builtin.append_ #[26, 26] ty #[v, x]).run Try.prog w = .ok v' w' ∧ Mine W0 w' v' (bs ++ cs) := by
  obtain ⟨v1, w1, hr1, ap1⟩ := run_append_rd (P := Try.prog) w T8 ty h.own hx (bvs_one _) (by simp only [maxLen]; omega) (by omega) h.turns.size
  refine ⟨v1, w1, hr1, ?_⟩
  rw [← bvs_append] at ap1
  exact mine_apd h ap1
end Go.Proofs.Ytibolcekhdapaaa
