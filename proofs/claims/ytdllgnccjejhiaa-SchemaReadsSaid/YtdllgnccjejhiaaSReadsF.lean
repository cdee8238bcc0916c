/- The law SchemaReads, its arguments as the row gives them. -/
import Derived.Test.YtdllgnccjejhiaaSReads
namespace Go.Proofs.Ytdllgnccjejhiaa
open Go.RowKit
set_option linter.unusedVariables false
set_option maxRecDepth 10000
theorem SchemaReads_row (v : Value) (s : Sch) (z cut : Int) (a2 a3 a5 : Option Addr) (l2 c2 l3 c3 l5 c5 : Nat) (zs ys rs : List Int) (w : World) (h : SchArg w v s) (hz : -9223372036854775808 ≤ z ∧ z ≤ 9223372036854775807) (hcut : -9223372036854775808 ≤ cut ∧ cut ≤ 9223372036854775807)
    (h2 : (a2 = none ∧ l2 = 0 ∧ c2 = 0 ∧ zs = []) ∨ ∃ x, a2 = some x ∧ l2 ≤ c2 ∧ c2 ≤ maxLen ∧ zs.length = c2 ∧ (∀ i, i < zs.length → w.cell? (x.add i) = some (.int .i64 (zs.getD i 0))) ∧ ∀ n ∈ zs, (Lit.int .i64 n).wf = true)
    (h3 : (a3 = none ∧ l3 = 0 ∧ c3 = 0 ∧ ys = []) ∨ ∃ x, a3 = some x ∧ l3 ≤ c3 ∧ c3 ≤ maxLen ∧ ys.length = c3 ∧ (∀ i, i < ys.length → w.cell? (x.add i) = some (.int .u8 (ys.getD i 0))) ∧ ∀ n ∈ ys, (Lit.int .u8 n).wf = true)
    (h5 : (a5 = none ∧ l5 = 0 ∧ c5 = 0 ∧ rs = []) ∨ ∃ x, a5 = some x ∧ l5 ≤ c5 ∧ c5 ≤ maxLen ∧ rs.length = c5 ∧ (∀ i, i < rs.length → w.cell? (x.add i) = some (.int .u8 (rs.getD i 0))) ∧ ∀ n ∈ rs, (Lit.int .u8 n).wf = true) :
    Calls Try.prog 9 #[v, .int .i64 z, .slice a2 l2 c2, .slice a3 l3 c3, .int .i64 cut, .slice a5 l5 c5] w fun e w' => e = .returned (.bool true) ∧ Below w.heap.size w w' := by
  obtain ⟨zs', hz1, hz2⟩ := sl_of_ints h2
  obtain ⟨ys', hy1⟩ := sl_of_row h3
  obtain ⟨rs', hr1⟩ := sl_of_row h5
  exact SchemaReads_walk v s z cut _ _ _ _ _ _ zs' ys' rs' w h hz hz1 hz2 hy1 hcut hr1
end Go.Proofs.Ytdllgnccjejhiaa
