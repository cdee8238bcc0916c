/- The law RowBytes, its arguments as the row gives them. -/
import Derived.Test.YtfehhiegnhplhaaVBytes
import Derived.Test.YtfehhiegnhplhaaVArg
namespace Go.Proofs.Ytfehhiegnhplhaa
open Go.RowKit
set_option linter.unusedVariables false
set_option maxRecDepth 10000
theorem RowBytes_row (v : Value) (l : List Val) (cut : Int) (a1 a2 a4 : Option Addr) (l1 c1 l2 c2 l4 c4 : Nat) (zs ys rs : List Int) (w : World) (h : ValsArg w v l) (hcut : -9223372036854775808 ≤ cut ∧ cut ≤ 9223372036854775807)
    (h1 : (a1 = none ∧ l1 = 0 ∧ c1 = 0 ∧ zs = []) ∨ ∃ x, a1 = some x ∧ l1 ≤ c1 ∧ c1 ≤ maxLen ∧ zs.length = c1 ∧ (∀ i, i < zs.length → w.cell? (x.add i) = some (.int .i64 (zs.getD i 0))) ∧ ∀ n ∈ zs, (Lit.int .i64 n).wf = true)
    (h2 : (a2 = none ∧ l2 = 0 ∧ c2 = 0 ∧ ys = []) ∨ ∃ x, a2 = some x ∧ l2 ≤ c2 ∧ c2 ≤ maxLen ∧ ys.length = c2 ∧ (∀ i, i < ys.length → w.cell? (x.add i) = some (.int .u8 (ys.getD i 0))) ∧ ∀ n ∈ ys, (Lit.int .u8 n).wf = true)
    (h4 : (a4 = none ∧ l4 = 0 ∧ c4 = 0 ∧ rs = []) ∨ ∃ x, a4 = some x ∧ l4 ≤ c4 ∧ c4 ≤ maxLen ∧ rs.length = c4 ∧ (∀ i, i < rs.length → w.cell? (x.add i) = some (.int .u8 (rs.getD i 0))) ∧ ∀ n ∈ rs, (Lit.int .u8 n).wf = true) :
    Calls Try.prog 5 #[v, .slice a1 l1 c1, .slice a2 l2 c2, .int .i64 cut, .slice a4 l4 c4] w fun e w' => e = .returned (.bool true) ∧ Below w.heap.size w w' := by
  obtain ⟨zs', hz1, hz2⟩ := sl_of_ints h1
  obtain ⟨ys', hy1⟩ := sl_of_row h2
  obtain ⟨rs', hr1⟩ := sl_of_row h4
  exact RowBytes_walk v l cut _ _ _ _ _ _ zs' ys' rs' w h hz1 hz2 hy1 hcut hr1
end Go.Proofs.Ytfehhiegnhplhaa
