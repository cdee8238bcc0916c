/- From the row's reading of a slice of integers to the walk's. -/
import Derived.Test.YtdhbaepmbgoobaaArgs
import Derived.OpenShut
namespace Go.Proofs.Ytdhbaepmbgoobaa
open Go.RowKit
set_option linter.unusedVariables false
set_option maxRecDepth 10000
set_option linter.unusedSimpArgs false
set_option linter.unnecessarySimpa false

/-- What a row's proof gives of a slice of int, as the walks want it. -/
theorem sl_of_ints {w : World} {a : Option Addr} {len cap : Nat} {zs : List Int}
    (h : (a = none ∧ len = 0 ∧ cap = 0 ∧ zs = []) ∨
      ∃ x, a = some x ∧ len ≤ cap ∧ cap ≤ maxLen ∧ zs.length = cap ∧ (∀ i, i < zs.length → w.cell? (x.add i) = some (.int .i64 (zs.getD i 0))) ∧ ∀ n ∈ zs, (Lit.int .i64 n).wf = true) :
    ∃ ys : List Int, Sl w w.heap.size 1 (.slice a len cap) len (ys.map (Value.int .i64)) ∧ ∀ z ∈ ys, -9223372036854775808 ≤ z ∧ z ≤ 9223372036854775807 := by
  rcases h with ⟨rfl, rfl, rfl, rfl⟩ | ⟨⟨b, off, spot⟩, rfl, hl, hm, hz, hc, hw⟩
  · exact ⟨[], Sl.nil, by simp⟩
  · have hwf : ∀ n ∈ zs, -9223372036854775808 ≤ n ∧ n ≤ 9223372036854775807 := fun n hn => bounds_i64 (hw n hn)
    refine ⟨zs.take len, ⟨by simp; omega, _, _, rfl, hl, hm, (fun h => by cases h), fun hn => ?_⟩, fun z hz => hwf z (List.mem_of_mem_take hz)⟩
    have h0 : 0 < len := by
      rcases Nat.eq_zero_or_pos len with h0 | h0
      · subst h0; simp at hn
      · exact h0
    have hc0 := hc 0 (by omega)
    have hs : spot = none := by simpa [Addr.add] using World.cell?_spot hc0
    subst hs
    refine ⟨b, off, rfl, World.block_lt_of_cell? w _ hc0, fun j u hu => ?_⟩
    have hj : j < len := by
      have := (List.getElem?_eq_some_iff.1 hu).1
      simp at this
      omega
    have hcj := hc j (by omega)
    rw [Addr.add_lit] at hcj
    rw [hcj, ← hu]
    have hj' : j < zs.length := by omega
    simp only [List.getElem?_map, List.getElem?_take, hj, if_true, List.getElem?_eq_getElem hj', Option.map_some, List.getD, Option.getD_some]
end Go.Proofs.Ytdhbaepmbgoobaa
