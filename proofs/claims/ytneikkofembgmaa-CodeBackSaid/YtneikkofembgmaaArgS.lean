/- From the row's reading of a slice of strings to the walk's. -/
import Derived.Test.YtneikkofembgmaaArgs
namespace Go.Proofs.Ytneikkofembgmaa
open Go.RowKit
set_option linter.unusedVariables false
set_option linter.unusedSimpArgs false
set_option linter.unnecessarySimpa false

/-- What a row's proof gives of a slice of strings, as the walks want it. -/
theorem sl_of_strs {w : World} {a : Option Addr} {len cap : Nat} {zs : List ByteArray}
    (h : (a = none ∧ len = 0 ∧ cap = 0 ∧ zs = []) ∨
      ∃ x, a = some x ∧ len ≤ cap ∧ cap ≤ maxLen ∧ zs.length = cap ∧ (∀ i, i < zs.length → w.cell? (x.add i) = some (.string (zs.getD i ByteArray.empty))) ∧ ∀ s ∈ zs, s.size ≤ maxLen) :
    ∃ ys : List ByteArray, Sl w w.heap.size 1 (.slice a len cap) len (ys.map Value.string) ∧ ∀ s ∈ ys, s.size ≤ maxLen := by
  rcases h with ⟨rfl, rfl, rfl, rfl⟩ | ⟨⟨b, off, spot⟩, rfl, hl, hm, hz, hc, hw⟩
  · exact ⟨[], Sl.nil, by simp⟩
  · refine ⟨zs.take len, ⟨by simp; omega, _, _, rfl, hl, hm, (fun h => by cases h), fun hn => ?_⟩, fun z hz => hw z (List.mem_of_mem_take hz)⟩
    have h0 : 0 < len := by
      rcases Nat.eq_zero_or_pos len with h0 | h0
      · subst h0; simp at hn
      · exact h0
    have hc0 := hc 0 (by omega)
    have hs : spot = none := by simpa [Addr.add] using World.cell?_spot hc0
    subst hs
    refine ⟨b, off, rfl, World.block_lt_of_cell? w _ hc0, fun j u hu => ?_⟩
    have hj : j < len := by
      have := (List.getElem?_eq_some_iff.1 hu).1
      simp at this
      omega
    have hcj := hc j (by omega)
    rw [Addr.add_lit] at hcj
    rw [hcj, ← hu]
    have hj' : j < zs.length := by omega
    simp only [List.getElem?_map, List.getElem?_take, hj, if_true, List.getElem?_eq_getElem hj', Option.map_some, List.getD, Option.getD_some]
end Go.Proofs.Ytneikkofembgmaa
