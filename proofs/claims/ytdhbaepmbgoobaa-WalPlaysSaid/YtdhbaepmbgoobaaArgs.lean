/- From the row's reading of an argument to the walk's. -/
import Derived.Test.YtdhbaepmbgoobaaBase
import Derived.OpenShut
namespace Go.Proofs.Ytdhbaepmbgoobaa
open Go.RowKit
set_option linter.unusedVariables false
set_option maxRecDepth 10000
set_option linter.unusedSimpArgs false
set_option linter.unnecessarySimpa false

/-- What a row's proof gives of a slice of bytes, as the walks want it. -/
theorem sl_of_row {w : World} {a : Option Addr} {len cap : Nat} {zs : List Int}
    (h : (a = none ∧ len = 0 ∧ cap = 0 ∧ zs = []) ∨
      ∃ x, a = some x ∧ len ≤ cap ∧ cap ≤ maxLen ∧ zs.length = cap ∧ (∀ i, i < zs.length → w.cell? (x.add i) = some (.int .u8 (zs.getD i 0))) ∧ ∀ n ∈ zs, (Lit.int .u8 n).wf = true) :
    ∃ bs : List UInt8, Sl w w.heap.size 1 (.slice a len cap) len (bvs bs) := by
  rcases h with ⟨rfl, rfl, rfl, rfl⟩ | ⟨⟨b, off, spot⟩, rfl, hl, hm, hz, hc, hw⟩
  · exact ⟨[], Sl.nil⟩
  · have hwf : ∀ n ∈ zs, 0 ≤ n ∧ n ≤ 255 := fun n hn => bounds_u8 (hw n hn)
    refine ⟨(zs.take len).map fun n => UInt8.ofNat n.toNat, by simp [bvs]; omega, _, _, rfl, hl, hm, (fun h => by cases h), fun hn => ?_⟩
    have h0 : 0 < len := by
      rcases Nat.eq_zero_or_pos len with h0 | h0
      · subst h0; simp [bvs] at hn
      · exact h0
    have hc0 := hc 0 (by omega)
    have hs : spot = none := by simpa [Addr.add] using World.cell?_spot hc0
    subst hs
    refine ⟨b, off, rfl, World.block_lt_of_cell? w _ hc0, fun j u hu => ?_⟩
    have hj : j < len := by
      have := (List.getElem?_eq_some_iff.1 hu).1
      simp [bvs] at this
      omega
    have hcj := hc j (by omega)
    rw [Addr.add_lit] at hcj
    rw [hcj, ← hu]
    have hj' : j < zs.length := by omega
    have := hwf _ (List.getElem_mem hj')
    simp only [bvs, List.map_map, List.getElem?_map, List.getElem?_take, hj, if_true, List.getElem?_eq_getElem hj', Option.map_some, Function.comp, List.getD, Option.getD_some, u8v]
    rw [UInt8.toNat_ofNat', Nat.mod_eq_of_lt (by omega), Int.toNat_of_nonneg this.1]
/-- A byte that came in. -/
theorem byte_of {a : Int} (h : (Lit.int .u8 a).wf = true) : ∃ b : UInt8, a = (b.toNat : Int) := by
  have hb := bounds_u8 h
  refine ⟨UInt8.ofNat a.toNat, ?_⟩
  rw [UInt8.toNat_ofNat', Nat.mod_eq_of_lt (by omega), Int.toNat_of_nonneg hb.1]
end Go.Proofs.Ytdhbaepmbgoobaa
