/- MerkleOrder, walked. -/
import Derived.Test.YtnjnealphbcamaaMRoots
import Derived.Deep.MidRow
namespace Go.Proofs.Ytnjnealphbcamaa
open Go.RowKit
set_option linter.unusedVariables false
set_option maxRecDepth 10000
set_option linter.unusedSimpArgs false
set_option linter.unnecessarySimpa false

/-- A block whose head is a row of sums, cell by cell. -/
def HRow (w : World) (g : Nat) (L : List (List UInt8)) : Prop := ∀ k x, L[k]? = some x → w.rangeAt g (k * 32) (bvs x) ∧ w.there g (k * 32) 32
theorem setCells_cell (g : Nat) : ∀ (vs : List Value) (w : World) (o : Nat) (q : Addr), (q.block ≠ g ∨ q.off < o ∨ o + vs.length ≤ q.off) → (w.setCells g o vs).cell? q = w.cell? q
  | [], w, o, q, _ => rfl
  | v :: vs, w, o, q, h => by
    rw [World.setCells, setCells_cell g vs _ _ q (by simp only [List.length_cons] at h; omega)]
    refine World.cell?_setCell_other _ _ _ _ ?_
    intro e
    subst e
    simp only [List.length_cons] at h
    rcases h with h | h | h
    · exact h rfl
    · exact Nat.lt_irrefl _ h
    · have h2 : o + (vs.length + 1) ≤ o := h
      omega
theorem setCells_frozen (g : Nat) : ∀ (vs : List Value) (w : World) (o : Nat) (q : Addr), (w.setCells g o vs).frozen? q = w.frozen? q
  | [], w, o, q => rfl
  | v :: vs, w, o, q => by rw [World.setCells, setCells_frozen g vs]; rw [World.frozen?_setCell]
theorem setCells_in (g : Nat) : ∀ (vs : List Value) (w : World) (o : Nat), w.there g o vs.length → ∀ j v, vs[j]? = some v → (w.setCells g o vs).cell? ⟨g, o + j, none⟩ = some v
  | [], w, o, _, j, v, h => by simp at h
  | u :: vs, w, o, ht, j, v, h => by
    rw [World.setCells]
    cases j with
    | zero =>
      rw [setCells_cell g vs _ _ _ (by right; left; simp)]
      rw [List.getElem?_cons_zero] at h
      injection h with h
      subst h
      have := (ht 0 (by simp)).1
      obtain ⟨z, hz⟩ := Option.isSome_iff_exists.1 this
      exact World.cell?_setCell_same _ _ _ hz
    | succ j =>
      have := setCells_in g vs (w.setCell ⟨g, o, none⟩ u) (o + 1) (fun q hq => by
        have h1 := ht (q + 1) (by simp; omega)
        rw [show o + 1 + q = o + (q + 1) by omega]
        refine ⟨?_, by rw [World.frozen?_setCell]; exact h1.2⟩
        rw [World.cell?_setCell_other _ _ _ _ (by simp)]
        exact h1.1) j v (by simpa using h)
      rw [show o + (j + 1) = o + 1 + j by omega]
      exact this
theorem HRow.set {w : World} {g : Nat} {L : List (List UInt8)} (h : HRow w g L) (k : Nat) (hk : k < L.length) (y : List UInt8) (hy : y.length = 32) (ha : ∀ x ∈ L, x.length = 32) : HRow (w.setCells g (k * 32) (bvs y)) g (L.set k y) := by
  intro j x hx
  have hth := (h k _ (List.getElem?_eq_getElem hk)).2
  have hyl : (bvs y).length = 32 := by rw [bvs_length, hy]
  by_cases e : k = j
  · subst e
    rw [List.getElem?_set_self hk] at hx
    injection hx with hx
    subst hx
    refine ⟨fun q v hv => setCells_in g _ w _ (by rw [hyl]; exact hth) q v hv, fun q hq => ⟨?_, by rw [setCells_frozen]; exact (hth q hq).2⟩⟩
    rw [setCells_in g _ w _ (by rw [hyl]; exact hth) q ((bvs y)[q]'(by omega)) (List.getElem?_eq_getElem (by omega))]
    rfl
  · rw [List.getElem?_set_ne e] at hx
    obtain ⟨h1, h2⟩ := h j x hx
    have hx32 := ha x (List.mem_of_getElem? hx)
    refine ⟨fun q v hv => ?_, fun q hq => ⟨?_, by rw [setCells_frozen]; exact (h2 q hq).2⟩⟩
    · have hq := (List.getElem?_eq_some_iff.1 hv).1
      rw [bvs_length, hx32] at hq
      rw [setCells_cell g _ _ _ _ (by right; show j * 32 + q < k * 32 ∨ k * 32 + (bvs y).length ≤ j * 32 + q; rw [hyl]; omega)]
      exact h1 q v hv
    · rw [setCells_cell g _ _ _ _ (by right; show j * 32 + q < k * 32 ∨ k * 32 + (bvs y).length ≤ j * 32 + q; rw [hyl]; omega)]
      exact (h2 q hq).1
theorem HMine.hrow {W0 w : World} {A : Option Addr} {m c : Nat} {P : List (List UInt8)} (h : HMine W0 w (.slice A m c) P) (hm : P.length = m) (h0 : 0 < m) : ∃ g, A = some ⟨g, 0, none⟩ ∧ W0.heap.size ≤ g ∧ g < w.heap.size ∧ HRow w g P := by
  have ho := h.own
  rcases ho.2 with ⟨hv, hx⟩ | ⟨g, cap, cur, hv, hg, hh, r⟩
  · have := hcells_len P h.all
    rw [hx] at this
    simp at this
    omega
  · injection hv with e1 e2 e3
    subst e1
    refine ⟨g, rfl, hg, (Array.getElem?_eq_some_iff.1 hh).1, fun k x hx => ?_⟩
    have hk := (List.getElem?_eq_some_iff.1 hx).1
    have he := (List.getElem?_eq_some_iff.1 hx).2
    obtain ⟨b, off, e, _, hr⟩ := h.hs.at_ (i := k) hk
    injection e with e
    injection e with e4 e5 _
    subst e4 e5
    rw [Nat.zero_add, he] at hr
    refine ⟨hr, fun j hj => ⟨?_, by simp [World.frozen?, hh]⟩⟩
    rw [hr j ((bvs x)[j]'(by rw [bvs_length, h.all x (List.mem_of_getElem? hx)]; exact hj)) (List.getElem?_eq_getElem _)]
    rfl
theorem HRow.hs {w : World} {g n c : Nat} {L : List (List UInt8)} (h : HRow w g L) (hn : L.length = n) (hc : n ≤ c) (hm : c ≤ maxLen) (ha : ∀ x ∈ L, x.length = 32) (hg : g < w.heap.size) : Hs w w.heap.size (.slice (some ⟨g, 0, none⟩) n c) L := by
  subst hn
  refine ⟨⟨hcells_len L ha, _, c, rfl, hc, hm, (fun h => by cases h), fun _ => ⟨g, 0, rfl, hg, fun j u hu => ?_⟩⟩, ha⟩
  have hj := (List.getElem?_eq_some_iff.1 hu).1
  rw [hcells_len L ha] at hj
  have hk : j / 32 < L.length := by omega
  have hs := (hcells_split L (j / 32) ha (by omega)).2
  have h1 : (hcells L)[j]? = ((hcells L).drop (j / 32 * 32))[j % 32]? := by rw [List.getElem?_drop]; congr 1; omega
  rw [h1, hs, List.drop_eq_getElem_cons hk, hcells_cons, List.getElem?_append_left (by rw [bvs_length, ha _ (List.getElem_mem hk)]; omega)] at hu
  have := (h (j / 32) _ (List.getElem?_eq_getElem hk)).1 (j % 32) u hu
  rw [Nat.zero_add]
  rwa [show j / 32 * 32 + j % 32 = j by omega] at this
end Go.Proofs.Ytnjnealphbcamaa
