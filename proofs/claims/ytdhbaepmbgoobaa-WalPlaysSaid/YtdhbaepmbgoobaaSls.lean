/- Slices of slices of bytes, as they come in. -/
import Derived.Test.YtdhbaepmbgoobaaArgs
import Derived.Deep.Matrix
namespace Go.Proofs.Ytdhbaepmbgoobaa
open Go.RowKit
set_option linter.unusedVariables false
set_option maxRecDepth 10000
set_option linter.unusedSimpArgs false
set_option linter.unnecessarySimpa false

/-- A slice value v of n slices of bytes reads as the lists ls. -/
def Sls (w : World) (B : Nat) (v : Value) (n : Nat) (ls : List (List UInt8)) : Prop :=
  ∃ vs : List Value, ls.length = n ∧ Sl w B 1 v n vs ∧ (∀ (j : Nat) (u : Value), vs[j]? = some u → ∃ l : List UInt8, ls[j]? = some l ∧ Sl w B 1 u l.length (bvs l))
theorem Sls.below {w w' : World} {B : Nat} {v : Value} {n : Nat} {ls : List (List UInt8)} (h : Sls w B v n ls) (hb : Below B w w') : Sls w' B v n ls := by
  obtain ⟨vs, h1, h2, h3⟩ := h
  exact ⟨vs, h1, h2.below hb, fun j u hu => by obtain ⟨l, hl, hs⟩ := h3 j u hu; exact ⟨l, hl, hs.below hb⟩⟩
theorem Sls.more {w : World} {B B' : Nat} {v : Value} {n : Nat} {ls : List (List UInt8)} (h : Sls w B v n ls) (hB : B ≤ B') : Sls w B' v n ls := by
  obtain ⟨vs, h1, h2, h3⟩ := h
  exact ⟨vs, h1, h2.more hB, fun j u hu => by obtain ⟨l, hl, hs⟩ := h3 j u hu; exact ⟨l, hl, hs.more hB⟩⟩
/-- One of them. -/
theorem Sls.get {w : World} {B : Nat} {v : Value} {n : Nat} {ls : List (List UInt8)} (h : Sls w B v n ls) {k : Nat} (hk : k < n) :
    ∃ (b off : Nat) (c n' : Nat) (A : Option Addr) (l : List UInt8), (∃ c', v = .slice (some ⟨b, off, none⟩) n c' ∧ n ≤ c') ∧ b < B ∧ w.cell? ⟨b, off + k, none⟩ = some (.slice A n' c) ∧ ls[k]? = some l ∧ l.length = n' ∧ Sl w B 1 (.slice A n' c) n' (bvs l) := by
  obtain ⟨vs, h1, ⟨hl, A, c, rfl, h2, h3, h4, hr⟩, h5⟩ := h
  have hkv : k < vs.length := by omega
  obtain ⟨b, off, rfl, hb, hc⟩ := Rd.at_ hr hkv
  obtain ⟨l, hl', hs⟩ := h5 k _ (List.getElem?_eq_getElem hkv)
  have hs' := hs
  obtain ⟨_, A', c', he, _⟩ := hs'
  rw [he] at hc hs
  exact ⟨b, off, c', l.length, A', l, ⟨c, rfl, h2⟩, hb, hc, hl', rfl, hs⟩
theorem Sls.form {w : World} {B : Nat} {v : Value} {n : Nat} {ls : List (List UInt8)} (h : Sls w B v n ls) : ∃ A c, v = .slice A n c ∧ n ≤ c ∧ c ≤ maxLen := by
  obtain ⟨vs, h1, ⟨hl, A, c, rfl, h2, h3, h4, hr⟩, h5⟩ := h
  exact ⟨A, c, rfl, h2, h3⟩

theorem sls_of_trod {H : Type} {enc : TypeId × Value → H} {P : Program} {w : World} {held : Bool} {t e q : TypeId} {fuel : Nat} {v : Value} {x : DataW H × List MemPlace}
    (ht : P.underlying t = some (.slice e)) (he : P.underlying e = some (.slice q)) (hq : P.underlying q = some (.int .u8)) (ce : P.cellsOf e = 1) (cq : P.cellsOf q = 1)
    {A : Option Addr} {n c : Nat} (hv : v = .slice A n c) (h : DataW.trod enc P w 0 (fun _ => true) held fuel t v.cells.toList = some x) : ∃ ls, Sls w w.heap.size v n ls := by
  subst hv
  rcases Go.Deep.open_int_rows (k := .u8) ht he hq ce cq h with ⟨hcs, _⟩ | ⟨a, len, cap, A', L, C, Z, hcs, _, hl, hm, _, hrow⟩
  · simp [Value.cells] at hcs
    obtain ⟨rfl, rfl, rfl⟩ := hcs
    exact ⟨[], [], rfl, Sl.nil, by simp⟩
  · simp [Value.cells] at hcs
    obtain ⟨rfl, rfl, rfl⟩ := hcs
    refine ⟨(List.range n).map fun r => ((Z r).take (L r)).map fun i => UInt8.ofNat i.toNat, (List.range n).map fun r => .slice (A' r) (L r) (C r), by simp, ⟨by simp, _, _, rfl, hl, hm, (fun h => by cases h), fun hn => ?_⟩, fun j u hu => ?_⟩
    · have h0 : 0 < n := by
        rcases Nat.eq_zero_or_pos n with h0 | h0
        · subst h0; simp at hn
        · exact h0
      have hc0 := (hrow 0 (by omega)).1
      obtain ⟨b, off, spot⟩ := a
      have hs : spot = none := by simpa [Addr.add] using World.cell?_spot hc0
      subst hs
      refine ⟨b, off, rfl, World.block_lt_of_cell? w _ hc0, fun j u hu => ?_⟩
      have hj : j < n := by
        have := (List.getElem?_eq_some_iff.1 hu).1
        simpa using this
      have hcj := (hrow j (by omega)).1
      rw [Addr.add_lit] at hcj
      rw [hcj, ← hu]
      simp [hj]
    · have hj : j < n := by
        have := (List.getElem?_eq_some_iff.1 hu).1
        simpa using this
      have hu' : u = .slice (A' j) (L j) (C j) := by
        simp [hj] at hu; exact hu.symm
      subst hu'
      obtain ⟨_, h1, h2, h3, h4, h5, h6⟩ := hrow j (by omega)
      refine ⟨((Z j).take (L j)).map fun i => UInt8.ofNat i.toNat, by simp [hj], ?_⟩
      have hlen : (((Z j).take (L j)).map fun i => UInt8.ofNat i.toNat).length = L j := by simp; omega
      rw [hlen]
      refine ⟨by rw [bvs_length, hlen]; omega, _, _, rfl, h1, h2, h5, fun hn => ?_⟩
      have h0 : 0 < L j := by
        rcases Nat.eq_zero_or_pos (L j) with h0 | h0
        · exfalso; apply hn; unfold bvs; rw [h0]; simp
        · exact h0
      cases hA : A' j with
      | none => have := h5 hA; omega
      | some a' =>
        obtain ⟨_, hc⟩ := h6 a' hA
        have hc0 := hc 0 (by omega)
        obtain ⟨b, off, spot⟩ := a'
        have hs : spot = none := by simpa [Addr.add] using World.cell?_spot hc0
        subst hs
        refine ⟨b, off, rfl, World.block_lt_of_cell? w _ hc0, fun i u hu => ?_⟩
        have hi : i < L j := by
          have := (List.getElem?_eq_some_iff.1 hu).1
          rw [bvs_length, hlen] at this; exact this
        have hci := hc i (by omega)
        rw [Addr.add_lit] at hci
        rw [hci, ← hu]
        have hi' : i < (Z j).length := by omega
        have hb := bounds_u8 (h4 _ (List.getElem_mem hi'))
        simp only [bvs, List.map_map, List.getElem?_map, List.getElem?_take, hi, if_true, List.getElem?_eq_getElem hi', Option.map_some, Function.comp, List.getD, Option.getD_some, u8v]
        rw [UInt8.toNat_ofNat', Nat.mod_eq_of_lt (by omega), Int.toNat_of_nonneg hb.1]
end Go.Proofs.Ytdhbaepmbgoobaa
