/- What a ledger of steps keeps when more steps come; how its blocks are chained. -/
import Derived.Test.YtoahnhphfabajaaGreatLe0
import Derived.Test.YtoahnhphfabajaaGreatNe0
namespace Go.Proofs.YtoahnhphfabajaaGreat
open Go.RowKit
set_option linter.unusedVariables false
set_option maxRecDepth 10000

/-- A ledger, and k steps more. -/
def runL (L : Led) (l : List Stp) (k : Nat) : Led := (l.take k).foldl stepL L
theorem runL_zero (L : Led) (l : List Stp) : runL L l 0 = L := rfl
theorem runL_step (L : Led) (l : List Stp) (k : Nat) (hk : k < l.length) : runL L l (k + 1) = stepL (runL L l k) l[k] := by
  unfold runL
  rw [List.take_succ_eq_append_getElem hk, List.foldl_append]
  rfl
theorem addLed_pre (L : Led) (c : List Chg) : ∃ t, (addLed L c).blks = L.blks ++ t := by
  unfold addLed
  split
  · exact ⟨_, rfl⟩
  · exact ⟨[], by simp [pushL]⟩
theorem stepL_pre (L : Led) (s : Stp) : ∃ t, (stepL L s).blks = L.blks ++ t := by
  unfold stepL
  split
  · split
    · exact ⟨[], by simp⟩
    · exact ⟨_, rfl⟩
  · exact addLed_pre L _
theorem runL_pre (L : Led) (l : List Stp) : ∀ k, k ≤ l.length → ∃ t, (runL L l k).blks = L.blks ++ t
  | 0, _ => ⟨[], by rw [runL_zero]; simp⟩
  | k + 1, h => by
    obtain ⟨t, ht⟩ := runL_pre L l k (by omega)
    rw [runL_step L l k (by omega)]
    obtain ⟨u, hu⟩ := stepL_pre (runL L l k) l[k]
    exact ⟨t ++ u, by rw [hu, ht, List.append_assoc]⟩
theorem runL_inv {L : Led} (hL : Inv L) {n0 : Int} (hn : L.next ≤ n0) (h0 : n0 ≤ 5000) (l : List Stp) (hf : ∀ s ∈ l, s.fits) (hfew : fewSs l = true) : ∀ k, k ≤ l.length → Inv (runL L l k) ∧ (runL L l k).next ≤ n0 + k
  | 0, _ => ⟨hL, by rw [runL_zero]; simpa using hn⟩
  | k + 1, h => by
    obtain ⟨h1, h2⟩ := runL_inv hL hn h0 l hf hfew k (by omega)
    unfold fewSs at hfew
    simp only [Bool.and_eq_true, List.all_eq_true, decide_eq_true_eq] at hfew
    have hm := List.getElem_mem (show k < l.length by omega)
    have := stepL_inv h1 (by omega) (stCs_ok (hf _ hm) (hfew.1 _ hm))
    rw [runL_step L l k (by omega)]
    exact ⟨this.1, by omega⟩
theorem fewSs_len {l : List Stp} (h : fewSs l = true) : l.length ≤ 40 := by
  unfold fewSs at h
  simp only [Bool.and_eq_true, decide_eq_true_eq] at h
  exact h.2
theorem fewSs_all {l : List Stp} (h : fewSs l = true) : ∀ s ∈ l, fewS s = true := by
  unfold fewSs at h
  simp only [Bool.and_eq_true, List.all_eq_true] at h
  exact h.1
theorem bldL_inv {l : List Stp} (hf : ∀ s ∈ l, s.fits) (hfew : fewSs l = true) : Inv (bldL l) ∧ (bldL l).next ≤ 40 := by
  have h := bldK_inv l hf hfew l.length (Nat.le_refl _)
  rw [← bldL_eq] at h
  have := fewSs_len hfew
  exact ⟨h.1, by omega⟩
theorem Inv.lastN {L : Led} (h : Inv L) (h0 : 0 < L.blks.length) : (L.blks[L.blks.length - 1]'(by omega)).n = (L.blks.length : Nat) := by
  have hb := h.bt
  have := h.ch (L.blks.length - 1) (by omega) (by omega)
  rw [this]
  show (((L.blks.take (L.blks.length - 1)).length : Nat) : Int) + 1 = _
  rw [List.length_take]; omega
end Go.Proofs.YtoahnhphfabajaaGreat
