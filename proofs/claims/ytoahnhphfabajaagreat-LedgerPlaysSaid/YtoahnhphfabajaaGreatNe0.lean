/- What a block of the chain is. -/
import Derived.Test.YtoahnhphfabajaaGreatLdS
namespace Go.Proofs.YtoahnhphfabajaaGreat
open Go.RowKit
set_option linter.unusedVariables false
set_option maxRecDepth 10000

theorem lastH_take (bs : List Blo) (j : Nat) (h : j < bs.length) : lastH (bs.take (j + 1)) = bloH bs[j] := by
  unfold lastH
  rw [List.take_succ_eq_append_getElem h, List.getLast?_concat]
/-- What a block of the chain is. -/
theorem Inv.link {L : Led} (h : Inv L) (i : Nat) (hi : i < L.blks.length) (hi' : i < L.txs.length) :
    L.blks[i].n = (i : Int) + 1 ∧ L.blks[i].cnt = ((L.txs[i].length : Nat) : Int) ∧ L.blks[i].root = mroot (L.txs[i].map entry) ∧ (1 ≤ L.txs[i].length ∧ L.txs[i].length ≤ 4) ∧ (i = 0 → L.blks[i].prev = zeros 32) ∧ (∀ h0 : 0 < i, L.blks[i].prev = bloH (L.blks[i - 1]'(by omega))) := by
  have e := h.ch i hi hi'
  have hl := h.ne _ (List.getElem_mem hi')
  refine ⟨?_, ?_, ?_, hl, ?_, ?_⟩
  · rw [e]; show (((L.blks.take i).length : Nat) : Int) + 1 = _; rw [List.length_take]; omega
  · rw [e]; rfl
  · rw [e]; rfl
  · intro h0; subst h0; rw [e]; rfl
  · intro h0
    rw [e]
    show lastH (L.blks.take i) = _
    obtain ⟨j, rfl⟩ : ∃ j, i = j + 1 := ⟨i - 1, by omega⟩
    rw [lastH_take L.blks j (by omega)]
    rfl
end Go.Proofs.YtoahnhphfabajaaGreat
