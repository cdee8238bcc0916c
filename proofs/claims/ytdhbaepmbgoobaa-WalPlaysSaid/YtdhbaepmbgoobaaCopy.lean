/- The builtin copy, of elements of one cell, into a block that is known whole. -/
import Derived.Test.YtdhbaepmbgoobaaTurns
namespace Go.Proofs.Ytdhbaepmbgoobaa
open Go.RowKit
set_option linter.unusedVariables false
set_option maxRecDepth 10000
set_option linter.unusedSimpArgs false
set_option linter.unnecessarySimpa false

theorem run_copy_sl {P : Program} {t s e : TypeId} {z : Value} {bytes : Nat} (T : SliceTy P t e z 1 bytes) (ty : TypeId) {W : World} {b o dLen dCap : Nat} {cs : List Value} {tt : TypeId} (hB : Blk W b cs tt)
    {B m : Nat} {x : Value} {xs : List Value} (hs : Sl W B 1 x m xs) (h1 : ∀ u ∈ xs, u.oneCell' = true) (hfit : o + min m dLen ≤ cs.length) :
    (Builtin.copy_ #[t, s] ty #[.slice (some ⟨b, o, none⟩) dLen dCap, x]).run P W = .ok (goInt (min m dLen : Nat)) (W.setCells b o (xs.take (min m dLen))) := by
  obtain ⟨hl, A, c, rfl, h2, h3, h4, hr⟩ := hs
  have hsize : (P.info? e).map (·.size) = some 1 := by
    obtain ⟨i, hi, _, hsz, _⟩ := info_parts T.info
    rw [hi]; simp [hsz]
  by_cases h0 : min m dLen = 0
  · rw [h0]
    have := run_copy_none (P := P) W t s ty e (some ⟨b, o, none⟩) A dLen dCap m c T.und hsize h0
    rw [this]
    rfl
  · have hx : xs ≠ [] := by intro h; subst h; simp at hl; omega
    obtain ⟨bb, off, rfl, hbb, hc⟩ := hr hx
    have hlen : (xs.take (min m dLen)).length = min m dLen := by rw [List.length_take, hl]; omega
    have := run_copy_cells (P := P) W t s ty e b o dLen dCap ⟨bb, off, none⟩ m c (xs.take (min m dLen)) T.und hsize hlen
      (fun j v hv => by
        rw [Addr.add_mid]
        refine hc j v ?_
        rw [List.getElem?_take] at hv
        split at hv
        · exact hv
        · cases hv)
      (fun j hj => (hB.there o (min m dLen) hfit j (by omega)).1) (fun j hj => (hB.there o (min m dLen) hfit j (by omega)).2)
      (fun v hv => h1 v (List.mem_of_mem_take hv))
    rw [this, hlen]
end Go.Proofs.Ytdhbaepmbgoobaa
