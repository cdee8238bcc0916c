/- A sum is made: all pieces, then its bytes. -/
import Derived.Test.YtibolcekhdapaaaSha5
import Derived.Test.YtibolcekhdapaaaOnce
namespace Go.Proofs.Ytibolcekhdapaaa
open Go.RowKit
set_option linter.unusedVariables false
set_option maxRecDepth 10000
set_option linter.unusedSimpArgs false
set_option linter.unnecessarySimpa false

/-- The state behind k pieces. -/
def stP (d : List UInt8) : Nat → List UInt32
  | 0 => shaH
  | k + 1 => take1 (stP d k) ((d.drop (64 * k)).take 64)
theorem take1_len (s : List UInt32) (b : List UInt8) : (take1 s b).length = 8 := by simp [take1, addL]
theorem stP_len (d : List UInt8) : ∀ k, (stP d k).length = 8
  | 0 => rfl
  | k + 1 => take1_len _ _
theorem pieces_st (d : List UInt8) : ∀ (m k : Nat), pieces (stP d k) m (d.drop (64 * k)) = stP d (k + m)
  | 0, k => rfl
  | m + 1, k => by
    rw [pieces, List.drop_drop]
    have := pieces_st d m (k + 1)
    rw [show 64 * (k + 1) = 64 * k + 64 by omega, stP] at this
    rw [this]
    congr 1
    omega
theorem sha_st (b : List UInt8) : sha b = outSha (stP (padded b) ((padded b).length / 64)) := by
  unfold sha
  have := pieces_st (padded b) ((padded b).length / 64) 0
  simp only [Nat.mul_zero, List.drop_zero, Nat.zero_add] at this
  have e : stP (padded b) 0 = shaH := rfl
  rw [e] at this
  rw [this]
/-- The first k bytes of a sum, laid over l. -/
def outTo (s : List UInt32) : Nat → List UInt8 → List UInt8
  | 0, l => l
  | k + 1, l => (outTo s k l).set k (UInt8.ofNat ((s.getD (k / 4) 0).toNat / 2 ^ (24 - 8 * (k % 4))))
theorem outTo_len (s : List UInt32) : ∀ (k : Nat) (l : List UInt8), (outTo s k l).length = l.length
  | 0, _ => rfl
  | k + 1, l => by rw [outTo, List.length_set, outTo_len s k l]
theorem outTo_get (s : List UInt32) (l : List UInt8) : ∀ k, k ≤ l.length → ∀ j, j < k → (outTo s k l)[j]? = some (UInt8.ofNat ((s.getD (j / 4) 0).toNat / 2 ^ (24 - 8 * (j % 4))))
  | 0, _, j, hj => by omega
  | k + 1, hk, j, hj => by
    rw [outTo]
    by_cases e : j = k
    · subst e
      rw [List.getElem?_set_self (by rw [outTo_len]; omega)]
    · rw [List.getElem?_set_ne (by omega)]
      exact outTo_get s l k (by omega) j (by omega)
theorem outTo_all (s : List UInt32) (l : List UInt8) (h : l.length = 32) : outTo s 32 l = outSha s := by
  apply List.ext_getElem?
  intro i
  by_cases hi : i < 32
  · rw [outTo_get s l 32 (by omega) i hi]
    simp [outSha, hi]
  · rw [List.getElem?_eq_none (by rw [outTo_len]; omega), List.getElem?_eq_none (by rw [outSha_len]; omega)]
end Go.Proofs.Ytibolcekhdapaaa
