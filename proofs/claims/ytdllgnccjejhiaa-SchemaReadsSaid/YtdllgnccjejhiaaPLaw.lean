/- Schemas are read, in plain words: code's way, the document's way: the same. -/
import Derived.Test.YtdllgnccjejhiaaRef1T
import Derived.Test.YtdllgnccjejhiaaGLaw
import Derived.Test.YtdllgnccjejhiaaRtsL
import Derived.Test.YtdllgnccjejhiaaSBytes
namespace Go.Proofs.Ytdllgnccjejhiaa
open Go.RowKit
set_option linter.unusedVariables false
set_option maxRecDepth 10000
set_option linter.unusedSimpArgs false
set_option linter.unnecessarySimpa false

def RS.readFlag (s : RS) : Bool × RS := (s.readByte.1 == 1, if 1 < s.readByte.1 then s.readByte.2.fail 10 else s.readByte.2)
def RS.readCol (s : RS) : Col × RS := (⟨strOf s.readText.1, s.readText.2.readByte.1, s.readText.2.readByte.2.readFlag.1⟩, s.readText.2.readByte.2.readFlag.2)
/-- So many columns, whatever comes. -/
def RS.cols (s : RS) : Nat → List Col × RS
  | 0 => ([], s)
  | n + 1 => ((s.cols n).1 ++ [(s.cols n).2.readCol.1], (s.cols n).2.readCol.2)
/-- How many are read; the state behind the number. -/
def RS.headN (s : RS) : Nat × RS := if 6 < s.readText.2.readByte.1 then (0, s.readText.2.readByte.2.fail 4) else (s.readText.2.readByte.1.toNat, s.readText.2.readByte.2)
def RS.tailKey (s : RS) : Int × Bool × RS := (s.readInt.1, s.readInt.2.readFlag.1, s.readInt.2.readFlag.2)
def noSch : Sch := ⟨⟨#[]⟩, [], 0, false⟩
def finish (s : Sch) (e : Int) : Sch × Int := if (if e = 0 then checkS s else e) = 0 then (s, 0) else (noSch, if e = 0 then checkS s else e)
def RS.schema (s : RS) : Sch × Int :=
  let c := s.headN.2.cols s.headN.1
  let k := c.2.tailKey
  finish ⟨strOf s.readText.1, c.1, k.1, k.2.1⟩ k.2.2.endErr
def parseRes (bs : List UInt8) : Sch × Int := RS.schema ⟨bs, 0⟩

/-- An error stays. -/
theorem RS.fail_err (s : RS) (f : Int) (h : s.err ≠ 0) : (s.fail f).err = s.err := by unfold RS.fail failed; rw [if_neg h]
theorem RS.take_stay (s : RS) (n : Nat) (h : s.err ≠ 0) : (s.take n).2.err = s.err := by
  have h1 : (s.cutIf n).err = s.err := by
    unfold RS.cutIf
    split
    · exact RS.fail_err s 8 h
    · rfl
  unfold RS.take
  rw [if_neg (by rw [h1]; exact h)]
  exact h1
theorem RS.readByte_stay (s : RS) (h : s.err ≠ 0) : s.readByte.2.err = s.err := RS.take_stay s 1 h
theorem RS.readInt_stay (s : RS) (h : s.err ≠ 0) : s.readInt.2.err = s.err := RS.take_stay s 8 h
theorem RS.readText_stay (s : RS) (h : s.err ≠ 0) : s.readText.2.err = s.err := by
  have h1 : (s.number 2).2.err = s.err := RS.take_stay s 2 h
  unfold RS.readText
  rw [RS.take_stay _ _ (by rw [h1]; exact h), h1]
theorem RS.readFlag_stay (s : RS) (h : s.err ≠ 0) : s.readFlag.2.err = s.err := by
  have h1 := RS.readByte_stay s h
  unfold RS.readFlag
  dsimp only
  split
  · rw [RS.fail_err _ _ (by rw [h1]; exact h), h1]
  · exact h1
theorem RS.readCol_stay (s : RS) (h : s.err ≠ 0) : s.readCol.2.err = s.err := by
  have h1 := RS.readText_stay s h
  unfold RS.readCol
  dsimp only
  generalize s.readText.2 = r at h1 ⊢
  have h2 := RS.readByte_stay r (by rw [h1]; exact h)
  generalize r.readByte.2 = r2 at h2 ⊢
  rw [RS.readFlag_stay r2 (by rw [h2, h1]; exact h), h2, h1]
theorem RS.cols_stay (s : RS) (h : s.err ≠ 0) : ∀ n, (s.cols n).2.err = s.err
  | 0 => rfl
  | n + 1 => by
    have ih := RS.cols_stay s h n
    rw [RS.cols]
    show (s.cols n).2.readCol.2.err = s.err
    generalize (s.cols n).2 = r at ih ⊢
    rw [RS.readCol_stay r (by rw [ih]; exact h), ih]
theorem RS.cols_add (s : RS) (m : Nat) : ∀ n, s.cols (m + n) = ((s.cols m).1 ++ ((s.cols m).2.cols n).1, ((s.cols m).2.cols n).2)
  | 0 => by simp [RS.cols]
  | n + 1 => by
    rw [← Nat.add_assoc, RS.cols, RS.cols_add s m n]
    simp [RS.cols]
theorem RS.tail_stay (s : RS) (h : s.err ≠ 0) : s.tailKey.2.2.endErr = s.err := by
  have h1 := RS.readInt_stay s h
  have h2 := RS.readFlag_stay _ (show s.readInt.2.err ≠ 0 by rw [h1]; exact h)
  show s.readInt.2.readFlag.2.endErr = s.err
  unfold RS.endErr
  have h3 : s.readInt.2.readFlag.2.err = s.err := h2.trans h1
  rw [if_neg (by rw [h3]; rintro ⟨h, _⟩; contradiction), h3]
theorem finish_err (s t : Sch) (e : Int) (h : e ≠ 0) : finish s e = finish t e := by
  unfold finish
  rw [if_neg h, if_neg h, if_neg h, if_neg h]
/-- The document stops at the first error. -/
theorem RS.schema_stop (s : RS) (k m : Nat) (hk : k ≤ s.headN.1) (he : (s.headN.2.cols k).2.err ≠ 0) (nm : ByteArray) :
    s.schema = finish ⟨nm, (s.headN.2.cols k).1, (s.headN.2.cols k).2.tailKey.1, (s.headN.2.cols k).2.tailKey.2.1⟩ (s.headN.2.cols k).2.tailKey.2.2.endErr := by
  unfold RS.schema
  dsimp only
  obtain ⟨d, hd⟩ : ∃ d, s.headN.1 = k + d := ⟨s.headN.1 - k, by omega⟩
  rw [hd, RS.cols_add]
  dsimp only
  have h1 := RS.cols_stay _ he d
  have h2 := RS.tail_stay _ he
  have h3 := RS.tail_stay ((s.headN.2.cols k).2.cols d).2 (by rw [h1]; exact he)
  rw [h3, h2, h1]
  exact finish_err _ _ _ he
end Go.Proofs.Ytdllgnccjejhiaa
