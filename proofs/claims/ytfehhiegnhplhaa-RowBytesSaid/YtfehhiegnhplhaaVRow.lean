/- Values and rows, in plain lists: bytes, what is wrong with them, how they are read. -/
import Derived.Test.YtfehhiegnhplhaaRtsL
import Derived.Test.YtfehhiegnhplhaaRef1T
namespace Go.Proofs.Ytfehhiegnhplhaa
open Go.RowKit
set_option linter.unusedVariables false
set_option maxRecDepth 10000
set_option linter.unusedSimpArgs false

/-- A value. -/
structure Val where
  kind : Int
  n : Int
  s : ByteArray
def noV : Val := ⟨0, 0, ⟨#[]⟩⟩
def Val.cells (v : Val) : List Value := [.int .i64 v.kind, .int .i64 v.n, .string v.s]
def valCells (l : List Val) : List Value := l.flatMap Val.cells
theorem valCells_length (l : List Val) : (valCells l).length = l.length * 3 := by
  induction l with
  | nil => rfl
  | cons c l ih => simp [valCells, Val.cells] at *; omega
theorem valCells_app (a b : List Val) : valCells (a ++ b) = valCells a ++ valCells b := by simp [valCells]
theorem valCells_one (l : List Val) : ∀ u ∈ valCells l, u.oneCell' = true := by
  intro u hu
  simp only [valCells, List.mem_flatMap] at hu
  obtain ⟨c, _, hc⟩ := hu
  simp only [Val.cells, List.mem_cons, List.not_mem_nil, or_false] at hc
  rcases hc with rfl | rfl | rfl <;> rfl
theorem valCells_get (l : List Val) (k j : Nat) (hk : k < l.length) (hj : j < 3) : (valCells l)[k * 3 + j]? = (l[k].cells)[j]? := by
  induction l generalizing k with
  | nil => simp at hk
  | cons c l ih =>
    rw [valCells, List.flatMap_cons]
    cases k with
    | zero => rw [Nat.zero_mul, Nat.zero_add, List.getElem?_append_left (by simpa [Val.cells] using hj)]; rfl
    | succ k =>
      rw [List.getElem?_append_right (by simp [Val.cells]; omega), show (k + 1) * 3 + j - c.cells.length = k * 3 + j by simp [Val.cells]; omega]
      exact ih k (by simpa using hk)

/-- What a Go program's memory can hold. -/
def Val.fits (v : Val) : Prop := (-9223372036854775808 ≤ v.kind ∧ v.kind ≤ 9223372036854775807) ∧ (-9223372036854775808 ≤ v.n ∧ v.n ≤ 9223372036854775807) ∧ v.s.size ≤ maxLen

/-- Bytes of a value, of a row. -/
def valTail (v : Val) : List UInt8 := if v.kind = 1 then [byte1 v.n] else if v.kind = 2 then le8 v.n else if v.kind = 3 then textBytes v.s.data.toList else []
def valBytes (v : Val) : List UInt8 := byte1 v.kind :: valTail v
def valsBytes (l : List Val) : List UInt8 := l.flatMap valBytes
def rowBytes (l : List Val) : List UInt8 := byte1 (l.length : Nat) :: valsBytes l
theorem valsBytes_step (l : List Val) (k : Nat) (hk : k < l.length) : valsBytes (l.take (k + 1)) = valsBytes (l.take k) ++ valBytes l[k] := by
  unfold valsBytes
  rw [List.take_succ_eq_append_getElem hk, List.flatMap_append]; simp
theorem valTail_len (v : Val) : (valTail v).length ≤ 65537 := by
  unfold valTail
  split
  · simp
  · split
    · rw [le8_length]; omega
    · split
      · rw [textBytes_length]; omega
      · simp
theorem valBytes_len (v : Val) : (valBytes v).length ≤ 65538 := by
  have := valTail_len v
  unfold valBytes
  rw [List.length_cons]; omega
theorem valsBytes_len (l : List Val) : (valsBytes l).length ≤ l.length * 65538 := by
  induction l with
  | nil => simp [valsBytes]
  | cons c l ih =>
    have := valBytes_len c
    unfold valsBytes at *
    rw [List.flatMap_cons, List.length_append, List.length_cons]
    omega
theorem rowBytes_len (l : List Val) : (rowBytes l).length ≤ l.length * 65538 + 1 := by
  have := valsBytes_len l
  unfold rowBytes
  rw [List.length_cons]; omega

/-- What is wrong with a value, with values. -/
def Val.odd (v : Val) : Bool := (v.kind != 3 && v.s.size != 0) || (v.kind != 1 && v.kind != 2 && v.n != 0) || (v.kind == 1 && v.n != 0 && v.n != 1)
def vcheck (v : Val) : Int := if v.kind < 0 ∨ 3 < v.kind then 3 else if v.odd then 1 else if 60 < v.s.size then 5 else 0
def vsCheck : List Val → Int
  | [] => 0
  | v :: l => if vcheck v = 0 then vsCheck l else vcheck v

/-- A value is read; so many; a row. -/
def RS.readVal (s : RS) : Val × RS :=
  if s.readByte.1 = 0 then (⟨0, 0, ⟨#[]⟩⟩, s.readByte.2)
  else if s.readByte.1 = 1 then (⟨1, s.readByte.2.readByte.1, ⟨#[]⟩⟩, s.readByte.2.readByte.2)
  else if s.readByte.1 = 2 then (⟨2, s.readByte.2.readInt.1, ⟨#[]⟩⟩, s.readByte.2.readInt.2)
  else if s.readByte.1 = 3 then (⟨3, 0, strOf s.readByte.2.readText.1⟩, s.readByte.2.readText.2)
  else (⟨s.readByte.1, 0, ⟨#[]⟩⟩, s.readByte.2.fail 3)
def RS.vals (s : RS) : Nat → List Val × RS
  | 0 => ([], s)
  | n + 1 => ((s.vals n).1 ++ [(s.vals n).2.readVal.1], (s.vals n).2.readVal.2)
def RS.headR (s : RS) : Nat × RS := if 6 < s.readByte.1 then (0, s.readByte.2.fail 4) else (s.readByte.1.toNat, s.readByte.2)
def finR (l : List Val) (e : Int) : List Val × Int := if e ≠ 0 then ([], e) else if vsCheck l ≠ 0 then ([], vsCheck l) else (l, 0)
def RS.row (s : RS) : List Val × Int := finR (s.headR.2.vals s.headR.1).1 (s.headR.2.vals s.headR.1).2.endErr
def rowRes (bs : List UInt8) : List Val × Int := RS.row ⟨bs, 0⟩

/-- An error stays. -/
theorem RS.fail_err (s : RS) (f : Int) (h : s.err ≠ 0) : (s.fail f).err = s.err := by unfold RS.fail failed; rw [if_neg h]
theorem RS.take_stay (s : RS) (n : Nat) (h : s.err ≠ 0) : (s.take n).2.err = s.err := by
  have h1 : (s.cutIf n).err = s.err := by
    unfold RS.cutIf
    split
    · exact RS.fail_err s 8 h
    · rfl
  unfold RS.take
  rw [if_neg (by rw [h1]; exact h)]
  exact h1
theorem RS.readByte_stay (s : RS) (h : s.err ≠ 0) : s.readByte.2.err = s.err := RS.take_stay s 1 h
theorem RS.readInt_stay (s : RS) (h : s.err ≠ 0) : s.readInt.2.err = s.err := RS.take_stay s 8 h
theorem RS.readText_stay (s : RS) (h : s.err ≠ 0) : s.readText.2.err = s.err := by
  have h1 : (s.number 2).2.err = s.err := RS.take_stay s 2 h
  unfold RS.readText
  rw [RS.take_stay _ _ (by rw [h1]; exact h), h1]
theorem RS.readVal_stay (s : RS) (h : s.err ≠ 0) : s.readVal.2.err = s.err := by
  have h1 := RS.readByte_stay s h
  unfold RS.readVal
  generalize s.readByte.2 = r at *
  have h' : r.err ≠ 0 := by rw [h1]; exact h
  split
  · exact h1
  · split
    · rw [← h1]; exact RS.readByte_stay r h'
    · split
      · rw [← h1]; exact RS.readInt_stay r h'
      · split
        · rw [← h1]; exact RS.readText_stay r h'
        · rw [← h1]; exact RS.fail_err r 3 h'
theorem RS.vals_stay (s : RS) (h : s.err ≠ 0) : ∀ n, (s.vals n).2.err = s.err
  | 0 => rfl
  | n + 1 => by
    have ih := RS.vals_stay s h n
    rw [RS.vals]
    show (s.vals n).2.readVal.2.err = s.err
    rw [RS.readVal_stay _ (by rw [ih]; exact h), ih]
theorem RS.vals_add (s : RS) (m : Nat) : ∀ n, s.vals (m + n) = ((s.vals m).1 ++ ((s.vals m).2.vals n).1, ((s.vals m).2.vals n).2)
  | 0 => by simp [RS.vals]
  | n + 1 => by
    rw [← Nat.add_assoc, RS.vals, RS.vals_add s m n]
    simp [RS.vals]
theorem RS.vals_len (s : RS) : ∀ n, (s.vals n).1.length = n
  | 0 => rfl
  | n + 1 => by rw [RS.vals]; simp [RS.vals_len s n]
theorem endErr_bad (s : RS) (h : s.err ≠ 0) : s.endErr = s.err := by
  unfold RS.endErr
  rw [if_neg (by rintro ⟨h', _⟩; exact h h')]
theorem finR_err (a b : List Val) (e : Int) (h : e ≠ 0) : finR a e = finR b e := by unfold finR; rw [if_pos h, if_pos h]
/-- The document stops at the first error. -/
theorem RS.row_stop (s : RS) (k : Nat) (hk : k ≤ s.headR.1) (he : (s.headR.2.vals k).2.err ≠ 0) :
    s.row = finR (s.headR.2.vals k).1 (s.headR.2.vals k).2.endErr := by
  unfold RS.row
  obtain ⟨d, hd⟩ : ∃ d, s.headR.1 = k + d := ⟨s.headR.1 - k, by omega⟩
  rw [hd, RS.vals_add]
  dsimp only
  have h1 := RS.vals_stay _ he d
  rw [endErr_bad _ (by rw [h1]; exact he), endErr_bad _ he, h1]
  exact finR_err _ _ _ he
theorem readByte_bd (s : RS) : 0 ≤ s.readByte.1 ∧ s.readByte.1 ≤ 255 := by
  have hl : (s.take 1).1.length ≤ 1 := by
    unfold RS.take; split
    · simp; omega
    · simp
  show 0 ≤ leInt (s.take 1).1 ∧ leInt (s.take 1).1 ≤ 255
  generalize (s.take 1).1 = l at hl
  match l, hl with
  | [], _ => decide
  | [b], _ =>
    have e : b = byte1 (b.toNat : Int) := by
      apply UInt8.toNat_inj.1
      have h1 := byte1_nat (b.toNat : Int)
      have h2 := b.toNat_lt
      omega
    rw [e, le_byte1]
    omega
theorem headR_le (s : RS) : s.headR.1 ≤ 6 := by
  unfold RS.headR
  have := readByte_bd s
  split
  · simp
  · simp; omega
theorem readText_len (s : RS) : s.readText.1.length ≤ 65535 := by
  obtain ⟨m, h1, h2⟩ := number2_lt s
  unfold RS.readText
  rw [h1]
  generalize (s.number 2).2 = r
  unfold RS.take
  split
  · rw [List.length_take]; omega
  · simp
theorem leInt_bd (l : List UInt8) : -9223372036854775808 ≤ leInt l ∧ leInt l ≤ 9223372036854775807 := by
  unfold leInt
  rw [IntKind.wrap_i64]
  omega
theorem none_fits : (⟨#[]⟩ : ByteArray).size ≤ maxLen := by show (0 : Nat) ≤ maxLen; omega
theorem readVal_fits (s : RS) : s.readVal.1.fits := by
  have h1 := readByte_bd s
  have h2 := readText_len s.readByte.2
  have h3 := leInt_bd (s.readByte.2.take 8).1
  have h4 := readByte_bd s.readByte.2
  unfold RS.readVal
  split
  · exact ⟨by simp, by simp, none_fits⟩
  · split
    · refine ⟨?_, ?_, ?_⟩
      · simp
      · show _ ≤ s.readByte.2.readByte.1 ∧ s.readByte.2.readByte.1 ≤ _; omega
      · exact none_fits
    · split
      · exact ⟨by simp, h3, none_fits⟩
      · split
        · refine ⟨by simp, by simp, ?_⟩
          show (strOf s.readByte.2.readText.1).size ≤ _
          rw [strOf_size]
          simp only [maxLen]; omega
        · refine ⟨?_, ?_, ?_⟩
          · show _ ≤ s.readByte.1 ∧ s.readByte.1 ≤ _; omega
          · simp
          · exact none_fits
theorem vals_fits (s : RS) : ∀ (n : Nat), ∀ c ∈ (s.vals n).1, c.fits
  | 0, c, hc => by simp [RS.vals] at hc
  | n + 1, c, hc => by
    rw [RS.vals] at hc
    simp only [List.mem_append, List.mem_singleton] at hc
    rcases hc with hc | rfl
    · exact vals_fits s n c hc
    · exact readVal_fits _
end Go.Proofs.Ytfehhiegnhplhaa
