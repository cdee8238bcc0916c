/- Values and rows, in plain lists: bytes, what is wrong with them, how they are read. Rows: what was written is read as it was; what is read is written as it stood. Rows are written: code's Bytes, the document's. Values, and rows of values, that came in. Values made good, in plain words. -/
import Derived.Test.YtoahnhphfabajaaGreatGB
import Derived.Test.YtoahnhphfabajaaGreatGA
import Derived.Laws.ResultCell
namespace Go.Proofs.YtoahnhphfabajaaGreat
set_option maxRecDepth 10000
open Go.RowKit
set_option linter.unusedVariables false
set_option maxRecDepth 10000
set_option linter.unusedSimpArgs false

/-- A value. -/
structure Val where
  kind : Int
  n : Int
  s : ByteArray
def noV : Val := ⟨0, 0, ⟨#[]⟩⟩
def Val.cells (v : Val) : List Value := [.int .i64 v.kind, .int .i64 v.n, .string v.s]
def valCells (l : List Val) : List Value := l.flatMap Val.cells
theorem valCells_length (l : List Val) : (valCells l).length = l.length * 3 := by
  induction l with
  | nil => rfl
  | cons c l ih => simp [valCells, Val.cells] at *; omega
theorem valCells_app (a b : List Val) : valCells (a ++ b) = valCells a ++ valCells b := by simp [valCells]
theorem valCells_one (l : List Val) : ∀ u ∈ valCells l, u.oneCell' = true := by
  intro u hu
  simp only [valCells, List.mem_flatMap] at hu
  obtain ⟨c, _, hc⟩ := hu
  simp only [Val.cells, List.mem_cons, List.not_mem_nil, or_false] at hc
  rcases hc with rfl | rfl | rfl <;> rfl
theorem valCells_get (l : List Val) (k j : Nat) (hk : k < l.length) (hj : j < 3) : (valCells l)[k * 3 + j]? = (l[k].cells)[j]? := by
  induction l generalizing k with
  | nil => simp at hk
  | cons c l ih =>
    rw [valCells, List.flatMap_cons]
    cases k with
    | zero => rw [Nat.zero_mul, Nat.zero_add, List.getElem?_append_left (by simpa [Val.cells] using hj)]; rfl
    | succ k =>
      rw [List.getElem?_append_right (by simp [Val.cells]; omega), show (k + 1) * 3 + j - c.cells.length = k * 3 + j by simp [Val.cells]; omega]
      exact ih k (by simpa using hk)

/-- What a Go program's memory can hold. -/
def Val.fits (v : Val) : Prop := (-9223372036854775808 ≤ v.kind ∧ v.kind ≤ 9223372036854775807) ∧ (-9223372036854775808 ≤ v.n ∧ v.n ≤ 9223372036854775807) ∧ v.s.size ≤ maxLen

/-- Bytes of a value, of a row. -/
def valTail (v : Val) : List UInt8 := if v.kind = 1 then [byte1 v.n] else if v.kind = 2 then le8 v.n else if v.kind = 3 then textBytes v.s.data.toList else []
def valBytes (v : Val) : List UInt8 := byte1 v.kind :: valTail v
def valsBytes (l : List Val) : List UInt8 := l.flatMap valBytes
def rowBytes (l : List Val) : List UInt8 := byte1 (l.length : Nat) :: valsBytes l
theorem valsBytes_step (l : List Val) (k : Nat) (hk : k < l.length) : valsBytes (l.take (k + 1)) = valsBytes (l.take k) ++ valBytes l[k] := by
  unfold valsBytes
  rw [List.take_succ_eq_append_getElem hk, List.flatMap_append]; simp
theorem valTail_len (v : Val) : (valTail v).length ≤ 65537 := by
  unfold valTail
  split
  · simp
  · split
    · rw [le8_length]; omega
    · split
      · rw [textBytes_length]; omega
      · simp
theorem valBytes_len (v : Val) : (valBytes v).length ≤ 65538 := by
  have := valTail_len v
  unfold valBytes
  rw [List.length_cons]; omega
theorem valsBytes_len (l : List Val) : (valsBytes l).length ≤ l.length * 65538 := by
  induction l with
  | nil => simp [valsBytes]
  | cons c l ih =>
    have := valBytes_len c
    unfold valsBytes at *
    rw [List.flatMap_cons, List.length_append, List.length_cons]
    omega
theorem rowBytes_len (l : List Val) : (rowBytes l).length ≤ l.length * 65538 + 1 := by
  have := valsBytes_len l
  unfold rowBytes
  rw [List.length_cons]; omega

/-- What is wrong with a value, with values. -/
def Val.odd (v : Val) : Bool := (v.kind != 3 && v.s.size != 0) || (v.kind != 1 && v.kind != 2 && v.n != 0) || (v.kind == 1 && v.n != 0 && v.n != 1)
def vcheck (v : Val) : Int := if v.kind < 0 ∨ 3 < v.kind then 3 else if v.odd then 1 else if 60 < v.s.size then 5 else 0
def vsCheck : List Val → Int
  | [] => 0
  | v :: l => if vcheck v = 0 then vsCheck l else vcheck v

/-- A value is read; so many; a row. -/
def RS.readVal (s : RS) : Val × RS :=
  if s.readByte.1 = 0 then (⟨0, 0, ⟨#[]⟩⟩, s.readByte.2)
  else if s.readByte.1 = 1 then (⟨1, s.readByte.2.readByte.1, ⟨#[]⟩⟩, s.readByte.2.readByte.2)
  else if s.readByte.1 = 2 then (⟨2, s.readByte.2.readInt.1, ⟨#[]⟩⟩, s.readByte.2.readInt.2)
  else if s.readByte.1 = 3 then (⟨3, 0, strOf s.readByte.2.readText.1⟩, s.readByte.2.readText.2)
  else (⟨s.readByte.1, 0, ⟨#[]⟩⟩, s.readByte.2.fail 3)
def RS.vals (s : RS) : Nat → List Val × RS
  | 0 => ([], s)
  | n + 1 => ((s.vals n).1 ++ [(s.vals n).2.readVal.1], (s.vals n).2.readVal.2)
def RS.headR (s : RS) : Nat × RS := if 6 < s.readByte.1 then (0, s.readByte.2.fail 4) else (s.readByte.1.toNat, s.readByte.2)
def finR (l : List Val) (e : Int) : List Val × Int := if e ≠ 0 then ([], e) else if vsCheck l ≠ 0 then ([], vsCheck l) else (l, 0)
def RS.row (s : RS) : List Val × Int := finR (s.headR.2.vals s.headR.1).1 (s.headR.2.vals s.headR.1).2.endErr
def rowRes (bs : List UInt8) : List Val × Int := RS.row ⟨bs, 0⟩

/-- An error stays. -/
theorem RS.fail_err (s : RS) (f : Int) (h : s.err ≠ 0) : (s.fail f).err = s.err := by unfold RS.fail failed; rw [if_neg h]
theorem RS.take_stay (s : RS) (n : Nat) (h : s.err ≠ 0) : (s.take n).2.err = s.err := by
  have h1 : (s.cutIf n).err = s.err := by
    unfold RS.cutIf
    split
    · exact RS.fail_err s 8 h
    · rfl
  unfold RS.take
  rw [if_neg (by rw [h1]; exact h)]
  exact h1
theorem RS.readByte_stay (s : RS) (h : s.err ≠ 0) : s.readByte.2.err = s.err := RS.take_stay s 1 h
theorem RS.readInt_stay (s : RS) (h : s.err ≠ 0) : s.readInt.2.err = s.err := RS.take_stay s 8 h
theorem RS.readText_stay (s : RS) (h : s.err ≠ 0) : s.readText.2.err = s.err := by
  have h1 : (s.number 2).2.err = s.err := RS.take_stay s 2 h
  unfold RS.readText
  rw [RS.take_stay _ _ (by rw [h1]; exact h), h1]
theorem RS.readVal_stay (s : RS) (h : s.err ≠ 0) : s.readVal.2.err = s.err := by
  have h1 := RS.readByte_stay s h
  unfold RS.readVal
  generalize s.readByte.2 = r at *
  have h' : r.err ≠ 0 := by rw [h1]; exact h
  split
  · exact h1
  · split
    · rw [← h1]; exact RS.readByte_stay r h'
    · split
      · rw [← h1]; exact RS.readInt_stay r h'
      · split
        · rw [← h1]; exact RS.readText_stay r h'
        · rw [← h1]; exact RS.fail_err r 3 h'
theorem RS.vals_stay (s : RS) (h : s.err ≠ 0) : ∀ n, (s.vals n).2.err = s.err
  | 0 => rfl
  | n + 1 => by
    have ih := RS.vals_stay s h n
    rw [RS.vals]
    show (s.vals n).2.readVal.2.err = s.err
    rw [RS.readVal_stay _ (by rw [ih]; exact h), ih]
theorem RS.vals_add (s : RS) (m : Nat) : ∀ n, s.vals (m + n) = ((s.vals m).1 ++ ((s.vals m).2.vals n).1, ((s.vals m).2.vals n).2)
  | 0 => by simp [RS.vals]
  | n + 1 => by
    rw [← Nat.add_assoc, RS.vals, RS.vals_add s m n]
    simp [RS.vals]
theorem RS.vals_len (s : RS) : ∀ n, (s.vals n).1.length = n
  | 0 => rfl
  | n + 1 => by rw [RS.vals]; simp [RS.vals_len s n]
theorem endErr_bad (s : RS) (h : s.err ≠ 0) : s.endErr = s.err := by
  unfold RS.endErr
  rw [if_neg (by rintro ⟨h', _⟩; exact h h')]
theorem finR_err (a b : List Val) (e : Int) (h : e ≠ 0) : finR a e = finR b e := by unfold finR; rw [if_pos h, if_pos h]
/-- The document stops at the first error. -/
theorem RS.row_stop (s : RS) (k : Nat) (hk : k ≤ s.headR.1) (he : (s.headR.2.vals k).2.err ≠ 0) :
    s.row = finR (s.headR.2.vals k).1 (s.headR.2.vals k).2.endErr := by
  unfold RS.row
  obtain ⟨d, hd⟩ : ∃ d, s.headR.1 = k + d := ⟨s.headR.1 - k, by omega⟩
  rw [hd, RS.vals_add]
  dsimp only
  have h1 := RS.vals_stay _ he d
  rw [endErr_bad _ (by rw [h1]; exact he), endErr_bad _ he, h1]
  exact finR_err _ _ _ he
theorem readByte_bd (s : RS) : 0 ≤ s.readByte.1 ∧ s.readByte.1 ≤ 255 := by
  have hl : (s.take 1).1.length ≤ 1 := by
    unfold RS.take; split
    · simp; omega
    · simp
  show 0 ≤ leInt (s.take 1).1 ∧ leInt (s.take 1).1 ≤ 255
  generalize (s.take 1).1 = l at hl
  match l, hl with
  | [], _ => decide
  | [b], _ =>
    have e : b = byte1 (b.toNat : Int) := by
      apply UInt8.toNat_inj.1
      have h1 := byte1_nat (b.toNat : Int)
      have h2 := b.toNat_lt
      omega
    rw [e, le_byte1]
    omega
theorem headR_le (s : RS) : s.headR.1 ≤ 6 := by
  unfold RS.headR
  have := readByte_bd s
  split
  · simp
  · simp; omega
theorem readText_len (s : RS) : s.readText.1.length ≤ 65535 := by
  obtain ⟨m, h1, h2⟩ := number2_lt s
  unfold RS.readText
  rw [h1]
  generalize (s.number 2).2 = r
  unfold RS.take
  split
  · rw [List.length_take]; omega
  · simp
theorem leInt_bd (l : List UInt8) : -9223372036854775808 ≤ leInt l ∧ leInt l ≤ 9223372036854775807 := by
  unfold leInt
  rw [IntKind.wrap_i64]
  omega
theorem none_fits : (⟨#[]⟩ : ByteArray).size ≤ maxLen := by show (0 : Nat) ≤ maxLen; omega
theorem readVal_fits (s : RS) : s.readVal.1.fits := by
  have h1 := readByte_bd s
  have h2 := readText_len s.readByte.2
  have h3 := leInt_bd (s.readByte.2.take 8).1
  have h4 := readByte_bd s.readByte.2
  unfold RS.readVal
  split
  · exact ⟨by simp, by simp, none_fits⟩
  · split
    · refine ⟨?_, ?_, ?_⟩
      · simp
      · show _ ≤ s.readByte.2.readByte.1 ∧ s.readByte.2.readByte.1 ≤ _; omega
      · exact none_fits
    · split
      · exact ⟨by simp, h3, none_fits⟩
      · split
        · refine ⟨by simp, by simp, ?_⟩
          show (strOf s.readByte.2.readText.1).size ≤ _
          rw [strOf_size]
          simp only [maxLen]; omega
        · refine ⟨?_, ?_, ?_⟩
          · show _ ≤ s.readByte.1 ∧ s.readByte.1 ≤ _; omega
          · simp
          · exact none_fits
theorem vals_fits (s : RS) : ∀ (n : Nat), ∀ c ∈ (s.vals n).1, c.fits
  | 0, c, hc => by simp [RS.vals] at hc
  | n + 1, c, hc => by
    rw [RS.vals] at hc
    simp only [List.mem_append, List.mem_singleton] at hc
    rcases hc with hc | rfl
    · exact vals_fits s n c hc
    · exact readVal_fits _
end Go.Proofs.YtoahnhphfabajaaGreat
namespace Go.Proofs.YtoahnhphfabajaaGreat
set_option maxRecDepth 10000
open Go.RowKit
set_option linter.unusedVariables false
set_option linter.unusedSimpArgs false

theorem cutText_id {s : List UInt8} (h : s.length ≤ 65535) : cutText s = s := List.take_of_length_le h
theorem strOf_data (t : ByteArray) : strOf t.data.toList = t := by
  cases t; rfl
theorem ba_none {t : ByteArray} (h : t.size = 0) : t = ⟨#[]⟩ := by
  cases t with
  | mk d =>
    congr
    exact Array.eq_empty_of_size_eq_zero h
theorem vcheck_ok {v : Val} (h : vcheck v = 0) : (0 ≤ v.kind ∧ v.kind ≤ 3) ∧ (v.kind ≠ 3 → v.s = ⟨#[]⟩) ∧ (v.kind ≠ 1 → v.kind ≠ 2 → v.n = 0) ∧ (v.kind = 1 → v.n = 0 ∨ v.n = 1) ∧ v.s.size ≤ 60 := by
  unfold vcheck at h
  split at h
  · simp at h
  · split at h
    · simp at h
    · split at h
      · simp at h
      · rename_i h1 h2 h3
        simp [Val.odd] at h2
        obtain ⟨⟨h4, h5⟩, h6⟩ := h2
        refine ⟨by omega, fun h => ?_, fun h7 h8 => h5 h7 h8, fun h => ?_, by omega⟩
        · exact h4 h
        · by_cases h0 : v.n = 0
          · exact .inl h0
          · exact .inr (h6 h h0)
theorem readVal_one (v : Val) (r : List UInt8) (h : vcheck v = 0) (hf : v.fits) : RS.readVal ⟨valBytes v ++ r, 0⟩ = (v, ⟨r, 0⟩) := by
  obtain ⟨hk, h3, h12, h1, h60⟩ := vcheck_ok h
  obtain ⟨kind, n, s⟩ := v
  simp only at hk h3 h12 h1 h60
  have hr := read_byte kind (valTail ⟨kind, n, s⟩ ++ r)
  rw [Int.emod_eq_of_lt (by omega) (by omega)] at hr
  unfold RS.readVal valBytes
  rw [List.cons_append, hr]
  dsimp only
  have hc : kind = 0 ∨ kind = 1 ∨ kind = 2 ∨ kind = 3 := by omega
  rcases hc with rfl | rfl | rfl | rfl
  · rw [if_pos rfl]
    have e1 := h3 (by omega)
    have e2 := h12 (by omega) (by omega)
    subst e1 e2
    rfl
  · rw [if_neg (by omega), if_pos rfl]
    have e1 := h3 (by omega)
    subst e1
    have hb := read_byte n r
    rw [Int.emod_eq_of_lt (by have := h1 rfl; omega) (by have := h1 rfl; omega)] at hb
    show ((⟨1, (RS.readByte ⟨byte1 n :: r, 0⟩).1, _⟩ : Val), (RS.readByte ⟨byte1 n :: r, 0⟩).2) = _
    rw [hb]
  · rw [if_neg (by omega), if_neg (by omega), if_pos rfl]
    have e1 := h3 (by omega)
    subst e1
    have hb := read_int n r hf.2.1.1 hf.2.1.2
    show ((⟨2, (RS.readInt ⟨le8 n ++ r, 0⟩).1, _⟩ : Val), (RS.readInt ⟨le8 n ++ r, 0⟩).2) = _
    rw [hb]
  · rw [if_neg (by omega), if_neg (by omega), if_neg (by omega), if_pos rfl]
    have e2 := h12 (by omega) (by omega)
    subst e2
    have hb := read_text s.data.toList r
    rw [cutText_id (by rw [str_data]; omega)] at hb
    show ((⟨3, 0, strOf (RS.readText ⟨textBytes s.data.toList ++ r, 0⟩).1⟩ : Val), (RS.readText ⟨textBytes s.data.toList ++ r, 0⟩).2) = _
    rw [hb, strOf_data]
theorem vals_some (l : List Val) (r : List UInt8) (h : ∀ c ∈ l, vcheck c = 0 ∧ c.fits) : ∀ k, k ≤ l.length → RS.vals ⟨valsBytes l ++ r, 0⟩ k = (l.take k, ⟨valsBytes (l.drop k) ++ r, 0⟩)
  | 0, _ => rfl
  | k + 1, hk => by
    have hlt : k < l.length := by omega
    have e : valsBytes (l.drop k) ++ r = valBytes l[k] ++ (valsBytes (l.drop (k + 1)) ++ r) := by
      rw [List.drop_eq_getElem_cons hlt]
      unfold valsBytes
      rw [List.flatMap_cons, List.append_assoc]
    have hg := h _ (List.getElem_mem hlt)
    rw [RS.vals, vals_some l r h k (by omega)]
    dsimp only
    rw [e, readVal_one _ _ hg.1 hg.2, List.take_succ_eq_append_getElem hlt]
theorem vsCheck_ok : ∀ (l : List Val), (∀ c ∈ l, vcheck c = 0) → vsCheck l = 0
  | [], _ => rfl
  | v :: l, h => by rw [vsCheck, if_pos (h v (by simp)), vsCheck_ok l (fun c hc => h c (by simp [hc]))]
theorem vsCheck_all : ∀ (l : List Val), vsCheck l = 0 → ∀ c ∈ l, vcheck c = 0
  | [], _, c, hc => by simp at hc
  | v :: l, h, c, hc => by
    rw [vsCheck] at h
    split at h
    · rename_i hv
      simp at hc
      rcases hc with rfl | hc
      · exact hv
      · exact vsCheck_all l h c hc
    · contradiction
theorem head_row (l : List Val) (h : l.length ≤ 255) : RS.readByte ⟨rowBytes l, 0⟩ = ((l.length : Int), ⟨valsBytes l, 0⟩) := by
  have h2 := read_byte (l.length : Nat) (valsBytes l)
  rw [Int.emod_eq_of_lt (by omega) (by omega)] at h2
  exact h2
theorem row_good (l : List Val) (h : ∀ c ∈ l, vcheck c = 0 ∧ c.fits) (hl : l.length ≤ 6) : rowRes (rowBytes l) = (l, 0) := by
  have hh : RS.headR ⟨rowBytes l, 0⟩ = (l.length, ⟨valsBytes l ++ [], 0⟩) := by
    unfold RS.headR
    rw [head_row l (by omega)]
    dsimp only
    rw [if_neg (by omega)]
    simp
  have hv := vals_some l [] h l.length (Nat.le_refl _)
  rw [List.take_length, List.drop_length] at hv
  unfold rowRes RS.row
  rw [hh]
  dsimp only
  rw [hv]
  have he : RS.endErr ⟨valsBytes [] ++ [], 0⟩ = 0 := rfl
  dsimp only
  rw [he]
  unfold finR
  rw [if_neg (by simp), vsCheck_ok l (fun c hc => (h c hc).1)]
  simp
theorem row_many (l : List Val) (hl : 6 < l.length) (h : l.length ≤ 255) : rowRes (rowBytes l) = ([], 4) := by
  have hh : RS.headR ⟨rowBytes l, 0⟩ = (0, ⟨valsBytes l, 4⟩) := by
    unfold RS.headR
    rw [head_row l h]
    dsimp only
    rw [if_pos (by omega)]
    rfl
  unfold rowRes RS.row
  rw [hh]
  rfl

theorem take_inv (s : RS) (n : Nat) (h : (s.take n).2.err = 0) : s.err = 0 ∧ n ≤ s.rest.length ∧ s.take n = (s.rest.take n, ⟨s.rest.drop n, 0⟩) := by
  by_cases hc : (s.cutIf n).err = 0
  · obtain ⟨h1, h2, h3⟩ := take_good s n hc
    exact ⟨h3, h2, h1⟩
  · rw [take_err s n hc] at h
    exact absurd h hc
theorem byte1_leInt (b : UInt8) : byte1 (leInt [b]) = b := by
  have e : b = byte1 (b.toNat : Int) := by
    apply UInt8.toNat_inj.1
    have h1 := byte1_nat (b.toNat : Int)
    have h2 := b.toNat_lt
    omega
  have hb := b.toNat_lt
  conv => lhs; rw [e]
  rw [le_byte1, Int.emod_eq_of_lt (by omega) (by omega)]
  exact e.symm
theorem leNat_inj : ∀ (a b : List UInt8), a.length = b.length → leNat a = leNat b → a = b
  | [], [], _, _ => rfl
  | [], y :: b, h, _ => by simp at h
  | x :: a, [], h, _ => by simp at h
  | x :: a, y :: b, h, e => by
    simp only [leNat] at e
    have hx := x.toNat_lt
    have hy := y.toNat_lt
    have h1 : x.toNat = y.toNat := by omega
    have h2 : leNat a = leNat b := by omega
    rw [UInt8.toNat_inj.1 h1, leNat_inj a b (by simpa using h) h2]
theorem le8_leInt (l : List UInt8) (h : l.length = 8) : le8 (leInt l) = l := by
  have hb := leInt_bd l
  have h1 := le_le8 (leInt l) hb.1 hb.2
  have l1 := leNat_lt l
  have l2 := leNat_lt (le8 (leInt l))
  rw [le8_length] at l2
  rw [h] at l1
  apply leNat_inj _ _ (by rw [le8_length, h])
  generalize le8 (leInt l) = m at *
  unfold leInt at h1
  rw [IntKind.wrap_i64, IntKind.wrap_i64] at h1
  generalize leNat m = x at *
  generalize leNat l = y at *
  omega
theorem readByte_inv (s : RS) (h : s.readByte.2.err = 0) : s.err = 0 ∧ s.rest = byte1 s.readByte.1 :: s.readByte.2.rest := by
  obtain ⟨h1, h2, h3⟩ := take_inv s 1 h
  refine ⟨h1, ?_⟩
  show s.rest = byte1 (leInt (s.take 1).1) :: (s.take 1).2.rest
  rw [h3]
  match hr : s.rest, h2 with
  | [], h2 => simp at h2
  | b :: t, _ => simp [byte1_leInt]
theorem readInt_inv (s : RS) (h : s.readInt.2.err = 0) : s.err = 0 ∧ s.rest = le8 s.readInt.1 ++ s.readInt.2.rest := by
  obtain ⟨h1, h2, h3⟩ := take_inv s 8 h
  refine ⟨h1, ?_⟩
  show s.rest = le8 (leInt (s.take 8).1) ++ (s.take 8).2.rest
  rw [h3]
  dsimp only
  rw [le8_leInt _ (by rw [List.length_take]; omega), List.take_append_drop]
theorem textBytes_of (t : List UInt8) (h : t.length ≤ 65535) : textBytes t = [byte1 (t.length : Nat), byte1 ((t.length : Nat) / 256)] ++ t := by
  unfold textBytes
  rw [cutText_id h]
theorem leInt_two (a b : UInt8) : leInt [a, b] = ((a.toNat + 256 * b.toNat : Nat) : Int) := by
  have ha := a.toNat_lt
  have hb := b.toNat_lt
  simp only [leInt, leNat]
  rw [IntKind.wrap_i64]
  omega
theorem byte1_of (a : UInt8) (n : Int) (h : n % 256 = (a.toNat : Int)) : byte1 n = a := by
  apply UInt8.toNat_inj.1
  have := byte1_nat n
  omega
theorem readText_inv (s : RS) (h : s.readText.2.err = 0) : s.err = 0 ∧ s.rest = textBytes s.readText.1 ++ s.readText.2.rest := by
  obtain ⟨m, hm, hm2⟩ := number2_lt s
  have e : s.readText = (s.number 2).2.take m := by unfold RS.readText; rw [hm]; rfl
  rw [e] at h ⊢
  obtain ⟨h1, h2, h3⟩ := take_inv _ m h
  obtain ⟨h4, h5, h6⟩ := take_inv s 2 h1
  refine ⟨h4, ?_⟩
  rw [h3]
  have en : s.number 2 = (leInt (s.rest.take 2), ⟨s.rest.drop 2, 0⟩) := by unfold RS.number; rw [h6]
  rw [en] at hm h2 ⊢
  dsimp only at hm h2 ⊢
  have hl : ((s.rest.drop 2).take m).length = m := by rw [List.length_take]; omega
  rw [textBytes_of _ (by omega), hl]
  match hr : s.rest, h5 with
  | [], h5 => simp at h5
  | [_], h5 => simp at h5
  | a :: b :: t, _ =>
    rw [hr] at hm
    have ha := a.toNat_lt
    have hb := b.toNat_lt
    simp only [List.take_succ_cons, List.take_zero] at hm
    rw [leInt_two] at hm
    simp only [List.drop_succ_cons, List.drop_zero]
    rw [byte1_of a (m : Nat) (by omega), byte1_of b _ (by omega)]
    simp
theorem endErr_inv (s : RS) (h : s.endErr = 0) : s.err = 0 ∧ s.rest = [] := by
  unfold RS.endErr at h
  split at h
  · simp at h
  · rename_i hn
    refine ⟨h, ?_⟩
    by_cases hr : s.rest = []
    · exact hr
    · exact absurd ⟨h, hr⟩ hn
theorem fail_bad (s : RS) (f : Int) (hf : f ≠ 0) (h : (s.fail f).err = 0) : False := by
  unfold RS.fail failed at h
  split at h
  · exact hf h
  · contradiction
theorem readVal_inv (s : RS) (h : s.readVal.2.err = 0) (hc : vcheck s.readVal.1 = 0) : s.err = 0 ∧ s.rest = valBytes s.readVal.1 ++ s.readVal.2.rest := by
  have hb := readByte_inv s
  unfold RS.readVal at h hc ⊢
  split at h
  · rename_i h0
    rw [if_pos h0]
    obtain ⟨e1, e2⟩ := hb h
    refine ⟨e1, ?_⟩
    rw [h0] at e2
    exact e2
  · split at h
    · rename_i h0 h1
      rw [if_neg h0, if_pos h1] at hc ⊢
      obtain ⟨e1, e2⟩ := readByte_inv _ h
      obtain ⟨e3, e4⟩ := hb e1
      refine ⟨e3, ?_⟩
      rw [e4, e2, h1]
      rfl
    · split at h
      · rename_i h0 h1 h2
        rw [if_neg h0, if_neg h1, if_pos h2] at hc ⊢
        obtain ⟨e1, e2⟩ := readInt_inv _ h
        obtain ⟨e3, e4⟩ := hb e1
        refine ⟨e3, ?_⟩
        rw [e4, e2, h2]
        rfl
      · split at h
        · rename_i h0 h1 h2 h3
          rw [if_neg h0, if_neg h1, if_neg h2, if_pos h3] at hc ⊢
          obtain ⟨e1, e2⟩ := readText_inv _ h
          obtain ⟨e3, e4⟩ := hb e1
          refine ⟨e3, ?_⟩
          rw [e4, e2, h3]
          rfl
        · exact (fail_bad _ 3 (by omega) h).elim
theorem vals_inv (s : RS) : ∀ (n : Nat), (s.vals n).2.err = 0 → (∀ c ∈ (s.vals n).1, vcheck c = 0) → s.err = 0 ∧ s.rest = valsBytes (s.vals n).1 ++ (s.vals n).2.rest
  | 0, h, _ => ⟨h, by simp [RS.vals, valsBytes]⟩
  | n + 1, h, hc => by
    rw [RS.vals] at h hc ⊢
    obtain ⟨e1, e2⟩ := readVal_inv _ h (hc _ (by simp))
    obtain ⟨e3, e4⟩ := vals_inv s n e1 (fun c h' => hc c (by simp [h']))
    refine ⟨e3, ?_⟩
    dsimp only
    rw [e4, e2]
    simp [valsBytes]
theorem row_inv (bs : List UInt8) (h : (rowRes bs).2 = 0) : rowBytes (rowRes bs).1 = bs ∧ (rowRes bs).1.length ≤ 6 ∧ ∀ c ∈ (rowRes bs).1, vcheck c = 0 ∧ c.fits := by
  have hl := headR_le ⟨bs, 0⟩
  have hlen := RS.vals_len (RS.headR ⟨bs, 0⟩).2 (RS.headR ⟨bs, 0⟩).1
  have hfit := vals_fits (RS.headR ⟨bs, 0⟩).2 (RS.headR ⟨bs, 0⟩).1
  have hv := vals_inv (RS.headR ⟨bs, 0⟩).2 (RS.headR ⟨bs, 0⟩).1
  have he := endErr_inv ((RS.headR ⟨bs, 0⟩).2.vals (RS.headR ⟨bs, 0⟩).1).2
  unfold rowRes RS.row at h ⊢
  unfold finR at h ⊢
  split at h
  · contradiction
  · split at h
    · contradiction
    · rename_i h1 h2
      have h1' := Classical.not_not.1 h1
      have h2' := Classical.not_not.1 h2
      rw [if_neg h1, if_neg h2]
      dsimp only
      obtain ⟨e1, e2⟩ := he h1'
      have hck := vsCheck_all _ h2'
      obtain ⟨e3, e4⟩ := hv e1 hck
      refine ⟨?_, by omega, fun c hc => ⟨hck c hc, hfit c hc⟩⟩
      rw [e2, List.append_nil] at e4
      unfold rowBytes
      rw [← e4, hlen]
      have hb := readByte_inv ⟨bs, 0⟩
      have hbd := readByte_bd ⟨bs, 0⟩
      unfold RS.headR at e3 ⊢
      split at e3
      · exact (fail_bad _ 4 (by omega) e3).elim
      · rename_i h6
        rw [if_neg h6]
        obtain ⟨e5, e6⟩ := hb e3
        dsimp only at e6 ⊢
        conv => rhs; rw [e6]
        rw [Int.toNat_of_nonneg hbd.1]
end Go.Proofs.YtoahnhphfabajaaGreat
namespace Go.Proofs.YtoahnhphfabajaaGreat
set_option maxRecDepth 10000
open Go.RowKit
set_option linter.unusedVariables false
set_option linter.unusedSimpArgs false
set_option linter.unnecessarySimpa false

theorem cellV {L : List Nat} {a w : World} (h : Turns L a w) {p : Addr} {v : Value} (hc : a.cell? p = some v) (hp : p.block ∉ L := by simp) : w.cell? p = some v :=
  (World.cell?_of_block (h.block p.block (World.block_lt_of_cell? a p hc) hp)).trans hc
theorem rangeV {a w : World} (h : Turns [] a w) {b o : Nat} {cs : List Value} (hc : a.rangeAt b o cs) : w.rangeAt b o cs := fun j v hj => cellV h (hc j v hj)
theorem own_vL {L : List Nat} {w w' : World} {base : Nat} {e : TypeId} {size n : Nat} {v : Value} {xs : List Value} (h : w.ownsRow base e size v n xs) (t : Turns L w w') (hn : ∀ x ∈ L, v.ownBlock ≠ some x) : w'.ownsRow base e size v n xs := by
  obtain ⟨h1, h2⟩ := h
  refine ⟨h1, ?_⟩
  rcases h2 with h2 | ⟨g, cap, cur, hv, hg, hh, r⟩
  · exact Or.inl h2
  · refine Or.inr ⟨g, cap, cur, hv, hg, ?_, r⟩
    rw [t.block g (Array.getElem?_eq_some_iff.1 hh).1 (fun hm => hn g hm (by rw [hv]; rfl))]
    exact hh
theorem own_v0 {w w' : World} {base : Nat} {e : TypeId} {size n : Nat} {v : Value} {xs : List Value} (h : w.ownsRow base e size v n xs) (t : Turns [] w w') : w'.ownsRow base e size v n xs := own_vL h t (by simp)
theorem own_formV {w : World} {base : Nat} {e : TypeId} {size n : Nat} {v : Value} {xs : List Value} (h : w.ownsRow base e size v n xs) : ∃ A c, v = .slice A n c := by
  rcases h.2 with ⟨rfl, rfl⟩ | ⟨g, cap, cur, rfl, _⟩
  · exact ⟨_, _, rfl⟩
  · exact ⟨_, _, rfl⟩
theorem sl_vals {w : World} {B n c : Nat} {A : Option Addr} {l : List Val} (hs : Sl w B 3 (.slice A n c) n (valCells l)) : n = l.length ∧ l.length ≤ maxLen := by
  have hl := hs.1
  rw [valCells_length] at hl
  obtain ⟨_, _, _, ee, h1, h2, _⟩ := hs
  injection ee with _ _ e3
  subst e3
  exact ⟨by omega, by omega⟩
theorem val_range {w : World} {B n c : Nat} {A : Option Addr} {l : List Val} (hs : Sl w B 3 (.slice A n c) n (valCells l)) (k : Nat) (hk : k < l.length) :
    ∃ b off, A = some ⟨b, off, none⟩ ∧ w.rangeAt b (off + k * 3) l[k].cells := by
  obtain ⟨_, _, _, ee, _, _, _, hrd⟩ := hs
  injection ee with e1 _ e3
  subst e1
  obtain ⟨b, off, rfl, hb, hc⟩ := hrd (by intro e; have := congrArg List.length e; rw [valCells_length] at this; simp at this; omega)
  refine ⟨b, off, rfl, fun j v hj => ?_⟩
  have hj3 : j < 3 := by
    have := (List.getElem?_eq_some_iff.1 hj).1
    simpa [Val.cells] using this
  have := hc (k * 3 + j) v (by rw [valCells_get l k j hk hj3]; exact hj)
  rw [Nat.add_assoc]
  exact this
theorem size_val (kd nn : Int) (tx : ByteArray) : (Tryz.prog.info? 109).map (·.size) = some ([.int .i64 kd, .int .i64 nn, .string tx] : List Value).length := by kernel_rfl
theorem zero_val (w : World) : (zeroValue 109).run Tryz.prog w = .ok (.agg #[.int .i64 0, .int .i64 0, .string ⟨#[]⟩]) w := by kernel_rfl

set_option maxRecDepth 100000 in
set_option maxHeartbeats 4000000 in
theorem RowBytes_any (l : List Val) (A : Option Addr) (n c B : Nat) (w : World) (hf : ∀ x ∈ l, x.fits) (hs : Sl w B 3 (.slice A n c) n (valCells l)) (hB : B ≤ w.heap.size) (hl : l.length ≤ 1000) :
    Calls Tryz.prog 75 #[.slice A n c] w fun e w' => ∃ v', e = .returned v' ∧ Mine w w' v' (rowBytes l) := by
  obtain ⟨rfl, hm⟩ := sl_vals hs
  unfold maxLen at hm
  have C0 := Lib.hid (CByte (l.length : Nat) (Mine.nil (Turns.refl [] w)) (by simp))
  have SL := Lib.hid hs
  clear hs
  go_enter Tryz.func75, Tryz.ntmps75
  go_wp2_with fail
  refine C0.out.mono ?_
  rintro e w1 ⟨v1, rfl, m1, t1⟩
  rw [List.nil_append] at m1
  have m1 : Mine w w1 v1 (byte1 (l.length : Nat) :: valsBytes (l.take 0)) := m1
  clear C0 t1
  go_wp2_with fail
  go_loopw [3, 11] (fun v i wr => ∃ k : Nat, k ≤ l.length ∧ i = .int .i64 k ∧ Mine w wr v (byte1 (l.length : Nat) :: valsBytes (l.take k))) (fun _ i _ => l.length - (intOf i).toNat)
  case atStart => exact ⟨0, by omega, rfl, m1⟩
  case round =>
    clear m1
    obtain ⟨k, hk, rfl, m0⟩ := hrel
    have hml : (byte1 (l.length : Nat) :: valsBytes (l.take k)).length ≤ 900000000 := by
      have := valsBytes_len (l.take k)
      rw [List.length_take] at this
      rw [List.length_cons]; omega
    by_cases hlt : k < l.length
    · have hst := Lib.hid (show byte1 (l.length : Nat) :: valsBytes (l.take (k + 1)) = (byte1 (l.length : Nat) :: valsBytes (l.take k)) ++ [byte1 l[k].kind] ++ valTail l[k] by rw [valsBytes_step _ k hlt]; simp [valBytes])
      obtain ⟨b, off, rfl, rg⟩ := val_range SL.out k hlt
      have hr := rangeV m0.turns rg
      have hfx := hf _ (List.getElem_mem hlt)
      obtain ⟨⟨kd, nn, tx⟩, hcc⟩ : ∃ cc, cc = l[k] := ⟨_, rfl⟩
      rw [← hcc] at hr hst hfx
      have hki : (k : Int) < (l.length : Int) := by omega
      replace hr : wr.rangeAt b (off + k * 3) [.int .i64 kd, .int .i64 nn, .string tx] := hr
      have htx : tx.size ≤ maxLen := hfx.2.2
      have hsz := size_val kd nn tx
      generalize byte1 (l.length : Nat) :: valsBytes (l.take k) = bs at m0 hml hst
      obtain ⟨X1, hX1⟩ : ∃ X1, X1 = wr.alloc (.cells #[.int .i64 kd, .int .i64 nn, .string tx] 109) := ⟨_, rfl⟩
      have b1 := Blk.new wr [.int .i64 kd, .int .i64 nn, .string tx] 109
      rw [show wr.alloc (.cells [.int .i64 kd, .int .i64 nn, .string tx].toArray 109) = X1 from hX1.symm] at b1
      have m0 := m0.alloc (.cells #[.int .i64 kd, .int .i64 nn, .string tx] 109)
      rw [← hX1] at m0
      have q0 := b1.cell 0
      have q1 := b1.cell 1
      have q2 := b1.cell 2
      simp only [List.getElem?_cons_zero, List.getElem?_cons_succ] at q0 q1 q2
      have HX1 := Lib.hid hX1
      have B0 := Lib.hid (CByte kd m0 (by omega))
      clear hX1 b1 hcc rg hfx m0
      go_upto_region 5 with (first
        | (refine wpList_load_mid rfl 109 (.tmp 13) rfl b (off + k * 3) rfl _ _ hr Tryz.underlying109 rfl hsz ?_)
        | fail)
      rw [← HX1.out]
      go_wp2_with fail
      refine B0.out.mono ?_
      rintro e x2 ⟨v2, rfl, m2, tt⟩
      have q0 := cellV tt q0
      have q1 := cellV tt q1
      have q2 := cellV tt q2
      clear tt B0 hr
      by_cases h1 : kd = 1
      · subst h1
        have W1 := Lib.hid (CByte nn m2 (by rw [List.length_append]; simp only [List.length_cons, List.length_nil]; omega))
        clear m2
        go_wp2_with fail
        refine W1.out.mono ?_
        rintro e x3 ⟨v3, rfl, m3, -⟩
        clear W1
        go_wp2_with fail
        go_roundw
        case rel => exact ⟨k + 1, by omega, by go_num, by rw [hst.out]; exact m3⟩
        case measure => (simp [intOf] <;> omega)
      by_cases h2 : kd = 2
      · subst h2
        have W1 := Lib.hid (CInt nn m2 (by rw [List.length_append]; simp only [List.length_cons, List.length_nil]; omega))
        clear m2
        go_wp2_with fail
        refine W1.out.mono ?_
        rintro e x3 ⟨v3, rfl, m3, -⟩
        clear W1
        go_wp2_with fail
        go_roundw
        case rel => exact ⟨k + 1, by omega, by go_num, by rw [hst.out]; exact m3⟩
        case measure => (simp [intOf] <;> omega)
      by_cases h3 : kd = 3
      · subst h3
        have W1 := Lib.hid (CText tx m2 (by rw [List.length_append]; simp only [List.length_cons, List.length_nil]; omega) htx)
        clear m2
        go_wp2_with fail
        refine W1.out.mono ?_
        rintro e x3 ⟨v3, rfl, m3, -⟩
        clear W1
        go_wp2_with fail
        go_roundw
        case rel => exact ⟨k + 1, by omega, by go_num, by rw [hst.out]; exact m3⟩
        case measure => (simp [intOf] <;> omega)
      have e1 : (kd == 1) = false := by simpa using h1
      have e2 : (kd == 2) = false := by simpa using h2
      have e3 : (kd == 3) = false := by simpa using h3
      have hv := Lib.hid (show valTail ⟨kd, nn, tx⟩ = [] by unfold valTail; simp [h1, h2, h3])
      go_wp2_with fail
      go_roundw
      case rel => exact ⟨k + 1, by omega, by go_num, by rw [hst.out, hv.out, List.append_nil]; exact m2⟩
      case measure => (simp [intOf] <;> omega)
    · obtain rfl : k = l.length := by omega
      rw [List.take_length] at m0
      go_wp2_with fail
      go_ret
      exact ⟨_, rfl, m0⟩

set_option maxRecDepth 100000 in
set_option maxHeartbeats 4000000 in
theorem refRowBytes_any (l : List Val) (A : Option Addr) (n c B : Nat) (w : World) (hf : ∀ x ∈ l, x.fits) (hs : Sl w B 3 (.slice A n c) n (valCells l)) (hB : B ≤ w.heap.size) (hl : l.length ≤ 1000) :
    Calls Tryz.prog 114 #[.slice A n c] w fun e w' => ∃ v', e = .returned v' ∧ Mine w w' v' (rowBytes l) := by
  obtain ⟨rfl, hm⟩ := sl_vals hs
  unfold maxLen at hm
  have C0 := Lib.hid (RByte (l.length : Nat) (Mine.nil (Turns.refl [] w)) (by simp))
  have SL := Lib.hid hs
  clear hs
  go_enter Tryz.func114, Tryz.ntmps114
  go_wp2_with fail
  refine C0.out.mono ?_
  rintro e w1 ⟨v1, rfl, m1⟩
  rw [List.nil_append] at m1
  have m1 : Mine w w1 v1 (byte1 (l.length : Nat) :: valsBytes (l.take 0)) := m1
  clear C0
  go_wp2_with fail
  go_loopw [3, 4] (fun v i wr => ∃ k : Nat, k ≤ l.length ∧ i = .int .i64 k ∧ Mine w wr v (byte1 (l.length : Nat) :: valsBytes (l.take k))) (fun _ i _ => l.length - (intOf i).toNat)
  case atStart => exact ⟨0, by omega, rfl, m1⟩
  case round =>
    clear m1
    obtain ⟨k, hk, rfl, m0⟩ := hrel
    have hml : (byte1 (l.length : Nat) :: valsBytes (l.take k)).length ≤ 900000000 := by
      have := valsBytes_len (l.take k)
      rw [List.length_take] at this
      rw [List.length_cons]; omega
    by_cases hlt : k < l.length
    · have hst := Lib.hid (show byte1 (l.length : Nat) :: valsBytes (l.take (k + 1)) = (byte1 (l.length : Nat) :: valsBytes (l.take k)) ++ [byte1 l[k].kind] ++ valTail l[k] by rw [valsBytes_step _ k hlt]; simp [valBytes])
      obtain ⟨b, off, rfl, rg⟩ := val_range SL.out k hlt
      have hfx := hf _ (List.getElem_mem hlt)
      obtain ⟨⟨kd, nn, tx⟩, hcc⟩ : ∃ cc, cc = l[k] := ⟨_, rfl⟩
      rw [← hcc] at rg hst hfx
      have hki : (k : Int) < (l.length : Int) := by omega
      have htx : tx.size ≤ maxLen := hfx.2.2
      generalize byte1 (l.length : Nat) :: valsBytes (l.take k) = bs at m0 hml hst
      have r0 : w.cell? ⟨b, off + k * 3, none⟩ = some (.int .i64 kd) := rg 0 _ rfl
      have r1 : w.cell? ⟨b, off + k * 3 + 1, none⟩ = some (.int .i64 nn) := rg 1 _ rfl
      have r2 : w.cell? ⟨b, off + k * 3 + 2, none⟩ = some (.string tx) := rg 2 _ rfl
      have R := Lib.hid (And.intro r0 (And.intro r1 r2))
      have q0 := cellV m0.turns r0
      have B0 := Lib.hid (RByte kd m0 (by omega))
      clear hcc rg hfx m0 r0 r1 r2
      go_wp2_with fail
      refine B0.out.mono ?_
      rintro e x2 ⟨v2, rfl, m2⟩
      have q0 := cellV m2.turns R.out.1
      have q1 := cellV m2.turns R.out.2.1
      have q2 := cellV m2.turns R.out.2.2
      clear B0
      by_cases h1 : kd = 1
      · subst h1
        have W1 := Lib.hid (RByte nn m2 (by rw [List.length_append]; simp only [List.length_cons, List.length_nil]; omega))
        clear m2
        go_wp2_with fail
        refine W1.out.mono ?_
        rintro e x3 ⟨v3, rfl, m3⟩
        clear W1
        go_wp2_with fail
        go_roundw
        case rel => exact ⟨k + 1, by omega, by go_num, by rw [hst.out]; exact m3⟩
        case measure => (simp [intOf] <;> omega)
      by_cases h2 : kd = 2
      · subst h2
        have W1 := Lib.hid (RInt nn m2 (by rw [List.length_append]; simp only [List.length_cons, List.length_nil]; omega))
        clear m2
        go_wp2_with fail
        refine W1.out.mono ?_
        rintro e x3 ⟨v3, rfl, m3⟩
        clear W1
        go_wp2_with fail
        go_roundw
        case rel => exact ⟨k + 1, by omega, by go_num, by rw [hst.out]; exact m3⟩
        case measure => (simp [intOf] <;> omega)
      by_cases h3 : kd = 3
      · subst h3
        have W1 := Lib.hid (RText tx m2 (by rw [List.length_append]; simp only [List.length_cons, List.length_nil]; omega) htx)
        clear m2
        go_wp2_with fail
        refine W1.out.mono ?_
        rintro e x3 ⟨v3, rfl, m3⟩
        clear W1
        go_wp2_with fail
        go_roundw
        case rel => exact ⟨k + 1, by omega, by go_num, by rw [hst.out]; exact m3⟩
        case measure => (simp [intOf] <;> omega)
      have e1 : (kd == 1) = false := by simpa using h1
      have e2 : (kd == 2) = false := by simpa using h2
      have e3 : (kd == 3) = false := by simpa using h3
      have hv := Lib.hid (show valTail ⟨kd, nn, tx⟩ = [] by unfold valTail; simp [h1, h2, h3])
      go_wp2_with fail
      go_roundw
      case rel => exact ⟨k + 1, by omega, by go_num, by rw [hst.out, hv.out, List.append_nil]; exact m2⟩
      case measure => (simp [intOf] <;> omega)
    · obtain rfl : k = l.length := by omega
      rw [List.take_length] at m0
      go_wp2_with fail
      go_ret
      exact ⟨_, rfl, m0⟩
end Go.Proofs.YtoahnhphfabajaaGreat
namespace Go.Proofs.YtoahnhphfabajaaGreat
set_option maxRecDepth 10000
open Go.RowKit Go.WideShapes
set_option linter.unusedVariables false
set_option linter.unusedSimpArgs false
set_option linter.unnecessarySimpa false

section
variable {H : Type} {enc : TypeId × Value → H} {w : World}
theorem csz_str : Tryz.prog.cellsOf 9 = 1 := by kernel_rfl
theorem csz_int : Tryz.prog.cellsOf 3 = 1 := by kernel_rfl
theorem csz_val : Tryz.prog.cellsOf 109 = 3 := by kernel_rfl
theorem vcells_of_trod {held : Bool} {fuel : Nat} {cs : List Value} {x : DataW H × List MemPlace} (h : DataW.trod enc Tryz.prog w 0 (fun _ => true) held fuel 109 cs = some x) :
    ∃ c : Val, cs = c.cells ∧ c.fits := by
  obtain ⟨xs, n, _, _, hl, hlen, hf⟩ := DataW.trod_struct Tryz.underlying109 h
  rw [csz_val] at hl
  have f0 := hf 0 _ (by simp only [List.getElem?_toArray, List.getElem?_cons_succ, List.getElem?_cons_zero]; rfl)
  have f1 := hf 1 _ (by simp only [List.getElem?_toArray, List.getElem?_cons_succ, List.getElem?_cons_zero]; rfl)
  have f2 := hf 2 _ (by simp only [List.getElem?_toArray, List.getElem?_cons_succ, List.getElem?_cons_zero]; rfl)
  rw [csz_int] at f0
  rw [csz_int] at f1
  rw [csz_str] at f2
  match xs, hlen, cs, hl with
  | [x0, x1, x2], _, [c0, c1, c2], _ =>
    obtain ⟨k, e0, _, hk⟩ := DataW.trod_int Tryz.underlying3 f0
    obtain ⟨m, e1, _, hm⟩ := DataW.trod_int Tryz.underlying3 f1
    obtain ⟨s, e2, _, hs⟩ := DataW.trod_string Tryz.underlying9 f2
    simp at e0 e1 e2
    subst e0 e1 e2
    exact ⟨⟨k, m, s⟩, rfl, bounds_i64 hk, bounds_i64 hm, hs⟩
/-- A value that reads as one; a row that does. -/
def ValsArg (w : World) (v : Value) (l : List Val) : Prop := Sl w w.heap.size 3 v l.length (valCells l) ∧ ∀ c ∈ l, c.fits
theorem val_of_trod {base : Nat} {v : Value} {d : DataW H} {p : List MemPlace} (hval : Value.okWide Tryz.prog w .any base 109 v) (h : DataW.Trod enc Tryz.prog w 0 (fun _ => true) true 109 v d p) : ∃ c : Val, v = .agg c.cells.toArray ∧ c.fits := by
  obtain ⟨cs, rfl, _⟩ := okWide_struct Tryz.underlying109 hval
  obtain ⟨fuel, hf⟩ := h
  obtain ⟨c, e, hc⟩ := vcells_of_trod hf
  refine ⟨c, ?_, hc⟩
  simp only [Value.cells] at e
  rw [← e]
theorem vals_of_trod {base : Nat} {v : Value} {d : DataW H} {p : List MemPlace} (hval : Value.okWide Tryz.prog w .any base 35 v) (h : DataW.Trod enc Tryz.prog w 0 (fun _ => true) true 35 v d p) : ∃ l, ValsArg w v l := by
  obtain ⟨A, len, cap, rfl⟩ := okWide_slice Tryz.underlying35 hval
  obtain ⟨fuel, hf⟩ := h
  obtain ⟨A', n, c, css, e1, hcl, hel, hsl⟩ := slice_of_trod Tryz.underlying35 csz_val (by omega) hf
  simp [Value.cells] at e1
  obtain ⟨rfl, rfl, rfl⟩ := e1
  obtain ⟨l, hn, hcs, hg⟩ := choose_all Val.cells Val.fits hcl (fun j hj => by
    obtain ⟨fu, y, _, hy⟩ := hel j hj
    exact vcells_of_trod hy)
  rw [hcs] at hsl
  refine ⟨l, ?_, hg⟩
  rw [hn]
  have e : (l.map Val.cells).flatten = valCells l := by unfold valCells; rw [List.flatMap_def]
  rw [e] at hsl
  exact hsl
end
end Go.Proofs.YtoahnhphfabajaaGreat
namespace Go.Proofs.YtoahnhphfabajaaGreat
set_option maxRecDepth 10000
open Go.RowKit
set_option linter.unusedVariables false
set_option linter.unusedSimpArgs false

def gval (v : Val) : Val := if v.kind % 4 = 1 then ⟨1, v.n % 2, ⟨#[]⟩⟩ else if v.kind % 4 = 2 then ⟨2, v.n, ⟨#[]⟩⟩ else if v.kind % 4 = 3 then ⟨3, 0, strOf (v.s.data.toList.take 60)⟩ else noV
theorem gval_kind (v : Val) : (gval v).kind = v.kind % 4 := by
  unfold gval
  split
  · simp; omega
  · split
    · simp; omega
    · split
      · simp; omega
      · simp [noV]; omega
theorem gval_ok (v : Val) : vcheck (gval v) = 0 := by
  unfold gval
  split
  · have h : v.n % 2 = 0 ∨ v.n % 2 = 1 := by omega
    rcases h with h | h <;> rw [h] <;> rfl
  · split
    · rfl
    · split
      · unfold vcheck
        have h : (strOf (v.s.data.toList.take 60)).size ≤ 60 := by rw [strOf_size, List.length_take]; omega
        simp [Val.odd]
        omega
      · rfl
theorem gval_fits (v : Val) (h : v.fits) : (gval v).fits := by
  obtain ⟨h1, h2, h3⟩ := h
  unfold gval
  split
  · exact ⟨by simp, by simp; omega, none_fits⟩
  · split
    · exact ⟨by simp, h2, none_fits⟩
    · split
      · refine ⟨by simp, by simp, ?_⟩
        show (strOf _).size ≤ _
        rw [strOf_size, List.length_take]
        unfold maxLen
        omega
      · exact ⟨by simp [noV], by simp [noV], none_fits⟩
theorem gval_small (v : Val) : (gval v).s.size ≤ 60 := (vcheck_ok (gval_ok v)).2.2.2.2
/-- Bytes tell rows of good values apart. -/
theorem vals_inj {a b : List Val} (ha : ∀ c ∈ a, vcheck c = 0 ∧ c.fits) (hb : ∀ c ∈ b, vcheck c = 0 ∧ c.fits) (hl : a.length = b.length) (h : valsBytes a = valsBytes b) : a = b := by
  have h1 := vals_some a [] ha a.length (Nat.le_refl _)
  have h2 := vals_some b [] hb a.length (by omega)
  rw [h, h2, List.take_length, hl, List.take_length] at h1
  exact (congrArg Prod.fst h1).symm
theorem row_inj {a b : List Val} (ha : ∀ c ∈ a, vcheck c = 0 ∧ c.fits) (hb : ∀ c ∈ b, vcheck c = 0 ∧ c.fits) (hl : a.length = b.length) : rowBytes a = rowBytes b ↔ a = b := by
  refine ⟨fun h => vals_inj ha hb hl ?_, fun h => by rw [h]⟩
  unfold rowBytes at h
  injection h
theorem size_none : (⟨#[]⟩ : ByteArray).size = 0 := rfl
/-- How long a good value's bytes are. -/
theorem valBytes_size (v : Val) (h : vcheck v = 0) : ((valBytes v).length : Int) = (if v.kind = 0 then 1 else if v.kind = 1 then 2 else if v.kind = 2 then 9 else 3) + v.s.size := by
  obtain ⟨hk, h3, _, _, h60⟩ := vcheck_ok h
  unfold valBytes valTail
  have hc : v.kind = 0 ∨ v.kind = 1 ∨ v.kind = 2 ∨ v.kind = 3 := by omega
  rcases hc with hc | hc | hc | hc
  · rw [h3 (by omega), size_none]; simp [hc]
  · rw [h3 (by omega), size_none]; simp [hc]
  · rw [h3 (by omega), size_none]; simp [hc, le8_length]
  · simp [hc, textBytes_length]
    have : v.s.data.size = v.s.size := rfl
    omega
end Go.Proofs.YtoahnhphfabajaaGreat
