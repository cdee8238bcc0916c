/- What was written is read as it was. -/
import Derived.Test.YtdllgnccjejhiaaParse
namespace Go.Proofs.Ytdllgnccjejhiaa
open Go.RowKit
set_option linter.unusedVariables false
set_option maxRecDepth 10000
set_option linter.unusedSimpArgs false
set_option linter.unnecessarySimpa false

theorem cutText_id {s : List UInt8} (h : s.length ≤ 65535) : cutText s = s := List.take_of_length_le h
theorem strOf_data (t : ByteArray) : strOf t.data.toList = t := by
  cases t; rfl
theorem flagI_bd (b : Bool) : flagI b % 256 = flagI b := by cases b <;> rfl
theorem readFlag_one (b : Bool) (r : List UInt8) : RS.readFlag ⟨byte1 (flagI b) :: r, 0⟩ = (b, ⟨r, 0⟩) := by
  unfold RS.readFlag
  rw [read_byte, flagI_bd]
  cases b <;> rfl
def okC (c : Col) : Prop := c.name.size ≤ 65535 ∧ 0 ≤ c.kind ∧ c.kind ≤ 255
theorem readCol_one (c : Col) (r : List UInt8) (h : okC c) : RS.readCol ⟨colBytes c ++ r, 0⟩ = (c, ⟨r, 0⟩) := by
  unfold RS.readCol colBytes
  simp only [List.append_assoc, List.cons_append, List.nil_append]
  rw [read_text]
  dsimp only
  rw [read_byte]
  dsimp only
  rw [readFlag_one, cutText_id (by rw [str_data]; exact h.1), strOf_data, Int.emod_eq_of_lt h.2.1 (by have := h.2.2; omega)]
theorem cols_some (l : List Col) (r : List UInt8) (h : ∀ c ∈ l, okC c) : ∀ k, k ≤ l.length → RS.cols ⟨colsBytes l ++ r, 0⟩ k = (l.take k, ⟨colsBytes (l.drop k) ++ r, 0⟩)
  | 0, _ => rfl
  | k + 1, hk => by
    have hlt : k < l.length := by omega
    have e : colsBytes (l.drop k) ++ r = colBytes l[k] ++ (colsBytes (l.drop (k + 1)) ++ r) := by
      rw [List.drop_eq_getElem_cons hlt]
      unfold colsBytes
      rw [List.flatMap_cons, List.append_assoc]
    rw [RS.cols, cols_some l r h k (by omega)]
    dsimp only
    rw [e, readCol_one _ _ (h _ (List.getElem_mem hlt)), List.take_succ_eq_append_getElem hlt]
theorem parse_bytes (S : Sch) (hn : S.name.size ≤ 65535) (hc : ∀ c ∈ S.cols, okC c) (hl : S.cols.length ≤ 6) (hk : -9223372036854775808 ≤ S.key ∧ S.key ≤ 9223372036854775807) (hck : checkS S = 0) : parseRes (schBytes S) = (S, 0) := by
  have e0 : schBytes S = textBytes S.name.data.toList ++ (byte1 (S.cols.length : Nat) :: (colsBytes S.cols ++ (le8 S.key ++ (byte1 (flagI S.only) :: [])))) := by
    unfold schBytes headBytes
    simp
  have h1 := read_text S.name.data.toList (byte1 (S.cols.length : Nat) :: (colsBytes S.cols ++ (le8 S.key ++ (byte1 (flagI S.only) :: []))))
  have h2 := read_byte (S.cols.length : Nat) (colsBytes S.cols ++ (le8 S.key ++ (byte1 (flagI S.only) :: [])))
  rw [Int.emod_eq_of_lt (by omega) (by omega)] at h2
  have hh : RS.headN ⟨schBytes S, 0⟩ = (S.cols.length, ⟨colsBytes S.cols ++ (le8 S.key ++ (byte1 (flagI S.only) :: [])), 0⟩) := by
    unfold RS.headN
    rw [e0, h1]
    dsimp only
    rw [h2]
    dsimp only
    rw [if_neg (by omega)]
    simp
  have hcs := cols_some S.cols (le8 S.key ++ (byte1 (flagI S.only) :: [])) hc S.cols.length (Nat.le_refl _)
  rw [List.take_length, List.drop_length] at hcs
  have ht : RS.tailKey ⟨colsBytes [] ++ (le8 S.key ++ (byte1 (flagI S.only) :: [])), 0⟩ = (S.key, S.only, ⟨[], 0⟩) := by
    unfold RS.tailKey
    show (RS.readInt ⟨le8 S.key ++ (byte1 (flagI S.only) :: []), 0⟩ |>.1, _, _) = _
    rw [show colsBytes [] ++ (le8 S.key ++ (byte1 (flagI S.only) :: [])) = le8 S.key ++ (byte1 (flagI S.only) :: []) from rfl, read_int S.key _ hk.1 hk.2]
    dsimp only
    rw [readFlag_one]
  have hnm : strOf (RS.readText ⟨schBytes S, 0⟩).1 = S.name := by rw [e0, h1]; dsimp only; rw [cutText_id (by rw [str_data]; exact hn), strOf_data]
  unfold parseRes RS.schema
  dsimp only
  rw [hh]
  dsimp only
  rw [hcs]
  dsimp only
  rw [ht, hnm]
  dsimp only
  unfold finish
  have : RS.endErr ⟨[], 0⟩ = 0 := rfl
  rw [this]
  simp [hck]
theorem parse_good (s : Sch) (z : Int) : parseRes (schBytes (goodS s z)) = (goodS s z, 0) := by
  have hl := goodL_le s
  have hlen := goodS_len s z
  have hk := goodKey_lt s
  refine parse_bytes _ (by rw [goodS_name_size]; omega) (fun c hc => ?_) (by omega) ?_ (goodS_check s z)
  · obtain ⟨j, hj, rfl⟩ := List.mem_iff_getElem.1 hc
    have h1 := goodS_fits s z j hj
    have h2 := (goodS_goodC s z j hj).2
    exact ⟨by omega, by omega, by omega⟩
  · have : (goodS s z).key = (goodKey s : Nat) := rfl
    rw [this]; omega
end Go.Proofs.Ytdllgnccjejhiaa
