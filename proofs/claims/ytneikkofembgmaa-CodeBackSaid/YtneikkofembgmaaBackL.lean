/- What was written is read as it was; a byte less is cut; one more is more: in plain lists. -/
import Derived.Test.YtneikkofembgmaaRts
namespace Go.Proofs.Ytneikkofembgmaa
open Go.RowKit
set_option linter.unusedVariables false
set_option linter.unusedSimpArgs false

/-- All numbers, all texts, behind how many numbers there are. -/
def intsOf (ns : List Int) : List UInt8 := ns.flatMap le8
def textsOf (ss : List ByteArray) : List UInt8 := ss.flatMap fun s => textBytes s.data.toList
theorem intsOf_cons (z : Int) (ns : List Int) : intsOf (z :: ns) = le8 z ++ intsOf ns := rfl
theorem textsOf_cons (s : ByteArray) (ss : List ByteArray) : textsOf (s :: ss) = textBytes s.data.toList ++ textsOf ss := rfl
theorem intsOf_snoc (z : Int) (ns : List Int) : intsOf (ns ++ [z]) = intsOf ns ++ le8 z := by simp only [intsOf, List.flatMap_append, List.flatMap_cons, List.flatMap_nil, List.append_nil]
theorem textsOf_snoc (s : ByteArray) (ss : List ByteArray) : textsOf (ss ++ [s]) = textsOf ss ++ textBytes s.data.toList := by simp only [textsOf, List.flatMap_append, List.flatMap_cons, List.flatMap_nil, List.append_nil]
theorem intsOf_length (ns : List Int) : (intsOf ns).length = 8 * ns.length := by
  induction ns with
  | nil => rfl
  | cons z ns ih => rw [intsOf_cons, List.length_append, le8_length, ih, List.length_cons]; omega
theorem textBytes_le (l : List UInt8) : (textBytes l).length ≤ 65537 := by
  have := cutText_le l
  unfold textBytes; simp; omega
theorem textsOf_length (ss : List ByteArray) : (textsOf ss).length ≤ 65537 * ss.length := by
  induction ss with
  | nil => simp [textsOf]
  | cons s ss ih => rw [textsOf_cons, List.length_append, List.length_cons]; have := textBytes_le s.data.toList; omega

/-- A reader of some, but not all, of these bytes, or one that was cut. -/
def Pre (r : List UInt8) (s : RS) : Prop := (∃ t, t ≠ [] ∧ s.rest ++ t = r ∧ s.err = 0) ∨ s.err = 8

theorem Pre.take {c r : List UInt8} {s : RS} (h : Pre (c ++ r) s) (n : Nat) (hn : n = c.length) : Pre r (s.take n).2 ∧ ((s.take n).2.err = 0 → (s.take n).1 = c) := by
  subst hn
  rcases h with ⟨t, ht, hr, he⟩ | h
  · by_cases hl : s.rest.length < c.length
    · rw [cut_take s _ he hl]
      exact ⟨.inr rfl, fun h => by simp at h⟩
    · have hl' : c.length ≤ s.rest.length := by omega
      rw [ok_take s _ he hl']
      have h1 : s.rest.take c.length = c := by
        have := congrArg (List.take c.length) hr
        rwa [List.take_append_of_le_length hl', List.take_left'  rfl] at this
      have h2 : s.rest.drop c.length ++ t = r := by
        have := congrArg (List.drop c.length) hr
        rwa [List.drop_append_of_le_length hl', List.drop_left' rfl] at this
      exact ⟨.inl ⟨t, ht, h2, rfl⟩, fun _ => h1⟩
  · rw [err_take s _ (by rw [h]; omega)]
    exact ⟨.inr h, fun h' => by rw [h] at h'; simp at h'⟩

theorem Pre.byte {z : Int} {r : List UInt8} {s : RS} (h : Pre (byte1 z :: r) s) : Pre r s.readByte.2 := (Pre.take (c := [byte1 z]) h 1 rfl).1
theorem Pre.int {z : Int} {r : List UInt8} {s : RS} (h : Pre (le8 z ++ r) s) : Pre r s.readInt.2 := (Pre.take h 8 (le8_length z).symm).1
theorem Pre.text {l r : List UInt8} {s : RS} (h : Pre (textBytes l ++ r) s) : Pre r s.readText.2 := by
  have hl := cutText_le l
  have h2 : Pre ([byte1 (cutText l).length, byte1 ((cutText l).length / 256)] ++ (cutText l ++ r)) s := by
    unfold textBytes at h; rwa [List.append_assoc] at h
  obtain ⟨p, q⟩ := h2.take 2 rfl
  unfold RS.readText RS.number
  by_cases he : (s.take 2).2.err = 0
  · rw [q he, le_two _ (by omega) (by omega), Int.toNat_natCast]
    exact (p.take _ rfl).1
  · rcases p with ⟨t, _, _, h0⟩ | p
    · exact absurd h0 he
    · simp only []
      rw [err_take _ _ he]
      exact .inr p
theorem Pre.end_ {s : RS} (h : Pre [] s) : s.endErr = 8 := by
  rcases h with ⟨t, ht, hr, _⟩ | h
  · simp at hr; exact absurd hr.2 ht
  · unfold RS.endErr; rw [if_neg (by rw [h]; simp), h]

/-- Where a Reader of the whole (k = 0), of one byte more (1), of one byte less (2) stands with these bytes to come; ok: whether all was as it was written. -/
def St (k : Nat) (r : List UInt8) (s : RS) (ok : Bool) : Prop :=
  (k = 0 ∧ s = ⟨r, 0⟩ ∧ ok = true) ∨ (k = 1 ∧ s = ⟨r ++ [7], 0⟩ ∧ ok = true) ∨ (k = 2 ∧ Pre r s)

theorem St.byte {k : Nat} {z : Int} {r : List UInt8} {s : RS} {ok : Bool} (h : St k (byte1 z :: r) s ok) (h0 : 0 ≤ z) (h1 : z < 256) : St k r s.readByte.2 (decide (s.readByte.1 = z) && ok) := by
  rcases h with ⟨hk, rfl, rfl⟩ | ⟨hk, rfl, rfl⟩ | ⟨hk, h⟩
  · rw [read_byte, Int.emod_eq_of_lt h0 h1]; exact .inl ⟨hk, rfl, by simp⟩
  · rw [List.cons_append, read_byte, Int.emod_eq_of_lt h0 h1]; exact .inr (.inl ⟨hk, rfl, by simp⟩)
  · exact .inr (.inr ⟨hk, h.byte⟩)
theorem St.int {k : Nat} {z : Int} {r : List UInt8} {s : RS} {ok : Bool} (h : St k (le8 z ++ r) s ok) (h1 : -9223372036854775808 ≤ z) (h2 : z ≤ 9223372036854775807) : St k r s.readInt.2 (decide (s.readInt.1 = z) && ok) := by
  rcases h with ⟨hk, rfl, rfl⟩ | ⟨hk, rfl, rfl⟩ | ⟨hk, h⟩
  · rw [read_int z r h1 h2]; exact .inl ⟨hk, rfl, by simp⟩
  · rw [List.append_assoc, read_int z _ h1 h2]; exact .inr (.inl ⟨hk, rfl, by simp⟩)
  · exact .inr (.inr ⟨hk, h.int⟩)
theorem St.text {k : Nat} {l r : List UInt8} {s : RS} {ok : Bool} (h : St k (textBytes l ++ r) s ok) (hl : l.length ≤ 65535) : St k r s.readText.2 (decide (s.readText.1 = l) && ok) := by
  have hc : cutText l = l := by unfold cutText; rw [List.take_of_length_le hl]
  rcases h with ⟨hk, rfl, rfl⟩ | ⟨hk, rfl, rfl⟩ | ⟨hk, h⟩
  · rw [read_text, hc]; exact .inl ⟨hk, rfl, by simp⟩
  · rw [List.append_assoc, read_text, hc]; exact .inr (.inl ⟨hk, rfl, by simp⟩)
  · exact .inr (.inr ⟨hk, h.text⟩)
theorem St.end_ {k : Nat} {s : RS} {ok : Bool} (h : St k [] s ok) : (k = 0 ∧ s.endErr = 0 ∧ ok = true) ∨ (k = 1 ∧ s.endErr = 9 ∧ ok = true) ∨ (k = 2 ∧ s.endErr = 8) := by
  rcases h with ⟨hk, rfl, rfl⟩ | ⟨hk, rfl, rfl⟩ | ⟨hk, h⟩
  · exact .inl ⟨hk, rfl, rfl⟩
  · exact .inr (.inl ⟨hk, rfl, rfl⟩)
  · exact .inr (.inr ⟨hk, h.end_⟩)
/-- The three beginnings. -/
theorem St.zero (r : List UInt8) : St 0 r ⟨r, 0⟩ true := .inl ⟨rfl, rfl, rfl⟩
theorem St.one (r : List UInt8) : St 1 r ⟨r ++ [7], 0⟩ true := .inr (.inl ⟨rfl, rfl, rfl⟩)
theorem St.two (r : List UInt8) (ok : Bool) (h : r ≠ []) : St 2 r ⟨r.take (r.length - 1), 0⟩ ok := by
  refine .inr (.inr ⟨rfl, .inl ⟨r.drop (r.length - 1), ?_, List.take_append_drop _ _, rfl⟩⟩)
  have : 0 < r.length := List.length_pos_iff.2 h
  intro e
  have := congrArg List.length e
  simp at this
  omega
end Go.Proofs.Ytneikkofembgmaa
