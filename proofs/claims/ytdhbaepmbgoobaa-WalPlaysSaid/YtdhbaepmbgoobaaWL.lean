/- A log in plain lists: how bytes are cut to records. -/
import Derived.Test.YtdhbaepmbgoobaaDLaw8
import Derived.Test.YtdhbaepmbgoobaaRtsL
namespace Go.Proofs.Ytdhbaepmbgoobaa
open Go.RowKit
set_option linter.unusedVariables false
set_option maxRecDepth 10000
set_option linter.unusedSimpArgs false

/-- The first record of a row: what it says of its length; whether it is there whole. -/
def recLen (b : List UInt8) : Int := leInt (b.take 8)
def recOk (b : List UInt8) : Bool := decide (8 ≤ b.length) && (decide (0 ≤ recLen b) && decide (recLen b ≤ (b.length : Int) - 8))
def recOf (b : List UInt8) : List UInt8 := (b.drop 8).take (recLen b).toNat
def recTail (b : List UInt8) : List UInt8 := b.drop (8 + (recLen b).toNat)
/-- At most so many records; what is left. -/
def cutL : Nat → List UInt8 → List (List UInt8) × List UInt8
  | 0, b => ([], b)
  | m + 1, b => if recOk b = true then (recOf b :: (cutL m (recTail b)).1, (cutL m (recTail b)).2) else ([], b)
theorem recOk_iff (b : List UInt8) : recOk b = true ↔ 8 ≤ b.length ∧ 0 ≤ recLen b ∧ recLen b ≤ (b.length : Int) - 8 := by
  unfold recOk
  simp only [Bool.and_eq_true, decide_eq_true_eq]
theorem recTail_len (b : List UInt8) (h : recOk b = true) : (recTail b).length + 8 ≤ b.length := by
  obtain ⟨h1, h2, h3⟩ := (recOk_iff b).1 h
  unfold recTail
  rw [List.length_drop]
  omega
theorem recOf_len (b : List UInt8) (h : recOk b = true) : (recOf b).length = (recLen b).toNat := by
  obtain ⟨h1, h2, h3⟩ := (recOk_iff b).1 h
  unfold recOf
  rw [List.length_take, List.length_drop]
  omega
theorem cutL_stop (m : Nat) (b : List UInt8) (h : recOk b = false) : cutL m b = ([], b) := by
  cases m with
  | zero => rfl
  | succ m => rw [cutL, if_neg (by simp [h])]
theorem cutL_len : ∀ (m : Nat) (b : List UInt8), (cutL m b).1.length ≤ m ∧ 8 * (cutL m b).1.length + (cutL m b).2.length ≤ b.length
  | 0, b => by simp [cutL]
  | m + 1, b => by
    rw [cutL]
    split
    · rename_i h
      have ih := cutL_len m (recTail b)
      have ht := recTail_len b h
      simp only [List.length_cons]
      omega
    · simp
/-- Enough is enough. -/
theorem cutL_more : ∀ (m k : Nat) (b : List UInt8), b.length ≤ 8 * m → cutL (m + k) b = cutL m b
  | 0, k, b, h => by
    have : b = [] := List.eq_nil_of_length_eq_zero (by omega)
    subst this
    rw [cutL_stop _ _ rfl, cutL_stop _ _ rfl]
  | m + 1, k, b, h => by
    rw [show m + 1 + k = (m + k) + 1 by omega, cutL, cutL]
    split
    · rename_i h'
      have ht := recTail_len b h'
      rw [cutL_more m k (recTail b) (by omega)]
    · rfl
theorem cutL_all (m k : Nat) (b : List UInt8) (h1 : b.length ≤ 8 * m) (h2 : b.length ≤ 8 * k) : cutL m b = cutL k b := by
  rcases Nat.le_total m k with h | h
  · obtain ⟨d, rfl⟩ : ∃ d, k = m + d := ⟨k - m, by omega⟩
    exact (cutL_more m d b h1).symm
  · obtain ⟨d, rfl⟩ : ∃ d, m = k + d := ⟨m - k, by omega⟩
    exact cutL_more k d b h2

/-- Records as bytes. -/
def recBytes (r : List UInt8) : List UInt8 := le8 (r.length : Nat) ++ r
def recsBytes (l : List (List UInt8)) : List UInt8 := l.flatMap recBytes
theorem recBytes_len (r : List UInt8) : (recBytes r).length = 8 + r.length := by unfold recBytes; rw [List.length_append, le8_length]
theorem recsBytes_cons (r : List UInt8) (l : List (List UInt8)) : recsBytes (r :: l) = recBytes r ++ recsBytes l := by simp [recsBytes]
theorem recsBytes_app (a b : List (List UInt8)) : recsBytes (a ++ b) = recsBytes a ++ recsBytes b := by simp [recsBytes]
theorem recsBytes_snoc (l : List (List UInt8)) (r : List UInt8) : recsBytes (l ++ [r]) = recsBytes l ++ recBytes r := by rw [recsBytes_app]; simp [recsBytes]
theorem rec_first (r t : List UInt8) (h : r.length ≤ 9223372036854775807) : recLen (recBytes r ++ t) = (r.length : Nat) ∧ recOk (recBytes r ++ t) = true ∧ recOf (recBytes r ++ t) = r ∧ recTail (recBytes r ++ t) = t := by
  have hl8 := le8_length (r.length : Nat)
  have e1 : recLen (recBytes r ++ t) = (r.length : Nat) := by
    unfold recLen recBytes
    rw [List.append_assoc, List.take_left' hl8, le_le8 _ (by omega) (by omega)]
  refine ⟨e1, ?_, ?_, ?_⟩
  · rw [recOk_iff, e1, List.length_append, recBytes_len]
    omega
  · unfold recOf
    rw [e1]
    unfold recBytes
    rw [List.append_assoc, List.drop_left' hl8, Int.toNat_natCast, List.take_left]
  · unfold recTail
    rw [e1, Int.toNat_natCast]
    exact List.drop_left' (recBytes_len r)
/-- Records that were written are cut as they were. -/
theorem cut_recs : ∀ (l : List (List UInt8)) (m : Nat) (t : List UInt8), (∀ r ∈ l, r.length ≤ 9223372036854775807) → l.length ≤ m → cutL m (recsBytes l ++ t) = (l ++ (cutL (m - l.length) t).1, (cutL (m - l.length) t).2)
  | [], m, t, _, _ => by simp [recsBytes]
  | r :: l, 0, t, _, h => by simp at h
  | r :: l, m + 1, t, hl, h => by
    obtain ⟨h1, h2, h3, h4⟩ := rec_first r (recsBytes l ++ t) (hl r (by simp))
    rw [recsBytes_cons, List.append_assoc, cutL, if_pos h2, h3, h4, cut_recs l m t (fun x hx => hl x (by simp [hx])) (by simpa using h)]
    simp
theorem cut_whole (l : List (List UInt8)) (hl : ∀ r ∈ l, r.length ≤ 9223372036854775807) : cutL l.length (recsBytes l) = (l, []) := by
  have h := cut_recs l l.length [] hl (Nat.le_refl _)
  rw [List.append_nil, Nat.sub_self] at h
  rw [h]; simp [cutL]

/-- What a disk's pages say: the numbers of page 0; the bytes of the others. -/
def DS.size0 (st : DS) : Int := leInt ((pageAt st.now 0).take 8)
def DS.count0 (st : DS) : Int := leInt (((pageAt st.now 0).drop 8).take 8)
def DS.body (st : DS) : List UInt8 := st.now.drop 64
/-- What look finds: how many bytes, how many records, those that are whole, whether something is wrong; an error. -/
structure Fd where
  size : Int
  count : Int
  recs : List (List UInt8)
  bad : Bool
def DS.look (st : DS) : Fd :=
  if st.size0 < 0 ∨ st.count0 < 0 ∨ (st.body.length : Int) < st.size0 then ⟨st.size0, st.count0, [], true⟩
  else ⟨st.size0, st.count0, (cutL st.count0.toNat (st.body.take st.size0.toNat)).1,
    !decide ((cutL st.count0.toNat (st.body.take st.size0.toNat)).2 = []) || ((cutL st.count0.toNat (st.body.take st.size0.toNat)).1.length : Int) != st.count0⟩
end Go.Proofs.Ytdhbaepmbgoobaa
