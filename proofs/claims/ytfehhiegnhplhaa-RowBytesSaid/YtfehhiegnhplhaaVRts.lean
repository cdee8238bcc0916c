/- Rows: what was written is read as it was; what is read is written as it stood. -/
import Derived.Test.YtfehhiegnhplhaaVRow
namespace Go.Proofs.Ytfehhiegnhplhaa
open Go.RowKit
set_option linter.unusedVariables false
set_option maxRecDepth 10000
set_option linter.unusedSimpArgs false

theorem cutText_id {s : List UInt8} (h : s.length ≤ 65535) : cutText s = s := List.take_of_length_le h
theorem strOf_data (t : ByteArray) : strOf t.data.toList = t := by
  cases t; rfl
theorem ba_none {t : ByteArray} (h : t.size = 0) : t = ⟨#[]⟩ := by
  cases t with
  | mk d =>
    congr
    exact Array.eq_empty_of_size_eq_zero h
theorem vcheck_ok {v : Val} (h : vcheck v = 0) : (0 ≤ v.kind ∧ v.kind ≤ 3) ∧ (v.kind ≠ 3 → v.s = ⟨#[]⟩) ∧ (v.kind ≠ 1 → v.kind ≠ 2 → v.n = 0) ∧ (v.kind = 1 → v.n = 0 ∨ v.n = 1) ∧ v.s.size ≤ 60 := by
  unfold vcheck at h
  split at h
  · simp at h
  · split at h
    · simp at h
    · split at h
      · simp at h
      · rename_i h1 h2 h3
        simp [Val.odd] at h2
        obtain ⟨⟨h4, h5⟩, h6⟩ := h2
        refine ⟨by omega, fun h => ?_, fun h7 h8 => h5 h7 h8, fun h => ?_, by omega⟩
        · exact h4 h
        · by_cases h0 : v.n = 0
          · exact .inl h0
          · exact .inr (h6 h h0)
theorem readVal_one (v : Val) (r : List UInt8) (h : vcheck v = 0) (hf : v.fits) : RS.readVal ⟨valBytes v ++ r, 0⟩ = (v, ⟨r, 0⟩) := by
  obtain ⟨hk, h3, h12, h1, h60⟩ := vcheck_ok h
  obtain ⟨kind, n, s⟩ := v
  simp only at hk h3 h12 h1 h60
  have hr := read_byte kind (valTail ⟨kind, n, s⟩ ++ r)
  rw [Int.emod_eq_of_lt (by omega) (by omega)] at hr
  unfold RS.readVal valBytes
  rw [List.cons_append, hr]
  dsimp only
  have hc : kind = 0 ∨ kind = 1 ∨ kind = 2 ∨ kind = 3 := by omega
  rcases hc with rfl | rfl | rfl | rfl
  · rw [if_pos rfl]
    have e1 := h3 (by omega)
    have e2 := h12 (by omega) (by omega)
    subst e1 e2
    rfl
  · rw [if_neg (by omega), if_pos rfl]
    have e1 := h3 (by omega)
    subst e1
    have hb := read_byte n r
    rw [Int.emod_eq_of_lt (by have := h1 rfl; omega) (by have := h1 rfl; omega)] at hb
    show ((⟨1, (RS.readByte ⟨byte1 n :: r, 0⟩).1, _⟩ : Val), (RS.readByte ⟨byte1 n :: r, 0⟩).2) = _
    rw [hb]
  · rw [if_neg (by omega), if_neg (by omega), if_pos rfl]
    have e1 := h3 (by omega)
    subst e1
    have hb := read_int n r hf.2.1.1 hf.2.1.2
    show ((⟨2, (RS.readInt ⟨le8 n ++ r, 0⟩).1, _⟩ : Val), (RS.readInt ⟨le8 n ++ r, 0⟩).2) = _
    rw [hb]
  · rw [if_neg (by omega), if_neg (by omega), if_neg (by omega), if_pos rfl]
    have e2 := h12 (by omega) (by omega)
    subst e2
    have hb := read_text s.data.toList r
    rw [cutText_id (by rw [str_data]; omega)] at hb
    show ((⟨3, 0, strOf (RS.readText ⟨textBytes s.data.toList ++ r, 0⟩).1⟩ : Val), (RS.readText ⟨textBytes s.data.toList ++ r, 0⟩).2) = _
    rw [hb, strOf_data]
theorem vals_some (l : List Val) (r : List UInt8) (h : ∀ c ∈ l, vcheck c = 0 ∧ c.fits) : ∀ k, k ≤ l.length → RS.vals ⟨valsBytes l ++ r, 0⟩ k = (l.take k, ⟨valsBytes (l.drop k) ++ r, 0⟩)
  | 0, _ => rfl
  | k + 1, hk => by
    have hlt : k < l.length := by omega
    have e : valsBytes (l.drop k) ++ r = valBytes l[k] ++ (valsBytes (l.drop (k + 1)) ++ r) := by
      rw [List.drop_eq_getElem_cons hlt]
      unfold valsBytes
      rw [List.flatMap_cons, List.append_assoc]
    have hg := h _ (List.getElem_mem hlt)
    rw [RS.vals, vals_some l r h k (by omega)]
    dsimp only
    rw [e, readVal_one _ _ hg.1 hg.2, List.take_succ_eq_append_getElem hlt]
theorem vsCheck_ok : ∀ (l : List Val), (∀ c ∈ l, vcheck c = 0) → vsCheck l = 0
  | [], _ => rfl
  | v :: l, h => by rw [vsCheck, if_pos (h v (by simp)), vsCheck_ok l (fun c hc => h c (by simp [hc]))]
theorem vsCheck_all : ∀ (l : List Val), vsCheck l = 0 → ∀ c ∈ l, vcheck c = 0
  | [], _, c, hc => by simp at hc
  | v :: l, h, c, hc => by
    rw [vsCheck] at h
    split at h
    · rename_i hv
      simp at hc
      rcases hc with rfl | hc
      · exact hv
      · exact vsCheck_all l h c hc
    · contradiction
theorem head_row (l : List Val) (h : l.length ≤ 255) : RS.readByte ⟨rowBytes l, 0⟩ = ((l.length : Int), ⟨valsBytes l, 0⟩) := by
  have h2 := read_byte (l.length : Nat) (valsBytes l)
  rw [Int.emod_eq_of_lt (by omega) (by omega)] at h2
  exact h2
theorem row_good (l : List Val) (h : ∀ c ∈ l, vcheck c = 0 ∧ c.fits) (hl : l.length ≤ 6) : rowRes (rowBytes l) = (l, 0) := by
  have hh : RS.headR ⟨rowBytes l, 0⟩ = (l.length, ⟨valsBytes l ++ [], 0⟩) := by
    unfold RS.headR
    rw [head_row l (by omega)]
    dsimp only
    rw [if_neg (by omega)]
    simp
  have hv := vals_some l [] h l.length (Nat.le_refl _)
  rw [List.take_length, List.drop_length] at hv
  unfold rowRes RS.row
  rw [hh]
  dsimp only
  rw [hv]
  have he : RS.endErr ⟨valsBytes [] ++ [], 0⟩ = 0 := rfl
  dsimp only
  rw [he]
  unfold finR
  rw [if_neg (by simp), vsCheck_ok l (fun c hc => (h c hc).1)]
  simp
theorem row_many (l : List Val) (hl : 6 < l.length) (h : l.length ≤ 255) : rowRes (rowBytes l) = ([], 4) := by
  have hh : RS.headR ⟨rowBytes l, 0⟩ = (0, ⟨valsBytes l, 4⟩) := by
    unfold RS.headR
    rw [head_row l h]
    dsimp only
    rw [if_pos (by omega)]
    rfl
  unfold rowRes RS.row
  rw [hh]
  rfl

theorem take_inv (s : RS) (n : Nat) (h : (s.take n).2.err = 0) : s.err = 0 ∧ n ≤ s.rest.length ∧ s.take n = (s.rest.take n, ⟨s.rest.drop n, 0⟩) := by
  by_cases hc : (s.cutIf n).err = 0
  · obtain ⟨h1, h2, h3⟩ := take_good s n hc
    exact ⟨h3, h2, h1⟩
  · rw [take_err s n hc] at h
    exact absurd h hc
theorem byte1_leInt (b : UInt8) : byte1 (leInt [b]) = b := by
  have e : b = byte1 (b.toNat : Int) := by
    apply UInt8.toNat_inj.1
    have h1 := byte1_nat (b.toNat : Int)
    have h2 := b.toNat_lt
    omega
  have hb := b.toNat_lt
  conv => lhs; rw [e]
  rw [le_byte1, Int.emod_eq_of_lt (by omega) (by omega)]
  exact e.symm
theorem leNat_inj : ∀ (a b : List UInt8), a.length = b.length → leNat a = leNat b → a = b
  | [], [], _, _ => rfl
  | [], y :: b, h, _ => by simp at h
  | x :: a, [], h, _ => by simp at h
  | x :: a, y :: b, h, e => by
    simp only [leNat] at e
    have hx := x.toNat_lt
    have hy := y.toNat_lt
    have h1 : x.toNat = y.toNat := by omega
    have h2 : leNat a = leNat b := by omega
    rw [UInt8.toNat_inj.1 h1, leNat_inj a b (by simpa using h) h2]
theorem le8_leInt (l : List UInt8) (h : l.length = 8) : le8 (leInt l) = l := by
  have hb := leInt_bd l
  have h1 := le_le8 (leInt l) hb.1 hb.2
  have l1 := leNat_lt l
  have l2 := leNat_lt (le8 (leInt l))
  rw [le8_length] at l2
  rw [h] at l1
  apply leNat_inj _ _ (by rw [le8_length, h])
  generalize le8 (leInt l) = m at *
  unfold leInt at h1
  rw [IntKind.wrap_i64, IntKind.wrap_i64] at h1
  generalize leNat m = x at *
  generalize leNat l = y at *
  omega
theorem readByte_inv (s : RS) (h : s.readByte.2.err = 0) : s.err = 0 ∧ s.rest = byte1 s.readByte.1 :: s.readByte.2.rest := by
  obtain ⟨h1, h2, h3⟩ := take_inv s 1 h
  refine ⟨h1, ?_⟩
  show s.rest = byte1 (leInt (s.take 1).1) :: (s.take 1).2.rest
  rw [h3]
  match hr : s.rest, h2 with
  | [], h2 => simp at h2
  | b :: t, _ => simp [byte1_leInt]
theorem readInt_inv (s : RS) (h : s.readInt.2.err = 0) : s.err = 0 ∧ s.rest = le8 s.readInt.1 ++ s.readInt.2.rest := by
  obtain ⟨h1, h2, h3⟩ := take_inv s 8 h
  refine ⟨h1, ?_⟩
  show s.rest = le8 (leInt (s.take 8).1) ++ (s.take 8).2.rest
  rw [h3]
  dsimp only
  rw [le8_leInt _ (by rw [List.length_take]; omega), List.take_append_drop]
theorem textBytes_of (t : List UInt8) (h : t.length ≤ 65535) : textBytes t = [byte1 (t.length : Nat), byte1 ((t.length : Nat) / 256)] ++ t := by
  unfold textBytes
  rw [cutText_id h]
theorem leInt_two (a b : UInt8) : leInt [a, b] = ((a.toNat + 256 * b.toNat : Nat) : Int) := by
  have ha := a.toNat_lt
  have hb := b.toNat_lt
  simp only [leInt, leNat]
  rw [IntKind.wrap_i64]
  omega
theorem byte1_of (a : UInt8) (n : Int) (h : n % 256 = (a.toNat : Int)) : byte1 n = a := by
  apply UInt8.toNat_inj.1
  have := byte1_nat n
  omega
theorem readText_inv (s : RS) (h : s.readText.2.err = 0) : s.err = 0 ∧ s.rest = textBytes s.readText.1 ++ s.readText.2.rest := by
  obtain ⟨m, hm, hm2⟩ := number2_lt s
  have e : s.readText = (s.number 2).2.take m := by unfold RS.readText; rw [hm]; rfl
  rw [e] at h ⊢
  obtain ⟨h1, h2, h3⟩ := take_inv _ m h
  obtain ⟨h4, h5, h6⟩ := take_inv s 2 h1
  refine ⟨h4, ?_⟩
  rw [h3]
  have en : s.number 2 = (leInt (s.rest.take 2), ⟨s.rest.drop 2, 0⟩) := by unfold RS.number; rw [h6]
  rw [en] at hm h2 ⊢
  dsimp only at hm h2 ⊢
  have hl : ((s.rest.drop 2).take m).length = m := by rw [List.length_take]; omega
  rw [textBytes_of _ (by omega), hl]
  match hr : s.rest, h5 with
  | [], h5 => simp at h5
  | [_], h5 => simp at h5
  | a :: b :: t, _ =>
    rw [hr] at hm
    have ha := a.toNat_lt
    have hb := b.toNat_lt
    simp only [List.take_succ_cons, List.take_zero] at hm
    rw [leInt_two] at hm
    simp only [List.drop_succ_cons, List.drop_zero]
    rw [byte1_of a (m : Nat) (by omega), byte1_of b _ (by omega)]
    simp
theorem endErr_inv (s : RS) (h : s.endErr = 0) : s.err = 0 ∧ s.rest = [] := by
  unfold RS.endErr at h
  split at h
  · simp at h
  · rename_i hn
    refine ⟨h, ?_⟩
    by_cases hr : s.rest = []
    · exact hr
    · exact absurd ⟨h, hr⟩ hn
theorem fail_bad (s : RS) (f : Int) (hf : f ≠ 0) (h : (s.fail f).err = 0) : False := by
  unfold RS.fail failed at h
  split at h
  · exact hf h
  · contradiction
theorem readVal_inv (s : RS) (h : s.readVal.2.err = 0) (hc : vcheck s.readVal.1 = 0) : s.err = 0 ∧ s.rest = valBytes s.readVal.1 ++ s.readVal.2.rest := by
  have hb := readByte_inv s
  unfold RS.readVal at h hc ⊢
  split at h
  · rename_i h0
    rw [if_pos h0]
    obtain ⟨e1, e2⟩ := hb h
    refine ⟨e1, ?_⟩
    rw [h0] at e2
    exact e2
  · split at h
    · rename_i h0 h1
      rw [if_neg h0, if_pos h1] at hc ⊢
      obtain ⟨e1, e2⟩ := readByte_inv _ h
      obtain ⟨e3, e4⟩ := hb e1
      refine ⟨e3, ?_⟩
      rw [e4, e2, h1]
      rfl
    · split at h
      · rename_i h0 h1 h2
        rw [if_neg h0, if_neg h1, if_pos h2] at hc ⊢
        obtain ⟨e1, e2⟩ := readInt_inv _ h
        obtain ⟨e3, e4⟩ := hb e1
        refine ⟨e3, ?_⟩
        rw [e4, e2, h2]
        rfl
      · split at h
        · rename_i h0 h1 h2 h3
          rw [if_neg h0, if_neg h1, if_neg h2, if_pos h3] at hc ⊢
          obtain ⟨e1, e2⟩ := readText_inv _ h
          obtain ⟨e3, e4⟩ := hb e1
          refine ⟨e3, ?_⟩
          rw [e4, e2, h3]
          rfl
        · exact (fail_bad _ 3 (by omega) h).elim
theorem vals_inv (s : RS) : ∀ (n : Nat), (s.vals n).2.err = 0 → (∀ c ∈ (s.vals n).1, vcheck c = 0) → s.err = 0 ∧ s.rest = valsBytes (s.vals n).1 ++ (s.vals n).2.rest
  | 0, h, _ => ⟨h, by simp [RS.vals, valsBytes]⟩
  | n + 1, h, hc => by
    rw [RS.vals] at h hc ⊢
    obtain ⟨e1, e2⟩ := readVal_inv _ h (hc _ (by simp))
    obtain ⟨e3, e4⟩ := vals_inv s n e1 (fun c h' => hc c (by simp [h']))
    refine ⟨e3, ?_⟩
    dsimp only
    rw [e4, e2]
    simp [valsBytes]
theorem row_inv (bs : List UInt8) (h : (rowRes bs).2 = 0) : rowBytes (rowRes bs).1 = bs ∧ (rowRes bs).1.length ≤ 6 ∧ ∀ c ∈ (rowRes bs).1, vcheck c = 0 ∧ c.fits := by
  have hl := headR_le ⟨bs, 0⟩
  have hlen := RS.vals_len (RS.headR ⟨bs, 0⟩).2 (RS.headR ⟨bs, 0⟩).1
  have hfit := vals_fits (RS.headR ⟨bs, 0⟩).2 (RS.headR ⟨bs, 0⟩).1
  have hv := vals_inv (RS.headR ⟨bs, 0⟩).2 (RS.headR ⟨bs, 0⟩).1
  have he := endErr_inv ((RS.headR ⟨bs, 0⟩).2.vals (RS.headR ⟨bs, 0⟩).1).2
  unfold rowRes RS.row at h ⊢
  unfold finR at h ⊢
  split at h
  · contradiction
  · split at h
    · contradiction
    · rename_i h1 h2
      have h1' := Classical.not_not.1 h1
      have h2' := Classical.not_not.1 h2
      rw [if_neg h1, if_neg h2]
      dsimp only
      obtain ⟨e1, e2⟩ := he h1'
      have hck := vsCheck_all _ h2'
      obtain ⟨e3, e4⟩ := hv e1 hck
      refine ⟨?_, by omega, fun c hc => ⟨hck c hc, hfit c hc⟩⟩
      rw [e2, List.append_nil] at e4
      unfold rowBytes
      rw [← e4, hlen]
      have hb := readByte_inv ⟨bs, 0⟩
      have hbd := readByte_bd ⟨bs, 0⟩
      unfold RS.headR at e3 ⊢
      split at e3
      · exact (fail_bad _ 4 (by omega) e3).elim
      · rename_i h6
        rw [if_neg h6]
        obtain ⟨e5, e6⟩ := hb e3
        dsimp only at e6 ⊢
        conv => rhs; rw [e6]
        rw [Int.toNat_of_nonneg hbd.1]
end Go.Proofs.Ytfehhiegnhplhaa
