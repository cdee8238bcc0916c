/- Plain laws of valid schemas. -/
import Derived.Test.YtdllgnccjejhiaaSFinds
import Derived.Test.YtdllgnccjejhiaaSame
namespace Go.Proofs.Ytdllgnccjejhiaa
open Go.RowKit
set_option linter.unusedVariables false
set_option maxRecDepth 10000
set_option linter.unusedSimpArgs false
set_option linter.unnecessarySimpa false

def goodC (c : Col) : Prop := nameOk c.name = true ∧ 1 ≤ c.kind ∧ c.kind ≤ 3
theorem colsCheck_ok : ∀ (cols pre : List Col), (∀ c ∈ cols, goodC c) → (∀ (k : Nat) (hk : k < cols.length), ∀ d ∈ pre ++ cols.take k, d.name ≠ cols[k].name) → colsCheck pre cols = 0
  | [], _, _, _ => rfl
  | c :: cs, pre, hg, hd => by
    obtain ⟨h1, h2, h3⟩ := hg c (by simp)
    rw [colsCheck, if_neg, if_neg (by omega)]
    · refine colsCheck_ok cs (pre ++ [c]) (fun d hdm => hg d (by simp [hdm])) (fun k hk d hdm => ?_)
      have := hd (k + 1) (by simpa using hk) d (by simpa using hdm)
      simpa using this
    · rw [h1]
      rintro (h | ⟨d, hdm, he⟩)
      · cases h
      · exact hd 0 (by simp) d (by simpa using hdm) (by simpa using he)
theorem colsCheck_dup : ∀ (cols pre : List Col), (∀ c ∈ cols, goodC c) → (∃ (k : Nat) (hk : k < cols.length), ∃ d ∈ pre ++ cols.take k, d.name = cols[k].name) → colsCheck pre cols = 12
  | [], _, _, ⟨k, hk, _⟩ => by simp at hk
  | c :: cs, pre, hg, ⟨k, hk, d, hdm, he⟩ => by
    obtain ⟨h1, h2, h3⟩ := hg c (by simp)
    rw [colsCheck]
    by_cases hx : nameOk c.name = false ∨ ∃ d ∈ pre, d.name = c.name
    · rw [if_pos hx]
    · rw [if_neg hx, if_neg (by omega)]
      cases k with
      | zero => exact absurd (.inr ⟨d, by simpa using hdm, by simpa using he⟩) hx
      | succ k => exact colsCheck_dup cs (pre ++ [c]) (fun d hdm => hg d (by simp [hdm])) ⟨k, by simpa using hk, d, by simpa using hdm, by simpa using he⟩

theorem goodS_name_ok (z : Int) (s : Sch) : nameOk (goodS s z).name = true := by
  show nameOk ((⟨#[113]⟩ : ByteArray) ++ strOf [byteOf (97 + (z % 26).toNat)]) = true
  obtain ⟨m, hm⟩ : ∃ m : Nat, m = (z % 26).toNat := ⟨_, rfl⟩
  have hlt : m < 26 := by omega
  rw [← hm]
  have key : ∀ m : Fin 26, nameOk ((⟨#[113]⟩ : ByteArray) ++ strOf [byteOf (97 + m.val)]) = true := by decide +kernel
  exact key ⟨m, hlt⟩
theorem col_name_ok (i : Nat) (h : i < 6) : nameOk (strOf [byteOf (97 + i)]) = true := by
  have key : ∀ m : Fin 6, nameOk (strOf [byteOf (97 + m.val)]) = true := by decide +kernel
  exact key ⟨i, h⟩
theorem goodCol_kind (s : Sch) (i : Nat) : 1 ≤ (goodCol s i).kind ∧ (goodCol s i).kind ≤ 3 := by
  unfold goodCol
  split
  · rename_i c _
    show 1 ≤ 1 + c.kind % 3 ∧ 1 + c.kind % 3 ≤ 3
    omega
  · exact ⟨by show (1 : Int) ≤ 2; omega, by show (2 : Int) ≤ 3; omega⟩
theorem goodS_col (s : Sch) (z : Int) (k : Nat) (hk : k < (goodS s z).cols.length) : (goodS s z).cols[k] = if k = goodKey s then clr (goodCol s k) else goodCol s k := by
  have hk' : k < goodL s := by rw [goodS_len] at hk; exact hk
  have e : (goodCols s (goodL s))[k]'(by rw [goodCols_len]; exact hk') = goodCol s k := by simp [goodCols]
  have hk2 : k < ((goodCols s (goodL s)).set (goodKey s) (clr ((goodCols s (goodL s)).getD (goodKey s) ⟨⟨#[]⟩, 0, false⟩))).length := hk
  show (((goodCols s (goodL s)).set (goodKey s) (clr ((goodCols s (goodL s)).getD (goodKey s) ⟨⟨#[]⟩, 0, false⟩)))[k]'hk2) = _
  rw [List.getElem_set]
  by_cases hq : goodKey s = k
  · rw [if_pos hq, if_pos hq.symm]
    subst hq
    rw [List.getD_eq_getElem?_getD, List.getElem?_eq_getElem (by rw [goodCols_len]; exact hk')]
    show clr ((goodCols s (goodL s))[goodKey s]'_) = _
    rw [e]
  · rw [if_neg hq, if_neg (fun h => hq h.symm), e]
theorem goodKey_lt (s : Sch) : goodKey s < goodL s := by
  have := goodL_pos s
  unfold goodKey
  have := Int.emod_lt_of_pos s.key (show (0 : Int) < (goodL s : Int) by omega)
  have := Int.emod_nonneg s.key (show (goodL s : Int) ≠ 0 by omega)
  omega
theorem goodS_goodC (s : Sch) (z : Int) (k : Nat) (hk : k < (goodS s z).cols.length) : goodC (goodS s z).cols[k] := by
  have hlen := goodS_len s z
  have hl := goodL_le s
  refine ⟨?_, ?_⟩
  · rw [goodS_name s z k hk]; exact col_name_ok k (by omega)
  · have h := goodCol_kind s k
    rw [goodS_col s z k hk]
    split
    · exact h
    · exact h
theorem goodS_inj (s : Sch) (z : Int) (j k : Nat) (hj : j < (goodS s z).cols.length) (hk : k < (goodS s z).cols.length) (h : (goodS s z).cols[j].name = (goodS s z).cols[k].name) : j = k := by
  have hlen := goodS_len s z
  have hl := goodL_le s
  rw [goodS_name s z k hk, goodS_name s z j hj] at h
  have := byteOf_inj (by omega) (by omega) (strOf_one_inj h)
  omega
theorem goodS_key (s : Sch) (z : Int) : keyCheck (goodS s z) = 0 := by
  have h1 := goodKey_lt s
  have hlen := goodS_len s z
  unfold keyCheck
  have hk : (goodS s z).key = (goodKey s : Nat) := rfl
  rw [hk, if_neg (by omega), if_neg]
  rw [show ((goodKey s : Nat) : Int).toNat = goodKey s by omega, List.getD_eq_getElem?_getD, List.getElem?_eq_getElem (by omega)]
  show ¬ ((goodS s z).cols[goodKey s]).null = true
  rw [goodS_col s z _ (by omega), if_pos rfl]
  simp [clr]
theorem goodS_cols (s : Sch) (z : Int) : colsCheck [] (goodS s z).cols = 0 := by
  refine colsCheck_ok _ [] (fun c hc => ?_) (fun k hk d hd he => ?_)
  · obtain ⟨j, hj, rfl⟩ := List.mem_iff_getElem.1 hc
    exact goodS_goodC s z j hj
  · rw [List.nil_append] at hd
    obtain ⟨i, hi, rfl⟩ := List.mem_iff_getElem.1 hd
    rw [List.getElem_take] at he
    rw [List.length_take] at hi
    have := goodS_inj s z i k (by omega) hk he
    omega
theorem goodS_check (s : Sch) (z : Int) : checkS (goodS s z) = 0 := by
  have hlen := goodS_len s z
  have h1 := goodL_pos s
  have h2 := goodL_le s
  unfold checkS
  rw [goodS_name_ok, goodS_cols, goodS_key, if_neg (by simp), if_neg (by omega), if_neg (by simp)]
/-- A column of another name; columns with one of another name. -/
def ren (c : Col) (t : ByteArray) : Col := ⟨t, c.kind, c.null⟩
theorem colCells_ren : ∀ (l : List Col) (q : Nat) (hq : q < l.length) (t : ByteArray), (colCells l).set (q * 3) (.string t) = colCells (l.set q (ren l[q] t))
  | [], q, h, t => by simp at h
  | a :: l, 0, h, t => rfl
  | a :: l, q + 1, h, t => by
    have h' : q < l.length := by simpa using h
    have ih := colCells_ren l q h' t
    rw [show (q + 1) * 3 = q * 3 + 1 + 1 + 1 by omega]
    show Value.string a.name :: Value.int .i64 a.kind :: Value.bool a.null :: (colCells l).set (q * 3) (.string t) = Value.string a.name :: Value.int .i64 a.kind :: Value.bool a.null :: colCells (l.set q (ren l[q] t))
    rw [ih]
theorem checkS_cols (s : Sch) (h1 : nameOk s.name = true) (h2 : 1 ≤ s.cols.length ∧ s.cols.length ≤ 6) (h3 : colsCheck [] s.cols = 12) : checkS s = 12 := by
  unfold checkS
  rw [h1, h3, if_neg (by simp), if_neg (by omega), if_pos (by omega)]
/-- One column is named as another one is. -/
theorem goodS_twice (s : Sch) (z : Int) (a b : Nat) (ha : a < (goodS s z).cols.length) (hb : b < (goodS s z).cols.length) :
    checkS ⟨(goodS s z).name, (goodS s z).cols.set a (ren (goodS s z).cols[a] (goodS s z).cols[b].name), (goodS s z).key, (goodS s z).only⟩ = if a = b then 0 else 12 := by
  by_cases hab : a = b
  · subst hab
    rw [if_pos rfl]
    have : ren (goodS s z).cols[a] (goodS s z).cols[a].name = (goodS s z).cols[a] := rfl
    rw [this, List.set_getElem_self]
    exact goodS_check s z
  · rw [if_neg hab]
    have hlen := goodS_len s z
    have h1 := goodL_pos s
    have h2 := goodL_le s
    refine checkS_cols _ (goodS_name_ok z s) (by simp only [List.length_set]; omega) ?_
    refine colsCheck_dup _ [] (fun c hc => ?_) ?_
    · obtain ⟨j, hj, rfl⟩ := List.mem_iff_getElem.1 hc
      rw [List.length_set] at hj
      rw [List.getElem_set]
      split
      · exact ⟨(goodS_goodC s z b hb).1, (goodS_goodC s z a ha).2⟩
      · exact goodS_goodC s z j hj
    · simp only [List.nil_append, List.length_set]
      by_cases hlt : a < b
      · refine ⟨b, hb, ren (goodS s z).cols[a] (goodS s z).cols[b].name, ?_, ?_⟩
        · refine List.mem_iff_getElem.2 ⟨a, by rw [List.length_take, List.length_set]; omega, ?_⟩
          rw [List.getElem_take, List.getElem_set_self]
        · rw [List.getElem_set_ne hab]; rfl
      · refine ⟨a, ha, (goodS s z).cols[b], ?_, ?_⟩
        · refine List.mem_iff_getElem.2 ⟨b, by rw [List.length_take, List.length_set]; omega, ?_⟩
          rw [List.getElem_take, List.getElem_set_ne hab]
        · rw [List.getElem_set_self]; rfl
end Go.Proofs.Ytdllgnccjejhiaa
