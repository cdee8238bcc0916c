/- Values made good, in plain words. -/
import Derived.Test.YtfehhiegnhplhaaVRts
namespace Go.Proofs.Ytfehhiegnhplhaa
open Go.RowKit
set_option linter.unusedVariables false
set_option maxRecDepth 10000
set_option linter.unusedSimpArgs false

def gval (v : Val) : Val := if v.kind % 4 = 1 then ⟨1, v.n % 2, ⟨#[]⟩⟩ else if v.kind % 4 = 2 then ⟨2, v.n, ⟨#[]⟩⟩ else if v.kind % 4 = 3 then ⟨3, 0, strOf (v.s.data.toList.take 60)⟩ else noV
theorem gval_kind (v : Val) : (gval v).kind = v.kind % 4 := by
  unfold gval
  split
  · simp; omega
  · split
    · simp; omega
    · split
      · simp; omega
      · simp [noV]; omega
theorem gval_ok (v : Val) : vcheck (gval v) = 0 := by
  unfold gval
  split
  · have h : v.n % 2 = 0 ∨ v.n % 2 = 1 := by omega
    rcases h with h | h <;> rw [h] <;> rfl
  · split
    · rfl
    · split
      · unfold vcheck
        have h : (strOf (v.s.data.toList.take 60)).size ≤ 60 := by rw [strOf_size, List.length_take]; omega
        simp [Val.odd]
        omega
      · rfl
theorem gval_fits (v : Val) (h : v.fits) : (gval v).fits := by
  obtain ⟨h1, h2, h3⟩ := h
  unfold gval
  split
  · exact ⟨by simp, by simp; omega, none_fits⟩
  · split
    · exact ⟨by simp, h2, none_fits⟩
    · split
      · refine ⟨by simp, by simp, ?_⟩
        show (strOf _).size ≤ _
        rw [strOf_size, List.length_take]
        unfold maxLen
        omega
      · exact ⟨by simp [noV], by simp [noV], none_fits⟩
theorem gval_small (v : Val) : (gval v).s.size ≤ 60 := (vcheck_ok (gval_ok v)).2.2.2.2
/-- Bytes tell rows of good values apart. -/
theorem vals_inj {a b : List Val} (ha : ∀ c ∈ a, vcheck c = 0 ∧ c.fits) (hb : ∀ c ∈ b, vcheck c = 0 ∧ c.fits) (hl : a.length = b.length) (h : valsBytes a = valsBytes b) : a = b := by
  have h1 := vals_some a [] ha a.length (Nat.le_refl _)
  have h2 := vals_some b [] hb a.length (by omega)
  rw [h, h2, List.take_length, hl, List.take_length] at h1
  exact (congrArg Prod.fst h1).symm
theorem row_inj {a b : List Val} (ha : ∀ c ∈ a, vcheck c = 0 ∧ c.fits) (hb : ∀ c ∈ b, vcheck c = 0 ∧ c.fits) (hl : a.length = b.length) : rowBytes a = rowBytes b ↔ a = b := by
  refine ⟨fun h => vals_inj ha hb hl ?_, fun h => by rw [h]⟩
  unfold rowBytes at h
  injection h
theorem size_none : (⟨#[]⟩ : ByteArray).size = 0 := rfl
/-- How long a good value's bytes are. -/
theorem valBytes_size (v : Val) (h : vcheck v = 0) : ((valBytes v).length : Int) = (if v.kind = 0 then 1 else if v.kind = 1 then 2 else if v.kind = 2 then 9 else 3) + v.s.size := by
  obtain ⟨hk, h3, _, _, h60⟩ := vcheck_ok h
  unfold valBytes valTail
  have hc : v.kind = 0 ∨ v.kind = 1 ∨ v.kind = 2 ∨ v.kind = 3 := by omega
  rcases hc with hc | hc | hc | hc
  · rw [h3 (by omega), size_none]; simp [hc]
  · rw [h3 (by omega), size_none]; simp [hc]
  · rw [h3 (by omega), size_none]; simp [hc, le8_length]
  · simp [hc, textBytes_length]
    have : v.s.data.size = v.s.size := rfl
    omega
end Go.Proofs.Ytfehhiegnhplhaa
