/- 's[lo:hi]' of bytes; rows of slices of bytes. -/
import Derived.Test.YtibolcekhdapaaaSumL
import Derived.Test.YtibolcekhdapaaaSls
namespace Go.Proofs.Ytibolcekhdapaaa
open Go.RowKit
set_option linter.unusedVariables false
set_option maxRecDepth 10000
set_option linter.unusedSimpArgs false
set_option linter.unnecessarySimpa false

/-- The address behind k. -/
def adr (A : Option Addr) (c k : Nat) : Option Addr := if c = k then A else A.map fun x => x.add k
theorem sl_off {w : World} {B n c k : Nat} {A : Option Addr} {xs : List Value} (h : Sl w B 1 (.slice A n c) n xs) (hk : k ≤ n) : Sl w B 1 (.slice (adr A c k) (n - k) (c - k)) (n - k) (xs.drop k) := by
  unfold adr
  by_cases hc : c = k
  · rw [if_pos hc]; exact h.from_end hk hc
  · rw [if_neg hc]; exact h.from_ hk hc
theorem run_to (A : Option Addr) (n c k : Nat) (hk : k ≤ n) (hc : n ≤ c) (w : World) : (Instr.sliceAt 26 (.slice A n c) none (some (.int .i64 (k : Int))) none).run Try.prog w = .ok (.slice A k c) w := by
  have z1 : (k : Int) ≤ (c : Int) := by omega
  have z2 : k ≤ c := by omega
  go_simp
theorem run_off (A : Option Addr) (n c k : Nat) (hk : k ≤ n) (hc : n ≤ c) (w : World) : (Instr.sliceAt 26 (.slice A n c) (some (.int .i64 (k : Int))) none none).run Try.prog w = .ok (.slice (adr A c k) (n - k) (c - k)) w := by
  have z1 : (k : Int) ≤ (c : Int) := by omega
  have z2 : (k : Int) ≤ (n : Int) := by omega
  unfold adr
  go_simp
  all_goals (intro hh; omega)
theorem run_mid (A : Option Addr) (n c k d : Nat) (hk : k + d ≤ n) (hc : n ≤ c) (w : World) : (Instr.sliceAt 26 (.slice A n c) (some (.int .i64 (k : Int))) (some (.int .i64 ((k : Int) + (d : Int)))) none).run Try.prog w = .ok (.slice (adr A c k) d (c - k)) w := by
  have z1 : (k : Int) ≤ (c : Int) := by omega
  have z2 : (k : Int) + (d : Int) ≤ (c : Int) := by omega
  have z3 : (k : Int) ≤ (k : Int) + (d : Int) := by omega
  have z4 : ((k : Int) + (d : Int)).toNat = k + d := by omega
  unfold adr
  go_simp
/-- A row of slices of bytes that came in: its values beside what they hold. -/
theorem Sls.pairs {w : World} {B : Nat} {v : Value} {n : Nat} {ls : List (List UInt8)} (h : Sls w B v n ls) : ∃ ps : List (Value × List UInt8), ps.length = n ∧ ps.map (·.2) = ls ∧ Sl w B 1 v n (ps.map (·.1)) ∧ ∀ p ∈ ps, Sl w B 1 p.1 p.2.length (bvs p.2) := by
  obtain ⟨vs, h1, h2, h3⟩ := h
  have hl : vs.length = n := by have := h2.1; omega
  refine ⟨vs.zip ls, by simp [hl, h1], by rw [List.map_snd_zip (by omega)], by rw [List.map_fst_zip (by omega)]; exact h2, fun p hp => ?_⟩
  obtain ⟨j, hj⟩ := List.getElem?_of_mem hp
  rw [List.getElem?_zip_eq_some] at hj
  obtain ⟨l, hl2, hs⟩ := h3 j p.1 hj.1
  rw [hj.2] at hl2
  injection hl2 with hl2
  rw [hl2]
  exact hs
end Go.Proofs.Ytibolcekhdapaaa
