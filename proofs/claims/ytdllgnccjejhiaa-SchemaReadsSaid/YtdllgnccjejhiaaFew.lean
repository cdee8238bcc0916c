/- Schemas that are not too much. -/
import Derived.Test.YtdllgnccjejhiaaCheck
namespace Go.Proofs.Ytdllgnccjejhiaa
open Go.RowKit
set_option linter.unusedVariables false
set_option maxRecDepth 10000
set_option linter.unusedSimpArgs false
set_option linter.unnecessarySimpa false

def fewC (l : List Col) : Bool := l.all fun c => decide (c.name.size ≤ 30)
def fewS (s : Sch) : Bool := fewC s.cols && (decide (s.cols.length ≤ 9) && decide (s.name.size ≤ 30))
theorem fewC_bad (l : List Col) (k : Nat) (hk : k < l.length) (h : 30 < l[k].name.size) : fewC l = false := by
  unfold fewC
  rw [List.all_eq_false]
  exact ⟨l[k], List.getElem_mem hk, by simp; omega⟩
theorem fewC_ok (l : List Col) (h : ∀ (j : Nat) (hj : j < l.length), l[j].name.size ≤ 30) : fewC l = true := by
  unfold fewC
  rw [List.all_eq_true]
  intro c hc
  obtain ⟨j, hj, rfl⟩ := List.mem_iff_getElem.1 hc
  simpa using h j hj
theorem fewS_names {s : Sch} (h : fewS s = true) : s.cols.length ≤ 9 ∧ s.name.size ≤ 30 ∧ ∀ c ∈ s.cols, c.name.size ≤ 30 := by
  unfold fewS fewC at h
  simp only [Bool.and_eq_true, decide_eq_true_eq, List.all_eq_true] at h
  exact ⟨h.2.1, h.2.2, h.1⟩

set_option maxHeartbeats 2000000 in
theorem Few_any (s : Sch) (A : Option Addr) (n c : Nat) (B : Nat) (w : World) (hf : s.fits) (hs : Sl w B 3 (.slice A n c) n (colCells s.cols)) (hB : B ≤ w.heap.size) :
    Calls Try.prog 15 #[.agg #[.string s.name, .slice A n c, .int .i64 s.key, .bool s.only]] w fun e w' => e = .returned (.bool (fewS s)) ∧ Turns [] w w' := by
  have hl := hs.1
  rw [colCells_length] at hl
  obtain rfl : n = s.cols.length := by omega
  clear hl
  have hm : s.cols.length ≤ 9223372036854775807 := by
    obtain ⟨_, _, _, ee, h1, h2, _⟩ := hs
    injection ee with _ _ e3
    subst e3
    unfold maxLen at h2; omega
  have hm2 := hf.1
  have t1 := (Turns.refl [] w).alloc (.cells #[.string s.name, .slice A s.cols.length c, .int .i64 s.key, .bool s.only] 30)
  have hs1 := t1.slice hs hB (by simp)
  have hcol : ∀ (k : Nat) (hk : k < s.cols.length), ∃ b off, A = some ⟨b, off, none⟩ ∧ (w.alloc (.cells #[.string s.name, .slice A s.cols.length c, .int .i64 s.key, .bool s.only] 30)).cell? ⟨b, off + k * 3, none⟩ = some (.string s.cols[k].name) := by
    intro k hk
    obtain ⟨_, _, _, ee, _, _, _, hrd⟩ := hs1
    injection ee with e1 _ e3
    subst e1
    obtain ⟨b, off, rfl, hb, hc⟩ := hrd (by intro e; have := congrArg List.length e; rw [colCells_length] at this; simp at this; omega)
    exact ⟨b, off, rfl, by have := hc (k * 3 + 0) (.string s.cols[k].name) (by rw [colCells_get s.cols k 0 hk (by omega)]; rfl); simpa using this⟩
  clear hs hs1
  go_enter Try.func15, Try.ntmps15
  go_wp2_with fail
  go_loop [3] (fun i => ∃ k : Nat, k ≤ s.cols.length ∧ i = .int .i64 k ∧ ∀ (j : Nat) (hj : j < s.cols.length), j < k → s.cols[j].name.size ≤ 30) (fun i => s.cols.length - (intOf i).toNat)
  case atStart => exact ⟨0, by omega, rfl, fun j hj h => absurd h (by omega)⟩
  case round =>
    obtain ⟨k, hk, rfl, hall⟩ := hrel
    by_cases hlt : k < s.cols.length
    · obtain ⟨b, off, rfl, hc⟩ := hcol k hlt
      have hz := hf.2 _ (List.getElem_mem hlt)
      have hbad := fewC_bad s.cols k hlt
      have hgood : s.cols[k].name.size ≤ 30 → ∀ (j : Nat) (hj : j < s.cols.length), j < k + 1 → s.cols[j].name.size ≤ 30 := fun h j hj hj' => by
        by_cases e : j = k
        · subst e; exact h
        · exact hall j hj (by omega)
      generalize s.cols[k].name = t at hc hz hbad hgood
      have H := Lib.hid (And.intro hbad hgood)
      clear hbad hgood hall hcol
      by_cases h30 : 30 < t.size
      · have hn := Lib.hid (show fewS s = false by unfold fewS; rw [H.out.1 h30]; rfl)
        have x : 30 < (t.size : Int) := by omega
        go_wp2_with fail
        go_ret
        exact ⟨by rw [hn.out]; rfl, t1⟩
      · have hn := Lib.hid (H.out.2 (by omega))
        have x : (t.size : Int) ≤ 30 := by omega
        clear H
        go_wp2_with fail
        go_round
        case rel => exact ⟨k + 1, by omega, by go_num, hn.out⟩
        case measure => (simp [intOf] <;> omega)
    · obtain rfl : k = s.cols.length := by omega
      have hc := fewC_ok s.cols (fun j hj => hall j hj hj)
      clear hall hcol
      by_cases h9 : s.cols.length ≤ 9
      · by_cases h30 : s.name.size ≤ 30
        · have hn := Lib.hid (show fewS s = true by unfold fewS; rw [hc]; simp [h9, h30])
          have x1 : (s.cols.length : Int) ≤ 9 := by omega
          have x2 : decide ((s.name.size : Int) ≤ 30) = true := decide_eq_true (by omega)
          clear hc
          go_wp2_with fail
          go_ret
          exact ⟨by rw [hn.out]; rfl, t1⟩
        · have hn := Lib.hid (show fewS s = false by unfold fewS; rw [hc]; simp [h30])
          have x1 : (s.cols.length : Int) ≤ 9 := by omega
          have x2 : decide ((s.name.size : Int) ≤ 30) = false := decide_eq_false (by omega)
          clear hc
          go_wp2_with fail
          go_ret
          exact ⟨by rw [hn.out]; rfl, t1⟩
      · have hn := Lib.hid (show fewS s = false by unfold fewS; rw [hc]; simp [h9])
        have x1 : decide ((s.cols.length : Int) ≤ 9) = false := decide_eq_false (by omega)
        clear hc
        go_wp2_with fail
        go_ret
        exact ⟨by rw [hn.out]; rfl, t1⟩
end Go.Proofs.Ytdllgnccjejhiaa
