/- What is wrong with a value: the document's Check. -/
import Derived.Test.YtfehhiegnhplhaaVCkB
namespace Go.Proofs.Ytfehhiegnhplhaa
open Go.RowKit
set_option linter.unusedVariables false
set_option maxRecDepth 10000
set_option linter.unusedSimpArgs false
set_option linter.unnecessarySimpa false

set_option maxRecDepth 100000 in
set_option maxHeartbeats 8000000 in
theorem refVCheck_any (v : Val) (w : World) (hfit : v.s.size ≤ maxLen) : Calls Try.prog 37 #[.agg #[.int .i64 v.kind, .int .i64 v.n, .string v.s]] w fun e w' => e = .returned (.int .i64 (vcheck v)) ∧ Turns [] w w' := by
  obtain ⟨res, hres⟩ : ∃ r, r = vcheck v := ⟨_, rfl⟩
  rw [← hres]
  obtain ⟨k, n, s⟩ := v
  simp only at hfit
  have t0 : Turns [] w (w.alloc (.cells #[.int .i64 k, .int .i64 n, .string s] 28)) := (Turns.refl [] w).alloc _
  have hz := none_beq s
  have hze : (⟨#[]⟩ : ByteArray).toList = [] := by rw [ByteArray.toList_eq]
  rw [hze] at hz
  unfold maxLen at hfit
  by_cases hlo : k < 0
  · have hc := Lib.hid (show res = 3 by rw [hres]; unfold vcheck; rw [if_pos (.inl hlo)])
    clear hres hz
    go_enter Try.func37, Try.ntmps37
    go_wp2_with fail
    go_ret
    exact ⟨by rw [hc.out]; rfl, t0⟩
  by_cases hhi : 3 < k
  · have hc := Lib.hid (show res = 3 by rw [hres]; unfold vcheck; rw [if_pos (.inr hhi)])
    clear hres hz
    go_enter Try.func37, Try.ntmps37
    go_wp2_with fail
    go_ret
    exact ⟨by rw [hc.out]; rfl, t0⟩
  have hvm := vcheck_mid ⟨k, n, s⟩ ⟨by simp; omega, by simp; omega⟩
  rw [← hres] at hvm
  clear hres
  have hk : k = 0 ∨ k = 1 ∨ k = 2 ∨ k = 3 := by omega
  obtain ⟨z, hsz⟩ : ∃ z, z = (s.size == 0) := ⟨_, rfl⟩
  rw [← hsz] at hz
  have odd : Val.odd ⟨k, n, s⟩ = ((k != 3 && !z) || (k != 1 && k != 2 && n != 0) || (k == 1 && n != 0 && n != 1)) := by rw [hsz]; rfl
  have h0 : z = true → s.size = 0 := by intro h; rw [h] at hsz; simpa using hsz.symm
  have H0 := Lib.hid h0
  clear hsz h0
  rcases hk with rfl | rfl | rfl | rfl
  · -- kind 0
    by_cases hn : n = 0
    · subst hn
      cases z
      · have hc := Lib.hid (show res = 1 by rw [hvm, odd, if_pos (by simp)])
        clear hvm odd
        go_enter Try.func37, Try.ntmps37
        go_wp2_with fail
        go_ret
        exact ⟨by rw [hc.out]; rfl, t0⟩
      · have hs0 := H0.out rfl
        have hq : ¬ (60 : Int) < (s.size : Int) := by omega
        have hc := Lib.hid (show res = 0 by rw [hvm, odd, if_neg (by simp), if_neg (by simp only; omega)])
        clear hvm odd
        go_enter Try.func37, Try.ntmps37
        go_wp2_with fail
        go_ret
        exact ⟨by rw [hc.out]; rfl, t0⟩
    · have en : (n != 0) = true := by simpa using hn
      have hc := Lib.hid (show res = 1 by rw [hvm, odd, if_pos (by simp [hn])])
      clear hvm odd
      go_enter Try.func37, Try.ntmps37
      go_wp2_with fail
      go_ret
      exact ⟨by rw [hc.out]; rfl, t0⟩
  · -- kind 1
    by_cases hn0 : n = 0 ∨ n = 1
    · have x0 : ¬ n < 0 := by omega
      have x1 : ¬ 1 < n := by omega
      have on : (n != 0 && n != 1) = false := by rcases hn0 with rfl | rfl <;> rfl
      clear hn0
      cases z
      · have hc := Lib.hid (show res = 1 by rw [hvm, odd, if_pos (by simp)])
        clear hvm odd
        go_enter Try.func37, Try.ntmps37
        go_wp2_with fail
        go_ret
        exact ⟨by rw [hc.out]; rfl, t0⟩
      · have hs0 := H0.out rfl
        have hq : ¬ (60 : Int) < (s.size : Int) := by omega
        have hc := Lib.hid (show res = 0 by rw [hvm, odd, if_neg (by simpa using on), if_neg (by simp only; omega)])
        clear hvm odd
        go_enter Try.func37, Try.ntmps37
        go_wp2_with fail
        go_ret
        exact ⟨by rw [hc.out]; rfl, t0⟩
    · have on : (n != 0 && n != 1) = true := by simp; omega
      by_cases x0 : n < 0
      · have hc := Lib.hid (show res = 1 by rw [hvm, odd, if_pos (by simp at on; simp [on])])
        clear hvm odd
        go_enter Try.func37, Try.ntmps37
        go_wp2_with fail
        go_ret
        exact ⟨by rw [hc.out]; rfl, t0⟩
      · have x1 : 1 < n := by omega
        have hc := Lib.hid (show res = 1 by rw [hvm, odd, if_pos (by simp at on; simp [on])])
        clear hvm odd
        go_enter Try.func37, Try.ntmps37
        go_wp2_with fail
        go_ret
        exact ⟨by rw [hc.out]; rfl, t0⟩
  · -- kind 2
    cases z
    · have hc := Lib.hid (show res = 1 by rw [hvm, odd, if_pos (by simp)])
      clear hvm odd
      go_enter Try.func37, Try.ntmps37
      go_wp2_with fail
      go_ret
      exact ⟨by rw [hc.out]; rfl, t0⟩
    · have hs0 := H0.out rfl
      have hq : ¬ (60 : Int) < (s.size : Int) := by omega
      have hc := Lib.hid (show res = 0 by rw [hvm, odd, if_neg (by simp), if_neg (by simp only; omega)])
      clear hvm odd
      go_enter Try.func37, Try.ntmps37
      go_wp2_with fail
      go_ret
      exact ⟨by rw [hc.out]; rfl, t0⟩
  · -- kind 3
    by_cases hn : n = 0
    · subst hn
      by_cases h60 : 60 < s.size
      · have hq : (60 : Int) < (s.size : Int) := by omega
        have hc := Lib.hid (show res = 5 by rw [hvm, odd, if_neg (by simp), if_pos h60])
        clear hvm odd
        go_enter Try.func37, Try.ntmps37
        go_wp2_with fail
        go_ret
        exact ⟨by rw [hc.out]; rfl, t0⟩
      · have hq : ¬ (60 : Int) < (s.size : Int) := by omega
        have hc := Lib.hid (show res = 0 by rw [hvm, odd, if_neg (by simp), if_neg h60])
        clear hvm odd
        go_enter Try.func37, Try.ntmps37
        go_wp2_with fail
        go_ret
        exact ⟨by rw [hc.out]; rfl, t0⟩
    · have en : (n != 0) = true := by simpa using hn
      have hc := Lib.hid (show res = 1 by rw [hvm, odd, if_pos (by simp [hn])])
      clear hvm odd
      go_enter Try.func37, Try.ntmps37
      go_wp2_with fail
      go_ret
      exact ⟨by rw [hc.out]; rfl, t0⟩
end Go.Proofs.Ytfehhiegnhplhaa
