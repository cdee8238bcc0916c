/- Contracts of the library's slices functions at []byte. -/
import Derived.Test.YtdhbaepmbgoobaaBase
import Derived.Test.YtdhbaepmbgoobaaProg
namespace Go.Proofs.Ytdhbaepmbgoobaa
open Go.RowKit
set_option linter.unusedVariables false
set_option maxRecDepth 10000
set_option linter.unusedSimpArgs false
set_option linter.unnecessarySimpa false

theorem T8 : SliceTy Try.prog 34 5 (.int .u8 0) 1 1 := ⟨Try.underlying34, by kernel_rfl, rfl, by omega⟩

set_option maxHeartbeats 400000 in
theorem Clone_any (v : Value) (n : Nat) (bs : List Value) (h1 : ∀ u ∈ bs, u.oneCell' = true) (w : World) (h : Sl w w.heap.size 1 v n bs) (hn : n ≤ 140737488355328) :
    Calls Try.prog 60 #[v] w fun e w' => ∃ v', e = .returned v' ∧ w'.ownsRow w.heap.size 5 1 v' n bs ∧ Below w.heap.size w w' := by
  have h' := h
  obtain ⟨hl, A, c, rfl, hnc, hcm, hA, hrd⟩ := h
  have hnil := fun w => Lib.run_eql_slice_nil (P := Try.prog) w 34 5 A n c 0 0 Try.underlying34
  rcases A with _ | ad
  · have := hA rfl
    subst this
    have : n = 0 := by omega
    subst this
    have : bs = [] := List.eq_nil_of_length_eq_zero (by omega)
    subst this
    go_enter Try.func60, Try.ntmps60
    go_wp2_with fail
    go_ret
    exact ⟨_, rfl, World.ownsRow_nil _ _ _ _, Below.refl _ _⟩
  · have hown : (w.alloc (.cells #[] 5)).ownsRow w.heap.size 5 1 (.slice (some ⟨w.heap.size, 0, none⟩) 0 0) 0 [] :=
      World.ownsRow_made w #[] 0 (Nat.le_refl _) (Nat.zero_le _) (by simp)
    go_enter Try.func60, Try.ntmps60
    go_wp2_with (at_builtin; refine wpList_append _ rfl (.tmp 5) (.tmp 6) rfl (run_append_rd _ T8 _ hown (h'.alloc (Nat.le_refl _) _) h1 (by simp only [maxLen]; omega) (by omega) (by simp)) rfl rfl ?_; intro v' w' ap)
    go_ret
    exact ⟨v', rfl, by simpa using ap.own, ap.below ((Below.refl _ _).alloc (Nat.le_refl _) _) hown (Nat.le_refl _) (by simp)⟩

theorem Grow_none (w : World) : Calls Try.prog 59 #[.slice none 0 0, .int .i64 0] w fun e w' => e = .returned (.slice none 0 0) ∧ w = w' := by
  go_enter Try.func59, Try.ntmps59
  go_wp2_with fail
  go_ret
  exact ⟨rfl, rfl⟩

set_option maxRecDepth 10000 in
set_option maxHeartbeats 400000 in
theorem Grow_some (n : Nat) (h0 : 0 < n) (hn : n ≤ 140737488355328) (w : World) :
    Calls Try.prog 59 #[.slice none 0 0, .int .i64 n] w fun e w' => ∃ v', e = .returned v' ∧ w'.ownsRow w.heap.size 5 1 v' 0 [] ∧ Below w.heap.size w w' := by
  obtain ⟨i0, hi0, hz0, hz1, hz2⟩ := info_parts T8.info
  have hgz := Lib.run_append_nil_zeros (P := Try.prog) w 34 3 34 5 i0 (.int .u8 0) .i64 .i64 Try.underlying34 Try.underlying3 hi0 hz0 n h0 (by omega) (by omega) (by rw [hz2]; omega)
  go_enter Try.func59, Try.ntmps59
  go_wp2_with (at_builtin; refine wpList_append _ rfl (.tmp 20) (.tmp 21) rfl (R := fun v' w' => _ = v' ∧ _ = w') ⟨_, _, hgz, rfl, rfl⟩ rfl rfl ?_; rintro v' w' ⟨rfl, rfl⟩)
  go_ret
  refine ⟨.slice (some ⟨w.heap.size, 0, none⟩) 0 (grownCap w n 0 5), rfl, ?_, ((Below.refl _ _).alloc (Nat.le_refl _) _).drew⟩
  refine (World.ownsRow_made w _ _ (Nat.le_refl _) (grownCap_le_maxLen w n 0 _ (by simp only [maxLen]; omega)) ?_).drew
  have := grownCap_ge w n 0 5
  have hc : (#[Value.int IntKind.u8 0] : Array Value).size = 1 := rfl
  simp only [Array.size_append, size_zeroCells, hc]
  omega

/-- The parts of a row of byte slices. -/
def flat (ls : List (Value × List UInt8)) : List UInt8 := ls.flatMap (·.2)
theorem flat_snoc (ls : List (Value × List UInt8)) (k : Nat) (h : k < ls.length) : flat (ls.take (k + 1)) = flat (ls.take k) ++ (ls[k]).2 := by
  unfold flat
  rw [List.take_succ_eq_append_getElem h, List.flatMap_append]
  simp

theorem flat_le (ls : List (Value × List UInt8)) (k : Nat) : (flat (ls.take k)).length ≤ (flat ls).length := by
  conv => rhs; rw [← List.take_append_drop k ls]
  unfold flat
  rw [List.flatMap_append, List.length_append]
  omega

set_option maxHeartbeats 1000000 in
theorem Concat_any (v : Value) (ls : List (Value × List UInt8)) (w : World) (hv : Sl w w.heap.size 1 v ls.length (ls.map (·.1)))
    (h : ∀ p ∈ ls, Sl w w.heap.size 1 p.1 p.2.length (bvs p.2)) (hn : (flat ls).length ≤ 1000000000000) (hl : ls.length ≤ 1000000) :
    Calls Try.prog 34 #[v] w fun e w' => ∃ v', e = .returned v' ∧ w'.ownsRow w.heap.size 5 1 v' (flat ls).length (bvs (flat ls)) ∧ Below w.heap.size w w' := by
  obtain ⟨hlen, A, c, rfl, hnc, hcm, hA, hrd⟩ := hv
  go_enter Try.func34, Try.ntmps34
  go_wp2_with fail
  go_loop [3, 11] (fun s i => ∃ k : Nat, k ≤ ls.length ∧ i = .int .i64 k ∧ s = .int .i64 (flat (ls.take k)).length) (fun _ i => ls.length - (intOf i).toNat)
  case atStart => exact ⟨0, by omega, rfl, by simp [flat]⟩
  case round =>
    obtain ⟨k, hk, rfl, rfl⟩ := hrel
    by_cases hlt : k < ls.length
    · obtain ⟨b, off, rfl, hb, hcell⟩ := hrd.at_ (k := k) (by simpa using hlt)
      have hsl := h _ (List.getElem_mem hlt)
      obtain ⟨hl2, A2, c2, hv2, hn2, hc2, _, _⟩ := hsl
      rw [List.getElem_map, hv2] at hcell
      clear hv2
      have e := flat_snoc ls k hlt
      have hle := flat_le ls (k + 1)
      rw [e, List.length_append] at hle
      go_wp2_with fail
      go_round
      case rel => exact ⟨k + 1, by omega, by go_num, by rw [e, List.length_append]; go_num⟩
      case measure => simp [intOf]; omega
    · have : k = ls.length := by omega
      subst this
      rw [List.take_length]
      have G : ∀ W : World, Calls Try.prog 59 #[.slice none 0 0, .int .i64 ((flat ls).length : Nat)] W fun e w' => ∃ v', e = .returned v' ∧ w'.ownsRow W.heap.size 5 1 v' 0 [] ∧ Below W.heap.size W w' := by
        intro W
        rcases Nat.eq_zero_or_pos (flat ls).length with h0 | h0
        · rw [h0]
          exact (Grow_none W).mono fun e w' ⟨he, hw⟩ => ⟨_, he, by subst hw; exact World.ownsRow_nil _ _ _ _, by subst hw; exact Below.refl _ _⟩
        · exact Grow_some _ h0 (by omega) W
      go_wp2_with fail
      refine (G _).mono ?_
      rintro e w1 ⟨v1, rfl, own1, bel1⟩
      clear G
      go_wp2_with fail
      go_loopw [6, 27] (fun v i wr => ∃ k : Nat, k ≤ ls.length ∧ i = .int .i64 k ∧ wr.ownsRow w.heap.size 5 1 v (flat (ls.take k)).length (bvs (flat (ls.take k))) ∧ Below w.heap.size w wr) (fun _ i _ => ls.length - (intOf i).toNat)
      case atStart => exact ⟨0, by omega, rfl, by simpa [flat, bvs] using own1, bel1⟩
      case round =>
        obtain ⟨k, hk', rfl, hown, hbel⟩ := hrel
        have hs := hbel.size
        by_cases hlt : k < ls.length
        · have hcell := hrd.at_ (k := k) (by simpa using hlt)
          obtain ⟨b, off, rfl, hb, hcell⟩ := hcell
          rw [← hbel.cell (p := ⟨b, off + k, none⟩) hb] at hcell
          have hsl := (h _ (List.getElem_mem hlt)).below hbel
          rw [List.getElem_map] at hcell
          have e := flat_snoc ls k hlt
          have hle := flat_le ls (k + 1)
          rw [e, List.length_append] at hle
          obtain ⟨pv, hpv⟩ : ∃ pv, pv = ls[k].1 := ⟨_, rfl⟩
          rw [← hpv] at hcell hsl
          clear hpv
          go_wp2_with (at_builtin; refine wpList_append _ rfl (.tmp 31) (.tmp 32) rfl (run_append_rd _ T8 _ hown hsl (bvs_one _) (by simp only [maxLen]; omega) (by omega) hs) rfl rfl ?_; intro v' w' ap)
          go_roundw
          case rel =>
            refine ⟨k + 1, by omega, by go_num, ?_, ap.below hbel hown (Nat.le_refl _) hs⟩
            rw [e, List.length_append, bvs_append]
            exact ap.own
          case measure => simp [intOf]; omega
        · have : k = ls.length := by omega
          subst this
          rw [List.take_length] at hown
          go_wp2_with fail
          go_ret
          exact ⟨_, rfl, hown, hbel⟩
end Go.Proofs.Ytdhbaepmbgoobaa
