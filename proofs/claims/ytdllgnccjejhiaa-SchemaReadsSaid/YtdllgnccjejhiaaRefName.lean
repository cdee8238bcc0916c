/- Which texts are names: the document's answer. -/
import Derived.Test.YtdllgnccjejhiaaNameF
import Derived.Test.YtdllgnccjejhiaaFind
namespace Go.Proofs.Ytdllgnccjejhiaa
open Go.RowKit
set_option linter.unusedVariables false
set_option maxRecDepth 10000
set_option linter.unusedSimpArgs false
set_option linter.unnecessarySimpa false

set_option maxRecDepth 100000 in
theorem refReserved_any (w : World) : Calls Try.prog 11 #[] w fun e w' => e = .returned (.slice (some ⟨w.heap.size, 0, none⟩) 41 41) ∧ w' = w.alloc (.cells (reserved.map Value.string).toArray 9) := by
  go_enter Try.func11, Try.ntmps11
  go_wp2
  go_ret
  exact ⟨rfl, rfl⟩

def noWord (t : ByteArray) (k : Nat) : Prop := ∀ (j : Nat) (hj : j < reserved.length), j < k → sameT reserved[j] t = false
theorem isWord_yes {t : ByteArray} {k : Nat} (hk : k < reserved.length) (h : sameT reserved[k] t = true) : isWord t = true := by
  unfold isWord
  rw [List.contains_iff_mem]
  have := of_decide_eq_true h
  rw [← this]; exact List.getElem_mem hk
theorem isWord_no {t : ByteArray} (h : noWord t reserved.length) : isWord t = false := by
  unfold isWord
  rw [← Bool.not_eq_true, List.contains_iff_mem]
  intro hm
  obtain ⟨j, hj, e⟩ := List.mem_iff_getElem.1 hm
  have := h j hj hj
  unfold sameT at this
  rw [decide_eq_true e] at this
  cases this

set_option maxRecDepth 100000 in
set_option maxHeartbeats 2000000 in
theorem refName_any (t : ByteArray) (ht : t.size ≤ 9223372036854775807) (w : World) :
    Calls Try.prog 14 #[.string t] w fun e w' => e = .returned (.bool (nameOk t)) ∧ Turns [] w w' := by
  by_cases h1 : t.size < 1
  · have hno := Lib.hid (show nameOk t = false from name_bad t (by unfold shapeOk; simp; omega))
    have x1 : (t.size : Int) < 1 := by omega
    go_enter Try.func14, Try.ntmps14
    go_wp2_with fail
    go_ret
    exact ⟨by rw [hno.out]; rfl, Turns.refl _ _⟩
  have x1 : 1 ≤ (t.size : Int) := by omega
  by_cases h12 : 12 < t.size
  · have hno := Lib.hid (show nameOk t = false from name_bad t (by unfold shapeOk; simp; omega))
    have x2 : 12 < (t.size : Int) := by omega
    go_enter Try.func14, Try.ntmps14
    go_wp2_with fail
    go_ret
    exact ⟨by rw [hno.out]; rfl, Turns.refl _ _⟩
  have x2 : (t.size : Int) ≤ 12 := by omega
  have hpos : 0 < t.size := by omega
  by_cases hlo : t[0].toNat < 97
  · have hno := Lib.hid (show nameOk t = false from name_bad t (by unfold shapeOk; rw [getD0 t hpos]; unfold low; simp; omega))
    have x3 : (t[0].toNat : Int) < 97 := by omega
    go_enter Try.func14, Try.ntmps14
    go_wp2_with fail
    go_ret
    exact ⟨by rw [hno.out]; rfl, Turns.refl _ _⟩
  have x3 : 97 ≤ (t[0].toNat : Int) := by omega
  by_cases hhi : 122 < t[0].toNat
  · have hno := Lib.hid (show nameOk t = false from name_bad t (by unfold shapeOk; rw [getD0 t hpos]; unfold low; simp; omega))
    have x4 : 122 < (t[0].toNat : Int) := by omega
    go_enter Try.func14, Try.ntmps14
    go_wp2_with fail
    go_ret
    exact ⟨by rw [hno.out]; rfl, Turns.refl _ _⟩
  have x4 : (t[0].toNat : Int) ≤ 122 := by omega
  have hlow : low (t.data.toList.getD 0 0) = true := by rw [getD0 t hpos]; unfold low; simp; omega
  have HLOW := Lib.hid hlow
  clear hlow
  go_enter Try.func14, Try.ntmps14
  go_wp2_with fail
  clear x3 x4 hlo hhi
  have LA := Lib.hid (refReserved_any w)
  go_loop [3] (fun i => ∃ k : Nat, k ≤ t.size ∧ i = .int .i64 k ∧ allTo t k) (fun i => t.size - (intOf i).toNat)
  case atStart => exact ⟨0, by omega, rfl, fun j hj h => absurd h (by omega)⟩
  case round =>
    obtain ⟨k, hk, rfl, hall⟩ := hrel
    by_cases hlt : k < t.size
    · obtain ⟨c, hc⟩ : ∃ c, c = t[k] := ⟨_, rfl⟩
      by_cases h0 : c.toNat < 48
      · have x0 : (c.toNat : Int) < 97 := by omega
        have x1 : (c.toNat : Int) < 48 := by omega
        have y : ((c.toNat : Int) != 95) = true := by rw [bne_iff_ne]; omega
        have hno := Lib.hid (show nameOk t = false from name_bad t (by unfold shapeOk; rw [all_bad t k hlt (by rw [← hc]; unfold chOk low; simp; omega)]; simp))
        clear hall
        clear h0
        rw [hc] at x0 x1 y
        clear hc
        go_wp2_with fail
        go_ret
        exact ⟨by rw [hno.out]; rfl, Turns.refl _ _⟩
      by_cases h1 : 48 ≤ c.toNat ∧ c.toNat ≤ 57
      · have x0 : (c.toNat : Int) < 97 := by omega
        have x1 : 48 ≤ (c.toNat : Int) := by omega
        have x2 : (c.toNat : Int) ≤ 57 := by omega
        have y : ((c.toNat : Int) != 95) = true := by rw [bne_iff_ne]; omega
        have OKS := Lib.hid (all_more hall hlt (by rw [← hc]; unfold chOk low; simp; omega))
        clear hall
        clear h0 h1
        rw [hc] at x0 x1 x2 y
        clear hc
        go_wp2_with fail
        go_round
        case rel => exact ⟨k + 1, by omega, by go_num, OKS.out⟩
        case measure => (simp [intOf] <;> omega)
      by_cases h2 : c.toNat = 95
      · have x0 : (c.toNat : Int) < 97 := by omega
        have x1 : 57 < (c.toNat : Int) := by omega
        have y : ((c.toNat : Int) != 95) = false := by simp; omega
        have OKS := Lib.hid (all_more hall hlt (by rw [← hc]; unfold chOk low; simp; omega))
        clear hall
        clear h0 h1 h2
        rw [hc] at x0 x1 y
        clear hc
        go_wp2_with fail
        go_round
        case rel => exact ⟨k + 1, by omega, by go_num, OKS.out⟩
        case measure => (simp [intOf] <;> omega)
      by_cases h3 : 57 < c.toNat ∧ c.toNat < 97 ∧ c.toNat ≠ 95
      · have x0 : (c.toNat : Int) < 97 := by omega
        have x1 : 57 < (c.toNat : Int) := by omega
        have y : ((c.toNat : Int) != 95) = true := by rw [bne_iff_ne]; omega
        have hno := Lib.hid (show nameOk t = false from name_bad t (by unfold shapeOk; rw [all_bad t k hlt (by rw [← hc]; unfold chOk low; simp; omega)]; simp))
        clear hall
        clear h0 h1 h2 h3
        rw [hc] at x0 x1 y
        clear hc
        go_wp2_with fail
        go_ret
        exact ⟨by rw [hno.out]; rfl, Turns.refl _ _⟩
      by_cases h4 : 97 ≤ c.toNat ∧ c.toNat ≤ 122
      · have x0 : 97 ≤ (c.toNat : Int) := by omega
        have x1 : (c.toNat : Int) ≤ 122 := by omega
        have y : ((c.toNat : Int) != 95) = true := by rw [bne_iff_ne]; omega
        have OKS := Lib.hid (all_more hall hlt (by rw [← hc]; unfold chOk low; simp; omega))
        clear hall
        clear h0 h1 h2 h3 h4
        rw [hc] at x0 x1 y
        clear hc
        go_wp2_with fail
        go_round
        case rel => exact ⟨k + 1, by omega, by go_num, OKS.out⟩
        case measure => (simp [intOf] <;> omega)
      by_cases h5 : 122 < c.toNat
      · have x0 : 122 < (c.toNat : Int) := by omega
        have x1 : 57 < (c.toNat : Int) := by omega
        have x2 : 97 ≤ (c.toNat : Int) := by omega
        have y : ((c.toNat : Int) != 95) = true := by rw [bne_iff_ne]; omega
        have hno := Lib.hid (show nameOk t = false from name_bad t (by unfold shapeOk; rw [all_bad t k hlt (by rw [← hc]; unfold chOk low; simp; omega)]; simp))
        clear hall
        clear h0 h1 h2 h3 h4 h5
        rw [hc] at x0 x1 x2 y
        clear hc
        go_wp2_with fail
        go_ret
        exact ⟨by rw [hno.out]; rfl, Turns.refl _ _⟩
      exact absurd trivial (by omega)
    · obtain rfl : k = t.size := by omega
      have hsh : shapeOk t = true := by unfold shapeOk; rw [HLOW.out, all_ok hall]; simp; omega
      have hnm := Lib.hid (show nameOk t = !(isWord t) by unfold nameOk; rw [hsh]; rfl)
      clear hall hsh
      go_wp2_with fail
      refine LA.out.mono ?_
      rintro e w1 ⟨rfl, hw1⟩
      have t1 : Turns [] w w1 := by rw [hw1]; exact (Turns.refl _ _).alloc _
      have hcell : ∀ (j : Nat) (hj : j < reserved.length), w1.cell? ⟨w.heap.size, j, none⟩ = some (.string reserved[j]) := fun j hj => by
        have hb := Blk.new w (reserved.map Value.string) 9
        rw [hw1, hb.cell j, List.getElem?_map, List.getElem?_eq_getElem hj]; rfl
      clear hw1 LA
      generalize w.heap.size = q at *
      go_wp2_with fail
      go_loop [6] (fun i => ∃ k : Nat, k ≤ 41 ∧ i = .int .i64 k ∧ noWord t k) (fun i => 41 - (intOf i).toNat)
      case atStart => exact ⟨0, by omega, rfl, fun j hj h => absurd h (by omega)⟩
      case round =>
        obtain ⟨k, hk, rfl, hno⟩ := hrel
        by_cases hlt : k < 41
        · have hlt' : k < reserved.length := hlt
          have hc := hcell k hlt'
          have hyes := fun h => isWord_yes (t := t) hlt' h
          have hmore : sameT reserved[k] t = false → noWord t (k + 1) := fun h j hj hj' => by
            by_cases e : j = k
            · subst e; exact h
            · exact hno j hj (by omega)
          have tb := toList_beq reserved[k] t
          generalize reserved[k] = r at hc hyes hmore tb
          have H := Lib.hid (And.intro hyes hmore)
          clear hyes hmore hno hcell
          cases hs : sameT r t
          · rw [hs] at tb
            have hn := Lib.hid (H.out.2 hs)
            clear hs H
            go_wp2_with fail
            go_round
            case rel => exact ⟨k + 1, by omega, by go_num, hn.out⟩
            case measure => (simp [intOf] <;> omega)
          · rw [hs] at tb
            have hn := Lib.hid (show nameOk t = false by rw [hnm.out, H.out.1 hs]; rfl)
            clear hs H
            go_wp2_with fail
            go_ret
            exact ⟨by rw [hn.out]; rfl, t1⟩
        · obtain rfl : k = 41 := by omega
          have hn := Lib.hid (show nameOk t = true by rw [hnm.out, isWord_no hno]; rfl)
          clear hno hcell
          go_wp2_with fail
          go_ret
          exact ⟨by rw [hn.out]; rfl, t1⟩
end Go.Proofs.Ytdllgnccjejhiaa
