/- Which texts are names: the method 'name'. -/
import Derived.Test.YtdllgnccjejhiaaName
namespace Go.Proofs.Ytdllgnccjejhiaa
open Go.RowKit
set_option linter.unusedVariables false
set_option maxRecDepth 10000
set_option linter.unusedSimpArgs false
set_option linter.unnecessarySimpa false

theorem name_bad (t : ByteArray) (h : shapeOk t = false) : nameOk t = false := by unfold nameOk; rw [h]; rfl
theorem getD0 (t : ByteArray) (h : 0 < t.size) : t.data.toList.getD 0 0 = t[0] := by
  have h' : 0 < t.data.toList.length := h
  rw [List.getD_eq_getElem?_getD, List.getElem?_eq_getElem h']; rfl
theorem all_bad (t : ByteArray) (k : Nat) (hk : k < t.size) (h : chOk t[k] = false) : t.data.toList.all chOk = false := by
  rw [List.all_eq_false]
  have h' : k < t.data.toList.length := hk
  exact ⟨t[k], List.getElem_mem (l := t.data.toList) h', by simp [h]⟩
def allTo (t : ByteArray) (k : Nat) : Prop := ∀ (j : Nat) (hj : j < t.size), j < k → chOk t[j] = true
theorem all_more {t : ByteArray} {k : Nat} (h : allTo t k) (hk : k < t.size) (hc : chOk t[k] = true) : allTo t (k + 1) := fun j hj hlt => by
  by_cases e : j = k
  · subst e; exact hc
  · exact h j hj (by omega)
theorem all_ok {t : ByteArray} (h : allTo t t.size) : t.data.toList.all chOk = true := by
  rw [List.all_eq_true]
  intro c hc
  obtain ⟨j, hj, rfl⟩ := List.mem_iff_getElem.1 hc
  exact h j hj hj

set_option maxRecDepth 100000 in
set_option maxHeartbeats 2000000 in
theorem name_any (t : ByteArray) (ht : t.size ≤ 9223372036854775807) (B g : Nat) (w : World) (hsp : SpAt w B g) :
    Calls Try.prog 25 #[.pointer (some ⟨g, 0, none⟩), .string t] w fun e w' => e = .returned (.bool (nameOk t)) ∧ SpAt w' B g ∧ Turns [g] w w' := by
  by_cases h1 : t.size < 1
  · have hno := Lib.hid (show nameOk t = false from name_bad t (by unfold shapeOk; simp; omega))
    have x1 : (t.size : Int) < 1 := by omega
    go_enter Try.func25, Try.ntmps25
    go_wp2_with fail
    go_ret
    exact ⟨by rw [hno.out]; rfl, hsp, Turns.refl _ _⟩
  have x1 : 1 ≤ (t.size : Int) := by omega
  by_cases h12 : 12 < t.size
  · have hno := Lib.hid (show nameOk t = false from name_bad t (by unfold shapeOk; simp; omega))
    have x2 : 12 < (t.size : Int) := by omega
    go_enter Try.func25, Try.ntmps25
    go_wp2_with fail
    go_ret
    exact ⟨by rw [hno.out]; rfl, hsp, Turns.refl _ _⟩
  have x2 : (t.size : Int) ≤ 12 := by omega
  have hpos : 0 < t.size := by omega
  by_cases hlo : t[0].toNat < 97
  · have hno := Lib.hid (show nameOk t = false from name_bad t (by unfold shapeOk; rw [getD0 t hpos]; unfold low; simp; omega))
    have x3 : (t[0].toNat : Int) < 97 := by omega
    go_enter Try.func25, Try.ntmps25
    go_wp2_with fail
    go_ret
    exact ⟨by rw [hno.out]; rfl, hsp, Turns.refl _ _⟩
  have x3 : 97 ≤ (t[0].toNat : Int) := by omega
  by_cases hhi : 122 < t[0].toNat
  · have hno := Lib.hid (show nameOk t = false from name_bad t (by unfold shapeOk; rw [getD0 t hpos]; unfold low; simp; omega))
    have x4 : 122 < (t[0].toNat : Int) := by omega
    go_enter Try.func25, Try.ntmps25
    go_wp2_with fail
    go_ret
    exact ⟨by rw [hno.out]; rfl, hsp, Turns.refl _ _⟩
  have x4 : (t[0].toNat : Int) ≤ 122 := by omega
  have hlow : low (t.data.toList.getD 0 0) = true := by rw [getD0 t hpos]; unfold low; simp; omega
  have HLOW := Lib.hid hlow
  clear hlow
  go_enter Try.func25, Try.ntmps25
  go_wp2_with fail
  clear x3 x4 hlo hhi
  go_loop [27] (fun i => ∃ k : Nat, k ≤ t.size ∧ i = .int .i64 k ∧ allTo t k) (fun i => t.size - (intOf i).toNat)
  case atStart => exact ⟨0, by omega, rfl, fun j hj h => absurd h (by omega)⟩
  case round =>
    obtain ⟨k, hk, rfl, hall⟩ := hrel
    by_cases hlt : k < t.size
    · obtain ⟨c, hc⟩ : ∃ c, c = t[k] := ⟨_, rfl⟩
      by_cases h0 : c.toNat < 48
      · have x0 : (c.toNat : Int) < 97 := by omega
        have x1 : (c.toNat : Int) < 48 := by omega
        have y : ((c.toNat : Int) != 95) = true := by rw [bne_iff_ne]; omega
        have hno := Lib.hid (show nameOk t = false from name_bad t (by unfold shapeOk; rw [all_bad t k hlt (by rw [← hc]; unfold chOk low; simp; omega)]; simp))
        clear hall
        clear h0
        rw [hc] at x0 x1 y
        clear hc
        go_wp2_with fail
        go_ret
        exact ⟨by rw [hno.out]; rfl, hsp, Turns.refl _ _⟩
      by_cases h1 : 48 ≤ c.toNat ∧ c.toNat ≤ 57
      · have x0 : (c.toNat : Int) < 97 := by omega
        have x1 : 48 ≤ (c.toNat : Int) := by omega
        have x2 : (c.toNat : Int) ≤ 57 := by omega
        have y : ((c.toNat : Int) != 95) = true := by rw [bne_iff_ne]; omega
        have OKS := Lib.hid (all_more hall hlt (by rw [← hc]; unfold chOk low; simp; omega))
        clear hall
        clear h0 h1
        rw [hc] at x0 x1 x2 y
        clear hc
        go_wp2_with fail
        go_round
        case rel => exact ⟨k + 1, by omega, by go_num, OKS.out⟩
        case measure => (simp [intOf] <;> omega)
      by_cases h2 : c.toNat = 95
      · have x0 : (c.toNat : Int) < 97 := by omega
        have x1 : 57 < (c.toNat : Int) := by omega
        have y : ((c.toNat : Int) != 95) = false := by simp; omega
        have OKS := Lib.hid (all_more hall hlt (by rw [← hc]; unfold chOk low; simp; omega))
        clear hall
        clear h0 h1 h2
        rw [hc] at x0 x1 y
        clear hc
        go_wp2_with fail
        go_round
        case rel => exact ⟨k + 1, by omega, by go_num, OKS.out⟩
        case measure => (simp [intOf] <;> omega)
      by_cases h3 : 57 < c.toNat ∧ c.toNat < 97 ∧ c.toNat ≠ 95
      · have x0 : (c.toNat : Int) < 97 := by omega
        have x1 : 57 < (c.toNat : Int) := by omega
        have y : ((c.toNat : Int) != 95) = true := by rw [bne_iff_ne]; omega
        have hno := Lib.hid (show nameOk t = false from name_bad t (by unfold shapeOk; rw [all_bad t k hlt (by rw [← hc]; unfold chOk low; simp; omega)]; simp))
        clear hall
        clear h0 h1 h2 h3
        rw [hc] at x0 x1 y
        clear hc
        go_wp2_with fail
        go_ret
        exact ⟨by rw [hno.out]; rfl, hsp, Turns.refl _ _⟩
      by_cases h4 : 97 ≤ c.toNat ∧ c.toNat ≤ 122
      · have x0 : 97 ≤ (c.toNat : Int) := by omega
        have x1 : (c.toNat : Int) ≤ 122 := by omega
        have y : ((c.toNat : Int) != 95) = true := by rw [bne_iff_ne]; omega
        have OKS := Lib.hid (all_more hall hlt (by rw [← hc]; unfold chOk low; simp; omega))
        clear hall
        clear h0 h1 h2 h3 h4
        rw [hc] at x0 x1 y
        clear hc
        go_wp2_with fail
        go_round
        case rel => exact ⟨k + 1, by omega, by go_num, OKS.out⟩
        case measure => (simp [intOf] <;> omega)
      by_cases h5 : 122 < c.toNat
      · have x0 : 122 < (c.toNat : Int) := by omega
        have x1 : 57 < (c.toNat : Int) := by omega
        have x2 : 97 ≤ (c.toNat : Int) := by omega
        have y : ((c.toNat : Int) != 95) = true := by rw [bne_iff_ne]; omega
        have hno := Lib.hid (show nameOk t = false from name_bad t (by unfold shapeOk; rw [all_bad t k hlt (by rw [← hc]; unfold chOk low; simp; omega)]; simp))
        clear hall
        clear h0 h1 h2 h3 h4 h5
        rw [hc] at x0 x1 x2 y
        clear hc
        go_wp2_with fail
        go_ret
        exact ⟨by rw [hno.out]; rfl, hsp, Turns.refl _ _⟩
      exact absurd trivial (by omega)
    · obtain rfl : k = t.size := by omega
      have hsh : shapeOk t = true := by unfold shapeOk; rw [HLOW.out, all_ok hall]; simp; omega
      have hnm := Lib.hid (show nameOk t = !(isWord t) by unfold nameOk; rw [hsh]; rfl)
      clear hall hsh
      rcases hsp.2 with h0 | ⟨m, hm, hs1⟩
      · have hF := read_any g (w.setCell ⟨g, 1, none⟩ (.int .i32 1)) (Blk.set h0 1 (.int .i32 1))
        have DO := Lib.hid (Once.do_first g 0 53 #[.pointer (some ⟨g, 0, none⟩)] #[] (Rd1 g (w.setCell ⟨g, 1, none⟩ (.int .i32 1))) w (fun W => by rfl) (Blk.cell h0 0) (Blk.cell h0 1) (Blk.free h0 0) (Blk.free h0 1) hF)
        have hlt := hsp.lt
        have hB := hsp.1
        clear hsp h0 hF
        go_wp2_with fail
        refine DO.out.mono ?_
        rintro e w3 ⟨rfl, w2, ⟨m, hm, hb2, hm2, ht2⟩, rfl⟩
        have tt : Turns [g] w2 ((w2.drew.setCell ⟨g, 0, none⟩ (.int .u32 1)).setCell ⟨g, 1, none⟩ (.int .i32 0)) := ((Turns.refl [g] w2).drew.setCell (p := ⟨g, 0, none⟩) (.inl (by simp)) _).setCell (p := ⟨g, 1, none⟩) (.inl (by simp)) _
        have hmg : m ≠ g := by intro e; rw [e] at hm; simp [World.setCell] at hm; omega
        have hb3 := (hb2.drew.set 0 (.int .u32 1)).set 1 (.int .i32 0)
        have hm3 := hm2.turns tt (by simpa using hmg)
        have s3 : Sp1 ((w2.drew.setCell ⟨g, 0, none⟩ (.int .u32 1)).setCell ⟨g, 1, none⟩ (.int .i32 0)) g m := ⟨hb3, hm3, hmg⟩
        have t03 : Turns [g] w ((w2.drew.setCell ⟨g, 0, none⟩ (.int .u32 1)).setCell ⟨g, 1, none⟩ (.int .i32 0)) := (((Turns.refl [g] w).setCell (p := ⟨g, 1, none⟩) (.inl (by simp)) (.int .i32 1)).trans ht2 (by simp)).trans tt (by simp)
        have hmB : B ≤ m := by simp [World.setCell] at hm; omega
        generalize (w2.drew.setCell ⟨g, 0, none⟩ (.int .u32 1)).setCell ⟨g, 1, none⟩ (.int .i32 0) = w3 at *
        have hlk := run_lookup_K (P := Try.prog) Try.underlying66 Try.underlying9 (w := w3) (by kernel_rfl) hm3 t
        rw [show reserved.contains t = isWord t from rfl] at hlk
        have c3 : w3.cell? ⟨g, 3, none⟩ = some (.map (some m)) := s3.blk.cell 3
        clear hb2 hm2 ht2 tt hb3 hm3 hm DO
        go_wp2_with fail
        go_ret
        exact ⟨by rw [hnm.out]; rfl, ⟨hB, .inr ⟨m, hmB, s3⟩⟩, t03⟩
      · have DO := Lib.hid (Once.do_done ⟨g, 0, none⟩ 1 (by omega) (.func (.func 53) #[.pointer (some ⟨g, 0, none⟩)] #[]) w (hs1.blk.cell 0))
        have hlk := run_lookup_K (P := Try.prog) Try.underlying66 Try.underlying9 (w := w) (by kernel_rfl) hs1.map t
        rw [show reserved.contains t = isWord t from rfl] at hlk
        have c3 : w.cell? ⟨g, 3, none⟩ = some (.map (some m)) := hs1.blk.cell 3
        clear hs1
        go_wp2_with fail
        refine DO.out.mono ?_
        rintro e ww ⟨rfl, rfl⟩
        go_wp2_with fail
        go_ret
        exact ⟨by rw [hnm.out]; rfl, hsp, Turns.refl _ _⟩
end Go.Proofs.Ytdllgnccjejhiaa
