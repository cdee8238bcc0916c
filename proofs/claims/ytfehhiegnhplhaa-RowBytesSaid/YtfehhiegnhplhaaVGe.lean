/- Values and rows made good; the chapter's example. -/
import Derived.Test.YtfehhiegnhplhaaVGd
namespace Go.Proofs.Ytfehhiegnhplhaa
open Go.RowKit
set_option linter.unusedVariables false
set_option maxRecDepth 10000
set_option linter.unusedSimpArgs false
set_option linter.unnecessarySimpa false

theorem ext_take (s : ByteArray) : s.extract 0 60 = strOf (s.data.toList.take 60) := by
  apply ByteArray.ext
  apply Array.ext'
  simp [strOf]
theorem blk_last (w : World) (o : Obj) (cs : List Value) (t : TypeId) : Blk ((w.alloc o).alloc (.cells cs.toArray t)) (w.heap.size + 1) cs t := by
  have h := Blk.new (w.alloc o) cs t
  have e : (w.alloc o).heap.size = w.heap.size + 1 := by simp
  rwa [e] at h
set_option maxRecDepth 100000 in
set_option maxHeartbeats 4000000 in
theorem Good4_any (v : Val) (w : World) (hf : v.fits) : Calls Try.prog 17 #[.agg #[.int .i64 v.kind, .int .i64 v.n, .string v.s]] w fun e w' => e = .returned (.agg #[.int .i64 (gval v).kind, .int .i64 (gval v).n, .string (gval v).s]) ∧ Turns [] w w' := by
  obtain ⟨h1, h2, h3⟩ := hf
  obtain ⟨g, hg⟩ : ∃ g, g = gval v := ⟨_, rfl⟩
  rw [← hg]
  obtain ⟨k, n, s⟩ := v
  simp only at h1 h2 h3
  unfold maxLen at h3
  have zV := zero_val
  have WK := fun W => within4_any k 4 W h1.1 h1.2 (by omega) (by omega)
  have WN := Lib.hid (fun W => within4_any n 2 W h2.1 h2.2 (by omega) (by omega))
  have hk4 : k % 4 = 0 ∨ k % 4 = 1 ∨ k % 4 = 2 ∨ k % 4 = 3 := by omega
  have hgu := hg
  unfold gval at hgu
  simp only at hgu
  clear hg h1 h2
  rcases hk4 with h | h | h | h
  all_goals
    rw [h] at WK hgu
    replace WK := Lib.hid WK
    clear h
  · have hv := Lib.hid (show g = ⟨0, 0, ⟨#[]⟩⟩ by rw [hgu]; rfl)
    clear hgu
    go_enter Try.func17, Try.ntmps17
    go_wp2_with fail
    refine (WK.out _).mono ?_
    rintro e w1 ⟨rfl, rfl⟩
    go_wp2_with fail
    refine bodyPost_ret (results_cell_row rfl _ _ (w.heap.size + 1) _ _ _ _ rfl (blk_last w _ ([.int .i64 0, .int .i64 0, .string ⟨#[]⟩] : List Value) _) Try.underlying28 rfl (by kernel_rfl)) rfl ?_
    rw [hv.out]
    exact ⟨rfl, ((Turns.refl [] w).alloc _).alloc _⟩
  · have hv := Lib.hid (show g = ⟨1, n % 2, ⟨#[]⟩⟩ by rw [hgu]; rfl)
    clear hgu
    go_enter Try.func17, Try.ntmps17
    go_wp2_with fail
    refine (WK.out _).mono ?_
    rintro e w1 ⟨rfl, rfl⟩
    go_wp2_with fail
    refine (WN.out _).mono ?_
    rintro e w1 ⟨rfl, rfl⟩
    go_wp2_with fail
    refine bodyPost_ret (results_cell_row rfl _ _ (w.heap.size + 1) _ _ _ _ rfl (blk_last w _ ([.int .i64 1, .int .i64 (n % 2), .string ⟨#[]⟩] : List Value) _) Try.underlying28 rfl (by kernel_rfl)) rfl ?_
    rw [hv.out]
    exact ⟨rfl, ((Turns.refl [] w).alloc _).alloc _⟩
  · have hv := Lib.hid (show g = ⟨2, n, ⟨#[]⟩⟩ by rw [hgu]; rfl)
    clear hgu
    go_enter Try.func17, Try.ntmps17
    go_wp2_with fail
    refine (WK.out _).mono ?_
    rintro e w1 ⟨rfl, rfl⟩
    go_wp2_with fail
    refine bodyPost_ret (results_cell_row rfl _ _ (w.heap.size + 1) _ _ _ _ rfl (blk_last w _ ([.int .i64 2, .int .i64 n, .string ⟨#[]⟩] : List Value) _) Try.underlying28 rfl (by kernel_rfl)) rfl ?_
    rw [hv.out]
    exact ⟨rfl, ((Turns.refl [] w).alloc _).alloc _⟩
  · obtain ⟨u, hu⟩ : ∃ u, u = strOf (s.data.toList.take 60) := ⟨_, rfl⟩
    have hv := Lib.hid (show g = ⟨3, 0, u⟩ by rw [hgu, hu]; rfl)
    clear hgu
    by_cases h60 : s.size < 60
    · have x : (s.size : Int) < 60 := by omega
      have hu := Lib.hid hu
      go_enter Try.func17, Try.ntmps17
      go_wp2_with fail
      refine (WK.out _).mono ?_
      rintro e w1 ⟨rfl, rfl⟩
      go_wp2_with fail
      refine bodyPost_ret (results_cell_row rfl _ _ (w.heap.size + 1) _ _ _ _ rfl (blk_last w _ ([.int .i64 3, .int .i64 0, .string s] : List Value) _) Try.underlying28 rfl (by kernel_rfl)) rfl ?_
      rw [hv.out, hu.out, List.take_of_length_le (by rw [str_data]; omega), strOf_data]
      exact ⟨rfl, ((Turns.refl [] w).alloc _).alloc _⟩
    by_cases h61 : s.size = 60
    · have x : (s.size : Int) = 60 := by omega
      have hu := Lib.hid hu
      go_enter Try.func17, Try.ntmps17
      go_wp2_with fail
      refine (WK.out _).mono ?_
      rintro e w1 ⟨rfl, rfl⟩
      go_wp2_with fail
      refine bodyPost_ret (results_cell_row rfl _ _ (w.heap.size + 1) _ _ _ _ rfl (blk_last w _ ([.int .i64 3, .int .i64 0, .string (s.extract 0 60)] : List Value) _) Try.underlying28 rfl (by kernel_rfl)) rfl ?_
      rw [hv.out, hu.out, ← ext_take]
      exact ⟨rfl, ((Turns.refl [] w).alloc _).alloc _⟩
    · have x : (60 : Int) < (s.size : Int) := by omega
      have hu := Lib.hid hu
      go_enter Try.func17, Try.ntmps17
      go_wp2_with fail
      refine (WK.out _).mono ?_
      rintro e w1 ⟨rfl, rfl⟩
      go_wp2_with fail
      refine bodyPost_ret (results_cell_row rfl _ _ (w.heap.size + 1) _ _ _ _ rfl (blk_last w _ ([.int .i64 3, .int .i64 0, .string (s.extract 0 60)] : List Value) _) Try.underlying28 rfl (by kernel_rfl)) rfl ?_
      rw [hv.out, hu.out, ← ext_take]
      exact ⟨rfl, ((Turns.refl [] w).alloc _).alloc _⟩

set_option maxRecDepth 100000 in
set_option maxHeartbeats 4000000 in
theorem Good5_any (l : List Val) (A : Option Addr) (n c B : Nat) (w : World) (hf : ∀ x ∈ l, x.fits) (hs : Sl w B 3 (.slice A n c) n (valCells l)) (hB : B ≤ w.heap.size) (hl : l.length ≤ 1000) :
    Calls Try.prog 9 #[.slice A n c] w fun e w' => ∃ A' c', e = .returned (.slice A' l.length c') ∧ w'.ownsRow w.heap.size 28 3 (.slice A' l.length c') l.length (valCells (l.map gval)) ∧ Turns [] w w' := by
  obtain ⟨rfl, hm⟩ := sl_vals hs
  unfold maxLen at hm
  have HS := Lib.hid hs
  clear hs
  go_enter Try.func9, Try.ntmps9
  go_wp2_with fail
  go_loopw [3, 4] (fun u i wr => ∃ (k : Nat) (A' : Option Addr) (c' : Nat), k ≤ l.length ∧ i = .int .i64 k ∧ u = .slice A' k c' ∧ wr.ownsRow w.heap.size 28 3 (.slice A' k c') k (valCells ((l.take k).map gval)) ∧ Turns [] w wr) (fun _ i _ => l.length - (intOf i).toNat)
  case atStart => exact ⟨0, none, 0, by omega, rfl, rfl, World.ownsRow_nil _ _ _ _, Turns.refl _ _⟩
  case round =>
    obtain ⟨k, A', c', hk, rfl, rfl, o0, tx⟩ := hrel
    by_cases hlt : k < l.length
    · have hki : (k : Int) < (l.length : Int) := by omega
      obtain ⟨b, off, rfl, rg⟩ := val_range HS.out k hlt
      have r1 := rangeV tx rg
      have hfx := hf _ (List.getElem_mem hlt)
      have hst : (l.take (k + 1)).map gval = (l.take k).map gval ++ [gval l[k]] := by rw [List.take_succ_eq_append_getElem hlt, List.map_append]; rfl
      have hlk : ((l.take k).map gval).length = k := by simp; omega
      obtain ⟨⟨k1, n1, s1⟩, hc1⟩ : ∃ c, c = l[k] := ⟨_, rfl⟩
      rw [← hc1] at hst r1 hfx
      replace r1 : wr.rangeAt b (off + k * 3) [.int .i64 k1, .int .i64 n1, .string s1] := r1
      have hz1 := size_val k1 n1 s1
      have G4 := Lib.hid (Good4_any ⟨k1, n1, s1⟩ wr hfx)
      have HST := Lib.hid hst
      have HO := Lib.hid (And.intro o0 (And.intro tx hlk))
      clear hc1 rg tx hfx o0 hst hlk
      go_wp2_with (first
        | (refine wpList_load_mid rfl 28 (.tmp 14) rfl b (off + k * 3) rfl _ _ r1 Try.underlying28 rfl hz1 ?_)
        | fail)
      refine G4.out.mono ?_
      rintro e x2 ⟨rfl, t2⟩
      obtain ⟨o0, tx, hlk⟩ := HO.out
      generalize (l.take k).map gval = pre at o0 hlk HST
      subst hlk
      have o0 := own_v0 o0 t2
      have tx := tx.trans t2 (by simp)
      obtain ⟨rv, hrv⟩ : ∃ rv, rv = gval ⟨k1, n1, s1⟩ := ⟨_, rfl⟩
      rw [← hrv] at HST ⊢
      clear hrv
      obtain ⟨v7, y5, hr7, o7, t7, b7, -⟩ := val_append rv o0 tx.size (by omega) 22
      obtain ⟨A7, c7, rfl⟩ := own_formV o7
      have tz := tx.trans t7 (by intro x hx; have := b7 _ hx; exact .inr (by omega))
      have HF := Lib.hid (And.intro (show y5.ownsRow w.heap.size 28 3 (.slice A7 (pre.length + 1) c7) (pre.length + 1) (valCells ((l.take (pre.length + 1)).map gval)) by rw [HST.out]; exact o7) tz)
      clear o7 t7 b7 tz o0 tx t2 G4 r1 HO
      go_wp2_with (at_builtin; refine wpList_append_at rfl (.tmp 11) (.tmp 17) rfl hr7 rfl rfl ?_)
      go_roundw
      case rel => exact ⟨pre.length + 1, A7, c7, by omega, by go_num, rfl, HF.out.1, HF.out.2⟩
      case measure => (simp [intOf] <;> omega)
    · obtain rfl : k = l.length := by omega
      rw [List.take_length] at o0
      have HF := Lib.hid (And.intro o0 tx)
      clear o0 tx
      go_wp2_with fail
      go_ret
      exact ⟨A', c', rfl, HF.out.1, HF.out.2⟩

theorem five_none : rowBytes [] = [0] := by decide
theorem five_zero : rowRes [0] = ([], 0) := by
  have h := row_good [] (by simp) (by simp)
  rwa [five_none] at h
set_option maxRecDepth 100000 in
set_option maxHeartbeats 4000000 in
theorem known5_any (w : World) : Calls Try.prog 7 #[] w fun e w' => e = .returned (.bool true) ∧ Turns [] w w' := by
  have RB := Lib.hid (RowBytes_any [] none 0 0 0 w (by simp) Sl.nil (Nat.zero_le _) (by simp))
  go_enter Try.func7, Try.ntmps7
  go_wp2_with fail
  refine RB.out.mono ?_
  rintro e w1 ⟨v1, rfl, m1⟩
  rw [five_none] at m1
  have t1 := m1.turns
  have hs := m1.sl
  obtain ⟨A1, c1, rfl⟩ := own_formV m1.own
  have bs := Blk.new w1 (bvs [0]) 5
  have hsl : Sl (w1.alloc (.cells #[.int .u8 0] 5)) (w1.alloc (.cells #[.int .u8 0] 5)).heap.size 1 (.slice (some ⟨w1.heap.size, 0, none⟩) 1 1) ([0] : List UInt8).length (bvs [0]) := by
    have := Sl.new w1 #[.int .u8 0] 5 1 1 rfl (by simp [maxLen])
    exact this.more (by simp)
  have RP := Lib.hid (RowParse_any _ [0] _ hsl (by simp))
  have H1 := Lib.hid (And.intro t1 hs)
  clear m1 t1 hs bs hsl RB
  go_wp2_with fail
  refine RP.out.mono ?_
  rintro e w2 ⟨A2, n2, c2, rfl, o2, t2⟩
  rw [five_zero] at *
  have t02 := H1.out.1.trans ((Turns.refl [] w1).alloc (.cells #[.int .u8 0] 5) |>.trans t2 (by simp)) (by simp)
  have hsw : Sl w2 w1.heap.size 1 (.slice A1 ([0] : List UInt8).length c1) ([0] : List UInt8).length (bvs [0]) := ((Turns.refl [] w1).alloc (.cells #[.int .u8 0] 5) |>.trans t2 (by simp)).slice H1.out.2 (Nat.le_refl _) (by simp)
  obtain ⟨_, _, _, ee, _, _, _, hrd⟩ := hsw
  injection ee with e1 _ e3
  subst e1
  obtain ⟨b, off, rfl, _, hc⟩ := hrd (by simp [bvs])
  have c0 : w2.cell? ⟨b, off, none⟩ = some (.int .u8 0) := hc 0 _ rfl
  have HT := Lib.hid t02
  clear t02 t2 o2 hrd hc RP H1
  go_wp2_with fail
  go_ret
  exact ⟨rfl, HT.out⟩
end Go.Proofs.Ytfehhiegnhplhaa
