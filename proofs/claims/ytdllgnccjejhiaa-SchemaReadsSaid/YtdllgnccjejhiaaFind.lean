/- A column is looked for by its name. -/
import Derived.Test.YtdllgnccjejhiaaSch
import Derived.Test.YtdllgnccjejhiaaTurns
import Derived.Test.YtdllgnccjejhiaaProg
namespace Go.Proofs.Ytdllgnccjejhiaa
open Go.RowKit
set_option linter.unusedVariables false
set_option maxRecDepth 10000
set_option linter.unusedSimpArgs false
set_option linter.unnecessarySimpa false

/-- Are two texts the same? (A plain definition: a walk leaves it standing.) -/
def sameT (a b : ByteArray) : Bool := decide (a = b)
theorem toList_data (a : ByteArray) : a.toList = a.data.toList := by
  have h := ByteArray.toList_mk a.data.toList
  simpa using h
theorem toList_inj {a b : ByteArray} (h : a.toList = b.toList) : a = b := by
  rw [toList_data, toList_data] at h
  exact ba_ext (Array.ext' h)
theorem toList_beq (a b : ByteArray) : (a.toList == b.toList) = sameT a b := by
  unfold sameT
  by_cases h : a = b
  · subst h; simp
  · rw [decide_eq_false h, beq_eq_false_iff_ne]; exact fun e => h (toList_inj e)
theorem sameT_comm (a b : ByteArray) : sameT a b = sameT b a := by
  unfold sameT
  by_cases h : a = b
  · rw [decide_eq_true h, decide_eq_true h.symm]
  · rw [decide_eq_false h, decide_eq_false (Ne.symm h)]

theorem und27 : Try.prog.underlying 27 = Try.prog.underlying 27 := rfl
theorem T27i : (Try.prog.info? 27).map (·.size) = some 3 := by kernel_rfl
theorem T28 : SliceTy Try.prog 28 27 (.agg #[.string ⟨#[]⟩, .int .i64 0, .bool false]) 3 32 := ⟨Try.underlying28, by kernel_rfl, rfl, by omega⟩

theorem is_any (c : Col) (t : ByteArray) (q : Nat) (w : World) (hq : w.cell? ⟨q, 0, none⟩ = some (.string t)) :
    Calls Try.prog 27 #[.agg #[.string c.name, .int .i64 c.kind, .bool c.null], .pointer (some ⟨q, 0, none⟩)] w fun e w' => e = .returned (.bool (sameT c.name t)) ∧ Turns [] w w' := by
  have hlt := World.block_lt_of_cell? w _ hq
  have hq' : ∀ o, (w.alloc o).cell? ⟨q, 0, none⟩ = some (.string t) := fun o => by rw [World.cell?_alloc_lt _ _ _ hlt]; exact hq
  have hb := Lib.hid (toList_beq c.name t)
  go_enter Try.func27, Try.ntmps27
  go_wp2_with fail
  go_ret
  exact ⟨by rw [← hb.out]; rfl, (Turns.refl _ _).alloc _⟩

/-- The first column's place, or -1. -/
def findI (t : ByteArray) (cols : List Col) : Int := match findCol t cols 0 with | some i => i | none => -1
def noneTo (t : ByteArray) (cols : List Col) (k : Nat) : Prop := ∀ (j : Nat) (hj : j < cols.length), j < k → sameT cols[j].name t = false
theorem findCol_at (t : ByteArray) : ∀ (cols : List Col) (k i : Nat) (hk : k < cols.length), noneTo t cols k → sameT cols[k].name t = true → findCol t cols i = some (i + k)
  | [], _, _, hk, _, _ => by simp at hk
  | c :: cs, 0, i, hk, hn, hy => by
    have : c.name = t := of_decide_eq_true hy
    rw [findCol, if_pos this]; rfl
  | c :: cs, k + 1, i, hk, hn, hy => by
    have h0 : ¬ c.name = t := of_decide_eq_false (hn 0 (by simp) (by omega))
    rw [findCol, if_neg h0, findCol_at t cs k (i + 1) (by simpa using hk) (fun j hj hlt => hn (j + 1) (by simpa using hj) (by omega)) hy]
    congr 1; omega
theorem findCol_none (t : ByteArray) : ∀ (cols : List Col) (i : Nat), noneTo t cols cols.length → findCol t cols i = none
  | [], _, _ => rfl
  | c :: cs, i, hn => by
    have h0 : ¬ c.name = t := of_decide_eq_false (hn 0 (by simp) (by simp))
    rw [findCol, if_neg h0, findCol_none t cs (i + 1) (fun j hj hlt => hn (j + 1) (by simpa using hj) (by simpa using hlt))]

set_option maxHeartbeats 1000000 in
theorem index_any (A : Option Addr) (n c : Nat) (cols : List Col) (t : ByteArray) (q B : Nat) (w : World) (hs : Sl w B 3 (.slice A n c) n (colCells cols)) (hB : B ≤ w.heap.size) (hq : w.cell? ⟨q, 0, none⟩ = some (.string t)) :
    Calls Try.prog 26 #[.slice A n c, .func (.func 27) #[] #[.pointer (some ⟨q, 0, none⟩)]] w fun e w' => e = .returned (.int .i64 (findI t cols)) ∧ Turns [] w w' := by
  have hl := hs.1
  rw [colCells_length] at hl
  obtain rfl : n = cols.length := by omega
  have hm : cols.length ≤ 9223372036854775807 := by
    obtain ⟨_, _, _, ee, h1, h2, _⟩ := hs
    injection ee with _ _ e3
    subst e3
    unfold maxLen at h2; omega
  have hqlt := World.block_lt_of_cell? w _ hq
  clear hl
  go_enter Try.func26, Try.ntmps26
  go_wp2_with fail
  go_loopw [8] (fun i wr => ∃ k : Nat, k ≤ cols.length ∧ i = .int .i64 k ∧ noneTo t cols k ∧ Turns [] w wr) (fun i _ => cols.length - (intOf i).toNat)
  case atStart => exact ⟨0, by omega, rfl, fun j hj h => absurd h (by omega), Turns.refl _ _⟩
  case round =>
    obtain ⟨k, hk, rfl, hno, ht⟩ := hrel
    by_cases hlt : k < cols.length
    · have hs' := ht.slice hs hB (by simp)
      obtain ⟨_, _, _, ee, _, _, _, hrd⟩ := hs'
      injection ee with e1 _ e3
      subst e1 e3
      obtain ⟨b, off, rfl, hb, hc⟩ := hrd (by intro e; have := congrArg List.length e; rw [colCells_length] at this; simp at this; omega)
      have hrange : wr.rangeAt b (off + k * 3) cols[k].cells := by
        intro j v hj
        have hj3 : j < 3 := by
          have := (List.getElem?_eq_some_iff.1 hj).1
          simpa [Col.cells] using this
        have := hc (k * 3 + j) v (by rw [colCells_get cols k j hlt hj3]; exact hj)
        rwa [← Nat.add_assoc] at this
      have hqr : wr.cell? ⟨q, 0, none⟩ = some (.string t) := (World.cell?_of_block (ht.block q hqlt (by simp))).trans hq
      obtain ⟨cc, hcc⟩ : ∃ cc, cc = cols[k] := ⟨_, rfl⟩
      rw [← hcc] at hrange
      have IS := is_any cc t q wr hqr
      have hcc' := Lib.hid hcc
      clear hcc
      have hsz : (Try.prog.info? 27).map (·.size) = some cc.cells.length := T27i
      cases hy : sameT cc.name t
      · rw [hy] at IS
        have hn' := Lib.hid (show noneTo t cols (k + 1) from fun j hj hlt' => by
          by_cases e : j = k
          · subst e; rw [← hcc'.out]; exact hy
          · exact hno j hj (by omega))
        have IS' := Lib.hid IS
        clear IS hy hno hc hrd hs
        go_wp2_with (refine wpList_load_mid rfl 27 (.tmp 14) rfl b (off + k * 3) rfl _ _ hrange Try.underlying27 rfl hsz ?_)
        refine IS'.out.mono ?_
        rintro e w2 ⟨rfl, t2⟩
        have ht2 := ht.trans t2 (by simp)
        clear t2 ht hrange
        go_wp2_with fail
        go_roundw
        case rel => exact ⟨k + 1, by omega, by go_num, hn'.out, ht2⟩
        case measure => (simp [intOf] <;> omega)
      · rw [hy] at IS
        have hf := Lib.hid (show findI t cols = k by unfold findI; rw [findCol_at t cols k 0 hlt hno (by rw [← hcc'.out]; exact hy), Nat.zero_add])
        have IS' := Lib.hid IS
        clear IS hy hno hc hrd hs
        go_wp2_with (refine wpList_load_mid rfl 27 (.tmp 14) rfl b (off + k * 3) rfl _ _ hrange Try.underlying27 rfl hsz ?_)
        refine IS'.out.mono ?_
        rintro e w2 ⟨rfl, t2⟩
        have ht2 := ht.trans t2 (by simp)
        clear t2 ht hrange
        go_wp2_with fail
        go_ret
        exact ⟨by rw [hf.out]; rfl, ht2⟩
    · obtain rfl : k = cols.length := by omega
      have hf := Lib.hid (show findI t cols = -1 by unfold findI; rw [findCol_none t cols 0 hno])
      clear hno
      go_wp2_with fail
      go_ret
      exact ⟨by rw [hf.out]; rfl, ht⟩

/-- A schema's cells. -/
def schCells (s : Sch) (A : Option Addr) (n c : Nat) : Array Value := #[.string s.name, .slice A n c, .int .i64 s.key, .bool s.only]
set_option maxHeartbeats 1000000 in
theorem Find_any (s : Sch) (A : Option Addr) (n c : Nat) (t : ByteArray) (B : Nat) (w : World) (hs : Sl w B 3 (.slice A n c) n (colCells s.cols)) (hB : B ≤ w.heap.size) :
    Calls Try.prog 17 #[.agg #[.string s.name, .slice A n c, .int .i64 s.key, .bool s.only], .string t] w fun e w' => e = .returned (.tuple #[.int .i64 (max (findI t s.cols) 0), .bool (decide (0 ≤ findI t s.cols))]) ∧ Turns [] w w' := by
  have t0 := ((Turns.refl [] w).alloc (.cells #[.string s.name, .slice A n c, .int .i64 s.key, .bool s.only] 30)).alloc (.cells #[.string t] 9)
  have hs' := t0.slice hs hB (by simp)
  have hb : Blk ((w.alloc (.cells #[.string s.name, .slice A n c, .int .i64 s.key, .bool s.only] 30)).alloc (.cells #[.string t] 9)) (w.heap.size + 1) [.string t] 9 := by
    have := Blk.new (w.alloc (.cells #[.string s.name, .slice A n c, .int .i64 s.key, .bool s.only] 30)) [.string t] 9
    simpa using this
  have IX := Lib.hid (index_any A n c s.cols t (w.heap.size + 1) B _ hs' (by simp; omega) (hb.cell 0))
  clear hs hs' hb
  have hge : findI t s.cols = -1 ∨ 0 ≤ findI t s.cols := by
    unfold findI
    cases findCol t s.cols 0 with
    | none => exact .inl rfl
    | some i => exact .inr (by simp)
  generalize findI t s.cols = x at *
  rcases hge with rfl | hge
  · go_enter Try.func17, Try.ntmps17
    go_wp2_with fail
    refine IX.out.mono ?_
    rintro e w2 ⟨rfl, t2⟩
    have ht2 := t0.trans t2 (by simp)
    go_wp2_with fail
    go_ret2
    exact ⟨rfl, ht2⟩
  · have hmx := Lib.hid (show max x 0 = x by omega)
    have hdx := Lib.hid (show decide (0 ≤ x) = true by simpa using hge)
    go_enter Try.func17, Try.ntmps17
    go_wp2_with fail
    refine IX.out.mono ?_
    rintro e w2 ⟨rfl, t2⟩
    have ht2 := t0.trans t2 (by simp)
    go_wp2_with fail
    go_ret2
    exact ⟨by rw [hmx.out, hdx.out]; rfl, ht2⟩
end Go.Proofs.Ytdllgnccjejhiaa
