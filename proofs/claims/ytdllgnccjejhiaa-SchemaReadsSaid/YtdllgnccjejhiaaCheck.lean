/- What is wrong with a schema. -/
import Derived.Test.YtdllgnccjejhiaaNameF
import Derived.Test.YtdllgnccjejhiaaFind
import Derived.Test.YtdllgnccjejhiaaPats
namespace Go.Proofs.Ytdllgnccjejhiaa
open Go.RowKit
set_option linter.unusedVariables false
set_option maxRecDepth 10000
set_option linter.unusedSimpArgs false
set_option linter.unnecessarySimpa false

/-- A name of its own is found at its place, or ahead of it. -/
theorem find_lt (cols : List Col) (k : Nat) (hk : k < cols.length) : ∃ j : Nat, findI cols[k].name cols = j ∧ j ≤ k ∧ (j < k ↔ ∃ d ∈ cols.take k, d.name = cols[k].name) := by
  by_cases h : ∃ d ∈ cols.take k, d.name = cols[k].name
  · -- the first of them
    have key : ∀ m, m ≤ k → (∃ j, j < m ∧ ∃ hj : j < cols.length, cols[j].name = cols[k].name) → ∃ j, j < m ∧ findI cols[k].name cols = (j : Nat) := by
      intro m
      induction m with
      | zero => intro _ ⟨j, hj, _⟩; omega
      | succ m ih =>
        intro hm ⟨j, hj, hjl, he⟩
        by_cases hex : ∃ j, j < m ∧ ∃ hj : j < cols.length, cols[j].name = cols[k].name
        · obtain ⟨j', h1, h2⟩ := ih (by omega) hex
          exact ⟨j', by omega, h2⟩
        · have hjm : j = m := by
            rcases Nat.lt_or_ge j m with h1 | h1
            · exact absurd ⟨j, h1, hjl, he⟩ hex
            · omega
          subst hjm
          refine ⟨j, by omega, ?_⟩
          unfold findI
          rw [findCol_at _ cols j 0 hjl (fun i hi hlt => ?_) (by unfold sameT; rw [decide_eq_true he]), Nat.zero_add]
          unfold sameT
          exact decide_eq_false fun e => hex ⟨i, hlt, hi, e⟩
    obtain ⟨d, hd, he⟩ := h
    obtain ⟨j, hj, rfl⟩ := List.mem_iff_getElem.1 hd
    rw [List.length_take] at hj
    rw [List.getElem_take] at he
    obtain ⟨j', h1, h2⟩ := key k (Nat.le_refl _) ⟨j, by omega, by omega, he⟩
    exact ⟨j', h2, by omega, ⟨fun _ => ⟨_, hd, by rw [List.getElem_take]; exact he⟩, fun _ => h1⟩⟩
  · refine ⟨k, ?_, Nat.le_refl _, ⟨fun h' => absurd h' (by omega), fun h' => absurd h' h⟩⟩
    unfold findI
    rw [findCol_at _ cols k 0 hk (fun i hi hlt => ?_) (by unfold sameT; simp), Nat.zero_add]
    unfold sameT
    refine decide_eq_false fun e => h ⟨cols[i], ?_, e⟩
    exact List.mem_iff_getElem.2 ⟨i, by rw [List.length_take]; omega, by rw [List.getElem_take]⟩
theorem colsCheck_step (cols : List Col) (k : Nat) (hk : k < cols.length) : colsCheck (cols.take k) (cols.drop k) =
    if nameOk cols[k].name = false ∨ (∃ d ∈ cols.take k, d.name = cols[k].name) then 12 else if cols[k].kind < 1 ∨ 3 < cols[k].kind then 3 else colsCheck (cols.take (k + 1)) (cols.drop (k + 1)) := by
  rw [List.drop_eq_getElem_cons hk, colsCheck, List.take_succ_eq_append_getElem hk]

/-- Texts, as long as they may be. -/
def Sch.fits (s : Sch) : Prop := s.name.size ≤ 9223372036854775807 ∧ ∀ c ∈ s.cols, c.name.size ≤ 9223372036854775807
theorem zero27 (w : World) : (zeroValue 27).run Try.prog w = .ok (.agg #[.string ⟨#[]⟩, .int .i64 0, .bool false]) w := by kernel_rfl
theorem zero68 (w : World) : (zeroValue 68).run Try.prog w = .ok (.agg #[.int .u32 0, .int .i32 0, .int .u32 0, .map none]) w := by kernel_rfl

set_option maxRecDepth 100000 in
set_option maxHeartbeats 2000000 in
theorem Check_any (s : Sch) (A : Option Addr) (n c : Nat) (B : Nat) (w : World) (hf : s.fits) (hs : Sl w B 3 (.slice A n c) n (colCells s.cols)) (hB : B ≤ w.heap.size) :
    Calls Try.prog 13 #[.agg #[.string s.name, .slice A n c, .int .i64 s.key, .bool s.only]] w fun e w' => e = .returned (.int .i64 (checkS s)) ∧ Turns [] w w' := by
  have hl := hs.1
  rw [colCells_length] at hl
  obtain rfl : n = s.cols.length := by omega
  clear hl
  have hm : s.cols.length ≤ 9223372036854775807 := by
    obtain ⟨_, _, _, ee, h1, h2, _⟩ := hs
    injection ee with _ _ e3
    subst e3
    unfold maxLen at h2; omega
  -- the box, the speller
  have hb1 := Blk.new w [.string s.name, .slice A s.cols.length c, .int .i64 s.key, .bool s.only] 30
  have hb2 := Blk.new (w.alloc (.cells #[.string s.name, .slice A s.cols.length c, .int .i64 s.key, .bool s.only] 30)) [.int .u32 0, .int .i32 0, .int .u32 0, .map none] 68
  have hz : (w.alloc (.cells #[.string s.name, .slice A s.cols.length c, .int .i64 s.key, .bool s.only] 30)).heap.size = w.heap.size + 1 := by simp
  rw [hz] at hb2
  have hb1' := hb1.alloc (.cells #[.int .u32 0, .int .i32 0, .int .u32 0, .map none] 68)
  have t2 := ((Turns.refl [] w).alloc (.cells #[.string s.name, .slice A s.cols.length c, .int .i64 s.key, .bool s.only] 30)).alloc (.cells #[.int .u32 0, .int .i32 0, .int .u32 0, .map none] 68)
  have hsp : SpAt ((w.alloc (.cells #[.string s.name, .slice A s.cols.length c, .int .i64 s.key, .bool s.only] 30)).alloc (.cells #[.int .u32 0, .int .i32 0, .int .u32 0, .map none] 68)) w.heap.size (w.heap.size + 1) := ⟨by omega, .inl hb2⟩
  have c10 := hb1'.cell 0
  clear hb1 hb2 hz
  have NM := Lib.hid (name_any s.name hf.1 w.heap.size (w.heap.size + 1) _ hsp)
  have z27 := zero27
  have z68 := zero68
  go_enter Try.func13, Try.ntmps13
  go_wp2_with fail
  refine NM.out.mono ?_
  rintro e w3 ⟨rfl, hsp3, t3⟩
  have hbs3 := hb1'.turns t3 (by simp)
  have t03 := t2.trans t3 (by intro x hx; simp at hx; right; omega)
  clear NM hb1' hsp c10 t2 t3
  obtain ⟨bs, hbsd⟩ : ∃ bs, bs = w.heap.size := ⟨_, rfl⟩
  have hbsw : w.heap.size ≤ bs := by omega
  have hgw : w.heap.size ≤ w.heap.size + 1 := by omega
  rw [← hbsd] at hbs3 ⊢
  have hgb : bs ≠ bs + 1 := by omega
  rw [← hbsd] at hsp3
  have hbsd' := Lib.hid hbsd
  clear hbsd hgw
  have c31 : w3.cell? ⟨bs, 1, none⟩ = some (.slice A s.cols.length c) := hbs3.cell 1
  cases hnm : nameOk s.name
  · have hck := Lib.hid (show checkS s = 12 by unfold checkS; rw [if_pos hnm])
    clear hbs3 hsp3
    go_wp2_with fail
    go_ret
    exact ⟨by rw [hck.out]; rfl, t03⟩
  by_cases hn1 : s.cols.length < 1
  · have hck := Lib.hid (show checkS s = 4 by unfold checkS; rw [if_neg (by simp [hnm]), if_pos (.inl hn1)])
    have x1 : (s.cols.length : Int) < 1 := by omega
    clear hbs3 hsp3
    go_wp2_with fail
    go_ret
    exact ⟨by rw [hck.out]; rfl, t03⟩
  have x1 : 1 ≤ (s.cols.length : Int) := by omega
  by_cases hn6 : 6 < s.cols.length
  · have hck := Lib.hid (show checkS s = 4 by unfold checkS; rw [if_neg (by simp [hnm]), if_pos (.inr hn6)])
    have x2 : 6 < (s.cols.length : Int) := by omega
    clear hbs3 hsp3
    go_wp2_with fail
    go_ret
    exact ⟨by rw [hck.out]; rfl, t03⟩
  have x2 : (s.cols.length : Int) ≤ 6 := by omega
  have hck0 := Lib.hid (show checkS s = if colsCheck [] s.cols ≠ 0 then colsCheck [] s.cols else keyCheck s by unfold checkS; rw [if_neg (by simp [hnm]), if_neg (by omega)])
  clear hnm hn1 hn6
  go_wp2_with fail
  clear c31
  go_loopw [25] (fun i wr => ∃ k : Nat, k ≤ s.cols.length ∧ i = .int .i64 k ∧ colsCheck [] s.cols = colsCheck (s.cols.take k) (s.cols.drop k) ∧ SpAt wr bs (bs + 1) ∧ Blk wr bs [.string s.name, .slice A s.cols.length c, .int .i64 s.key, .bool s.only] 30 ∧ Turns [] w wr) (fun i _ => s.cols.length - (intOf i).toNat)
  case atStart => exact ⟨0, by omega, rfl, by simp, hsp3, hbs3, t03⟩
  case round =>
    clear hsp3 hbs3 t03
    obtain ⟨k, hk, rfl, hcc, hsp, hbs, ht⟩ := hrel
    by_cases hlt : k < s.cols.length
    · rw [colsCheck_step s.cols k hlt] at hcc
      obtain ⟨j, hfj, hjk, hjd⟩ := find_lt s.cols k hlt
      have hfit := hf.2 _ (List.getElem_mem hlt)
      have hs' := ht.slice hs hB (by simp)
      have hs0 := hs'
      obtain ⟨_, _, _, ee, _, _, _, hrd⟩ := hs'
      injection ee with e1 _ e3
      subst e1 e3
      obtain ⟨b, off, rfl, hb, hc⟩ := hrd (by intro e; have := congrArg List.length e; rw [colCells_length] at this; simp at this; omega)
      have hrange : wr.rangeAt b (off + k * 3) s.cols[k].cells := by
        intro j v hj
        have hj3 : j < 3 := by
          have := (List.getElem?_eq_some_iff.1 hj).1
          simpa [Col.cells] using this
        have := hc (k * 3 + j) v (by rw [colCells_get s.cols k j hlt hj3]; exact hj)
        rwa [← Nat.add_assoc] at this
      obtain ⟨cc, hccd⟩ : ∃ cc, cc = s.cols[k] := ⟨_, rfl⟩
      rw [← hccd] at hrange hfj hjd hfit hcc
      have hsz : (Try.prog.info? 27).map (·.size) = some cc.cells.length := T27i
      have hsz30 : (Try.prog.info? 30).map (·.size) = some ([.string s.name, .slice (some ⟨b, off, none⟩) s.cols.length c, .int .i64 s.key, .bool s.only] : List Value).length := by kernel_rfl
      obtain ⟨w5, hst, hb5, t5⟩ := store_var (P := Try.prog) wr #[.string ⟨#[]⟩, .int .i64 0, .bool false] 27 cc.cells rfl (by intro u hu; simp [Col.cells] at hu; rcases hu with rfl | rfl | rfl <;> rfl)
      have hbs5 := hbs.turns t5 (by simp)
      have hsp5 := hsp.turns t5
      have hs5 := t5.slice hs0 (Nat.le_trans hB ht.size) (by simp)
      have c50 := hb5.cell 0
      have r5 := hbs5.range 0 4
      have FD := Find_any s (some ⟨b, off, none⟩) s.cols.length c cc.name B _ hs5 (Nat.le_trans hB (Nat.le_trans ht.size t5.size))
      rw [hfj, show max (j : Int) 0 = j by omega, show decide (0 ≤ (j : Int)) = true by simp] at FD
      replace FD := Lib.hid FD
      have HC := Lib.hid hcc
      have HJ := Lib.hid hjd
      have hqb : wr.heap.size ≠ bs := fun e => by have := hbs.lt; omega
      have hqg : wr.heap.size ≠ bs + 1 := fun e => by have := hsp.lt; omega
      have tt5 := ht.trans t5 (by simp)
      clear hcc hjd hfj hrd hc hs0 hs5 hccd hbs hsp ht
      go_wp2_with (first
        | (refine wpList_load_mid rfl 27 (.tmp 28) rfl b (off + k * 3) rfl _ _ hrange Try.underlying27 rfl hsz ?_)
        | (refine wpList_load_mid rfl 30 (.tmp 1) rfl bs 0 rfl _ _ r5 Try.underlying30 rfl hsz30 ?_))
      generalize wr.heap.size = q at *
      refine FD.out.mono ?_
      rintro e w6 ⟨rfl, t6⟩
      have hb6 := hb5.turns t6 (by simp)
      have hbs6 := hbs5.turns t6 (by simp)
      have hsp6 := hsp5.turns t6
      have c60 := hb6.cell 0
      have NM := Lib.hid (name_any cc.name hfit bs (bs + 1) w6 hsp6)
      have tt6 := tt5.trans t6 (by simp)
      clear FD hb5 hbs5 hsp5 t5 t6 tt5 c50 r5 hrange
      go_wp2_with fail
      refine NM.out.mono ?_
      rintro e w7 ⟨rfl, hsp7, t7⟩
      have hb7 := hb6.turns t7 (by simpa using hqg)
      have hbs7 := hbs6.turns t7 (by simp)
      have tt7 := tt6.trans t7 (by intro x hx; simp at hx; right; omega)
      have c71 : w7.cell? ⟨q, 1, none⟩ = some (.int .i64 cc.kind) := hb7.cell 1
      clear NM hb6 hbs6 hsp6 t7 tt6 c60 hb7
      cases hnm : nameOk cc.name
      · have hck := Lib.hid (show checkS s = 12 by
          have hx : colsCheck [] s.cols = 12 := by rw [HC.out, if_pos (.inl hnm)]
          rw [hck0.out, hx]; rfl)
        clear hsp7 hbs7
        go_wp2_with fail
        go_ret
        exact ⟨by rw [hck.out]; rfl, tt7⟩
      by_cases hj : j < k
      · have hck := Lib.hid (show checkS s = 12 by
          have hx : colsCheck [] s.cols = 12 := by rw [HC.out, if_pos (.inr (HJ.out.1 hj))]
          rw [hck0.out, hx]; rfl)
        clear hsp7 hbs7
        go_wp2_with fail
        go_ret
        exact ⟨by rw [hck.out]; rfl, tt7⟩
      have hnd : ¬ (nameOk cc.name = false ∨ ∃ d ∈ s.cols.take k, d.name = cc.name) := by
        rintro (h | h)
        · rw [hnm] at h; cases h
        · exact hj (HJ.out.2 h)
      by_cases hk1 : cc.kind < 1
      · have hck := Lib.hid (show checkS s = 3 by
          have hx : colsCheck [] s.cols = 3 := by rw [HC.out, if_neg hnd, if_pos (.inl hk1)]
          rw [hck0.out, hx]; rfl)
        clear hsp7 hbs7 hnd
        go_wp2_with fail
        go_ret
        exact ⟨by rw [hck.out]; rfl, tt7⟩
      by_cases hk3 : 3 < cc.kind
      · have hck := Lib.hid (show checkS s = 3 by
          have hx : colsCheck [] s.cols = 3 := by rw [HC.out, if_neg hnd, if_pos (.inr hk3)]
          rw [hck0.out, hx]; rfl)
        clear hsp7 hbs7 hnd
        go_wp2_with fail
        go_ret
        exact ⟨by rw [hck.out]; rfl, tt7⟩
      have HN := Lib.hid (show colsCheck [] s.cols = colsCheck (s.cols.take (k + 1)) (s.cols.drop (k + 1)) by rw [HC.out, if_neg hnd, if_neg (by omega)])
      clear hnd
      go_wp2_with fail
      go_roundw
      case rel => exact ⟨k + 1, by omega, by go_num, HN.out, hsp7, hbs7, tt7⟩
      case measure => (simp [intOf] <;> omega)
    · obtain rfl : k = s.cols.length := by omega
      rw [List.take_length, List.drop_length] at hcc
      have hk0 := Lib.hid (show checkS s = keyCheck s by rw [hck0.out, hcc]; rfl)
      have c1 : wr.cell? ⟨bs, 1, none⟩ = some (.slice A s.cols.length c) := hbs.cell 1
      have c2 : wr.cell? ⟨bs, 2, none⟩ = some (.int .i64 s.key) := hbs.cell 2
      have hs' := ht.slice hs hB (by simp)
      clear hcc hsp hbs
      by_cases hy0 : s.key < 0
      · have hck := Lib.hid (show checkS s = 1 by rw [hk0.out]; unfold keyCheck; rw [if_pos (.inl hy0)])
        go_wp2_with fail
        go_ret
        exact ⟨by rw [hck.out]; rfl, ht⟩
      by_cases hyn : (s.cols.length : Int) ≤ s.key
      · have hck := Lib.hid (show checkS s = 1 by rw [hk0.out]; unfold keyCheck; rw [if_pos (.inr hyn)])
        go_wp2_with fail
        go_ret
        exact ⟨by rw [hck.out]; rfl, ht⟩
      obtain ⟨kn, hkn⟩ : ∃ kn : Nat, s.key = kn := ⟨s.key.toNat, by omega⟩
      have hkl : kn < s.cols.length := by omega
      have hkk := Lib.hid (show keyCheck s = if s.cols[kn].null = true then 13 else 0 by
        unfold keyCheck
        rw [if_neg (by omega), hkn, Int.toNat_natCast, List.getD_eq_getElem?_getD, List.getElem?_eq_getElem hkl]
        rfl)
      obtain ⟨_, _, _, ee, _, _, _, hrd⟩ := hs'
      injection ee with e1 _ e3
      subst e1 e3
      obtain ⟨b, off, rfl, hb, hc⟩ := hrd (by intro e; have := congrArg List.length e; rw [colCells_length] at this; simp at this; omega)
      have hcn : wr.cell? ⟨b, off + kn * 3 + 2, none⟩ = some (.bool s.cols[kn].null) := by
        have := hc (kn * 3 + 2) (.bool s.cols[kn].null) (by rw [colCells_get s.cols kn 2 hkl (by omega)]; rfl)
        rwa [← Nat.add_assoc] at this
      rw [hkn] at c2 hy0 hyn
      clear hc hrd hkn
      cases hnl : s.cols[kn].null
      · rw [hnl] at hcn
        have hck := Lib.hid (show checkS s = 0 by rw [hk0.out, hkk.out, hnl]; rfl)
        clear hnl
        go_wp2_with fail
        go_ret
        exact ⟨by rw [hck.out]; rfl, ht⟩
      · rw [hnl] at hcn
        have hck := Lib.hid (show checkS s = 13 by rw [hk0.out, hkk.out, hnl]; rfl)
        clear hnl
        go_wp2_with fail
        go_ret
        exact ⟨by rw [hck.out]; rfl, ht⟩
end Go.Proofs.Ytdllgnccjejhiaa
