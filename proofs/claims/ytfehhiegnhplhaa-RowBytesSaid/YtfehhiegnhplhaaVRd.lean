/- A value is read: code's reader that reads values, too. -/
import Derived.Test.YtfehhiegnhplhaaVCkC
import Derived.Test.YtfehhiegnhplhaaCopyB
namespace Go.Proofs.Ytfehhiegnhplhaa
open Go.RowKit
set_option linter.unusedVariables false
set_option maxRecDepth 10000
set_option linter.unusedSimpArgs false
set_option linter.unnecessarySimpa false

theorem IsR.turns {L : List Nat} {w w' : World} {B g : Nat} {s : RS} (h : IsR w B g s) (t : Turns L w w') (hg : g ∉ L) (hL : ∀ x ∈ L, B ≤ x) : IsR w' B g s := by
  have hlt := h.lt
  have h' : RdrIs w B g s.rest s.err := h
  obtain ⟨v, h1, h2, h3⟩ := h'.is
  show RdrIs w' B g s.rest s.err
  exact ⟨v, (t.block g hlt hg).trans h1, h2.keep fun p hp => World.cell?_of_block (t.block p.block (by omega) (fun hm => by have := hL _ hm; omega)), h3⟩
theorem IsX.turns {L : List Nat} {w w' : World} {B g : Nat} {s : RS} (h : IsX w B g s) (t : Turns L w w') (hg : g ∉ L) (hL : ∀ x ∈ L, B ≤ x) : IsX w' B g s := by
  have hlt := h.lt
  obtain ⟨A, c, all, p, h1, h2, h3, h4, h5⟩ := h
  exact ⟨A, c, all, p, (t.block g hlt hg).trans h1, h2.keep fun q hq => World.cell?_of_block (t.block q.block (by omega) (fun hm => by have := hL _ hm; omega)), h3, h4, h5⟩
theorem Did.turns {B g : Nat} {w w' : World} {s : RS} (h : Did B g w s w') : Turns [g] w w' := Turns.of_grown h.only (by intro k hk; injection hk with hk; simp [hk])
theorem DidX.turns {B g : Nat} {w w' : World} {s : RS} (h : DidX B g w s w') : Turns [g] w w' := Turns.of_grown h.only (by intro k hk; injection hk with hk; simp [hk])

/-- What reading a value leaves: the reader in its new state. -/
structure DidV (g : Nat) (w : World) (s : RS) (w' : World) : Prop where
  is : IsR w' g g s
  turns : Turns [g] w w'

set_option maxRecDepth 100000 in
set_option maxHeartbeats 8000000 in
theorem value_any (g : Nat) (s : RS) (w : World) (h : IsR w g g s) :
    Calls Try.prog 22 #[.agg #[.pointer (some ⟨g, 0, none⟩)]] w fun e w' => e = .returned (.agg #[.int .i64 s.readVal.1.kind, .int .i64 s.readVal.1.n, .string s.readVal.1.s]) ∧ DidV g w s.readVal.2 w' := by
  obtain ⟨⟨⟨rk, rn, rs⟩, s9⟩, hres⟩ : ∃ r, r = s.readVal := ⟨_, rfl⟩
  rw [← hres]
  have hgl := h.lt
  have zV := zero_val
  obtain ⟨X0, hX0⟩ : ∃ X0, X0 = (w.alloc (.cells #[.pointer (some ⟨g, 0, none⟩)] 49)).alloc (.cells #[.int .i64 0, .int .i64 0, .string ⟨#[]⟩] 28) := ⟨_, rfl⟩
  have v1 := (Blk.new w [.pointer (some ⟨g, 0, none⟩)] 49).alloc (.cells #[.int .i64 0, .int .i64 0, .string ⟨#[]⟩] 28)
  have v2 := Blk.new (w.alloc (.cells #[.pointer (some ⟨g, 0, none⟩)] 49)) [.int .i64 0, .int .i64 0, .string ⟨#[]⟩] 28
  have t0 : Turns [g] w X0 := by rw [hX0]; exact ((Turns.refl [g] w).alloc _).alloc _
  have e1 : (w.alloc (.cells #[.pointer (some ⟨g, 0, none⟩)] 49)).heap.size = w.heap.size + 1 := by simp
  rw [e1] at v2
  have v1 : Blk X0 w.heap.size [.pointer (some ⟨g, 0, none⟩)] 49 := by rw [hX0]; exact v1
  have v2 : Blk X0 (w.heap.size + 1) [.int .i64 0, .int .i64 0, .string ⟨#[]⟩] 28 := by rw [hX0]; exact v2
  obtain ⟨p1, hp1⟩ : ∃ p1, p1 = w.heap.size := ⟨_, rfl⟩
  obtain ⟨p2, hp2⟩ : ∃ p2, p2 = w.heap.size + 1 := ⟨_, rfl⟩
  rw [← hp1] at v1
  rw [← hp2] at v2
  have R0 : IsR X0 g g s := h.turns (L := []) (by rw [hX0]; exact ((Turns.refl [] w).alloc _).alloc _) (by simp) (by simp)
  have g1 : g < p1 := by omega
  have g2 : g < p2 := by omega
  have p12 : p1 < p2 := by omega
  have l2 := v2.lt
  have HX := Lib.hid hX0
  have HP := Lib.hid (And.intro hp1 hp2)
  have BY := Lib.hid (RByte1_any g g s X0 R0)
  have H0 := Lib.hid (And.intro v1 (And.intro v2 t0))
  have RV := Lib.hid (show ((⟨⟨rk, rn, rs⟩, s9⟩ : Val × RS)) = if s.readByte.1 = 0 then (⟨0, 0, ⟨#[]⟩⟩, s.readByte.2) else if s.readByte.1 = 1 then (⟨1, s.readByte.2.readByte.1, ⟨#[]⟩⟩, s.readByte.2.readByte.2) else if s.readByte.1 = 2 then (⟨2, s.readByte.2.readInt.1, ⟨#[]⟩⟩, s.readByte.2.readInt.2) else if s.readByte.1 = 3 then (⟨3, 0, strOf s.readByte.2.readText.1⟩, s.readByte.2.readText.2) else (⟨s.readByte.1, 0, ⟨#[]⟩⟩, s.readByte.2.fail 3) by rw [hres]; rfl)
  clear hX0 hp1 hp2 R0 h hres v1 v2 t0 e1 hgl l2
  go_enter Try.func22, Try.ntmps22
  go_wp2_with fail
  rw [← HX.out, ← HP.out.2, ← HP.out.1]
  refine BY.out.mono ?_
  rintro e x1 ⟨rfl, dd⟩
  have tt := dd.turns
  have v1 := H0.out.1.turns tt (by simp; omega)
  have v2 := H0.out.2.1.turns tt (by simp; omega)
  have t0 := H0.out.2.2.trans tt (by intro x hx; exact .inl hx)
  have R0 := dd.is
  generalize s.readByte.2 = s2 at R0 RV
  generalize s.readByte.1 = k at RV
  obtain ⟨p3, hp3⟩ : ∃ p3, p3 = x1.heap.size := ⟨_, rfl⟩
  obtain ⟨X1, hX1⟩ : ∃ X1, X1 = x1.alloc (.cells #[.int .i64 k, .int .i64 0, .string ⟨#[]⟩] 28) := ⟨_, rfl⟩
  have v3 := Blk.new x1 [.int .i64 k, .int .i64 0, .string ⟨#[]⟩] 28
  rw [show x1.alloc (.cells [.int .i64 k, .int .i64 0, .string ⟨#[]⟩].toArray 28) = X1 from hX1.symm, ← hp3] at v3
  have p23 : p2 < p3 := by have := v2.lt; omega
  have ta : Turns [] x1 X1 := by rw [hX1]; exact (Turns.refl _ _).alloc _
  have v1 := v1.turns ta (by simp)
  have v2 := v2.turns ta (by simp)
  have t0 := t0.trans ta (by simp)
  have R0 := R0.turns ta (by simp) (by simp)
  have c1 := v1.cell 0
  simp only [List.getElem?_cons_zero] at c1
  have HX1 := Lib.hid hX1
  have HP3 := Lib.hid hp3
  have H1 := Lib.hid (And.intro v1 (And.intro v2 (And.intro v3 (And.intro t0 R0))))
  have hw2 := Lib.hid (show w.heap.size ≤ p2 by rw [HP.out.2]; omega)
  have q0 := v3.cell 0
  simp only [List.getElem?_cons_zero] at q0
  clear dd tt ta hX1 hp3 v1 v2 v3 t0 R0 BY H0
  by_cases h0 : k = 0
  · subst h0
    go_upto_region 11 with fail
    rw [← HX1.out, ← HP3.out]
    obtain ⟨-, v2, v3, t0, R0⟩ := H1.out
    have q0 := v2.cell 0
    have q1 := v2.cell 1
    have q2 := v2.cell 2
    have f0 := v2.free 0
    have f1 := v2.free 1
    have f2 := v2.free 2
    simp only [List.getElem?_cons_zero, List.getElem?_cons_succ] at q0 q1 q2
    have r3 := v3.range 0 3
    rw [List.drop_zero, List.take_of_length_le (by simp)] at r3
    have hsz := size_val 0 0 ⟨#[]⟩
    have vz := v2.setCells [.int .i64 0, .int .i64 0, .string ⟨#[]⟩] 0
    rw [spl_whole _ _ (by rfl)] at vz
    have tz := Turns.setCells (L := [g]) (b := p2) (.inr hw2.out) [.int .i64 0, .int .i64 0, .string ⟨#[]⟩] 0 t0
    have Rz := R0.turns (Turns.setCells (L := [p2]) (b := p2) (.inl (by simp)) [.int .i64 0, .int .i64 0, .string ⟨#[]⟩] 0 (Turns.refl [p2] _)) (by simp; omega) (by intro x hx; simp at hx; omega)
    have HE := Lib.hid (And.intro vz (And.intro Rz tz))
    have HV := Lib.hid (show ((⟨⟨rk, rn, rs⟩, s9⟩ : Val × RS)) = (⟨0, 0, ⟨#[]⟩⟩, s2) from RV.out.trans (by rw [if_pos trivial]))
    clear vz tz Rz v2 v3 t0 R0 RV
    go_wp2_with (first
      | (refine wpList_load_mid rfl 28 (.tmp 3) rfl p3 0 rfl _ _ r3 Try.underlying28 rfl hsz ?_)
      | fail)
    refine bodyPost_ret (results_cell_row rfl _ _ p2 _ _ _ _ rfl HE.out.1 Try.underlying28 rfl (by kernel_rfl)) rfl ?_
    have hv := HV.out
    injection hv with hv1 hv2
    injection hv1 with hv3 hv4 hv5
    rw [hv2, hv3, hv4, hv5]
    exact ⟨rfl, ⟨HE.out.2.1, HE.out.2.2⟩⟩
  have e0 : (k == 0) = false := by simpa using h0
  by_cases h1 : k = 1
  · subst h1
    have CA := Lib.hid (RByte1_any g g s2 X1 H1.out.2.2.2.2)
    go_upto_region 6 with fail
    rw [← HX1.out, ← HP3.out]
    go_wp2_with fail
    refine CA.out.mono ?_
    rintro e x2 ⟨rfl, dd⟩
    have tt := dd.turns
    have v2 := H1.out.2.1.turns tt (by simp; omega)
    have v3 := H1.out.2.2.1.turns tt (by simp; omega)
    have t0 := H1.out.2.2.2.1.trans tt (by intro x hx; exact .inl hx)
    have R0 := dd.is
    have w1 := v3.cell 1
    have y1 := v3.free 1
    simp only [List.getElem?_cons_zero, List.getElem?_cons_succ] at w1
    obtain ⟨X2, hX2⟩ : ∃ X2, X2 = x2.setCell ⟨p3, 1, none⟩ (.int .i64 s2.readByte.1) := ⟨_, rfl⟩
    have ts : Turns [p3] x2 X2 := by rw [hX2]; exact Turns.setCell (L := [p3]) (p := ⟨p3, 1, none⟩) (Turns.refl [p3] x2) (.inl (by simp)) _
    have v3 := v3.set 1 (.int .i64 s2.readByte.1)
    simp only [List.set_cons_succ, List.set_cons_zero] at v3
    have v2 := v2.turns ts (by simp; omega)
    have R0 := R0.turns ts (by simp; omega) (by intro x hx; simp at hx; omega)
    have t0 := t0.trans ts (by intro x hx; simp at hx; have := hw2.out; exact .inr (by omega))
    rw [← hX2] at v3
    have HX2 := Lib.hid hX2
    clear ts hX2 dd tt CA
    go_upto_region 11 with fail
    rw [← HX2.out]
    have q0 := v2.cell 0
    have q1 := v2.cell 1
    have q2 := v2.cell 2
    have f0 := v2.free 0
    have f1 := v2.free 1
    have f2 := v2.free 2
    simp only [List.getElem?_cons_zero, List.getElem?_cons_succ] at q0 q1 q2
    have r3 := v3.range 0 3
    rw [List.drop_zero, List.take_of_length_le (by simp)] at r3
    have hsz := size_val 1 s2.readByte.1 ⟨#[]⟩
    have vz := v2.setCells [.int .i64 1, .int .i64 s2.readByte.1, .string ⟨#[]⟩] 0
    rw [spl_whole _ _ (by rfl)] at vz
    have tz := Turns.setCells (L := [g]) (b := p2) (.inr hw2.out) [.int .i64 1, .int .i64 s2.readByte.1, .string ⟨#[]⟩] 0 t0
    have Rz := R0.turns (Turns.setCells (L := [p2]) (b := p2) (.inl (by simp)) [.int .i64 1, .int .i64 s2.readByte.1, .string ⟨#[]⟩] 0 (Turns.refl [p2] _)) (by simp; omega) (by intro x hx; simp at hx; omega)
    have HE := Lib.hid (And.intro vz (And.intro Rz tz))
    have HV := Lib.hid (show ((⟨⟨rk, rn, rs⟩, s9⟩ : Val × RS)) = (⟨1, s2.readByte.1, ⟨#[]⟩⟩, s2.readByte.2) from RV.out.trans (by rw [if_neg (by omega), if_pos trivial]))
    clear vz tz Rz v2 v3 t0 R0 RV
    go_wp2_with (first
      | (refine wpList_load_mid rfl 28 (.tmp 3) rfl p3 0 rfl _ _ r3 Try.underlying28 rfl hsz ?_)
      | fail)
    refine bodyPost_ret (results_cell_row rfl _ _ p2 _ _ _ _ rfl HE.out.1 Try.underlying28 rfl (by kernel_rfl)) rfl ?_
    have hv := HV.out
    injection hv with hv1 hv2
    injection hv1 with hv3 hv4 hv5
    rw [hv2, hv3, hv4, hv5]
    exact ⟨rfl, ⟨HE.out.2.1, HE.out.2.2⟩⟩
  have e1 : (k == 1) = false := by simpa using h1
  by_cases h2 : k = 2
  · subst h2
    have CA := Lib.hid (RInt8_any g g s2 X1 H1.out.2.2.2.2)
    go_upto_region 8 with fail
    rw [← HX1.out, ← HP3.out]
    go_wp2_with fail
    refine CA.out.mono ?_
    rintro e x2 ⟨rfl, dd⟩
    have tt := dd.turns
    have v2 := H1.out.2.1.turns tt (by simp; omega)
    have v3 := H1.out.2.2.1.turns tt (by simp; omega)
    have t0 := H1.out.2.2.2.1.trans tt (by intro x hx; exact .inl hx)
    have R0 := dd.is
    have w1 := v3.cell 1
    have y1 := v3.free 1
    simp only [List.getElem?_cons_zero, List.getElem?_cons_succ] at w1
    obtain ⟨X2, hX2⟩ : ∃ X2, X2 = x2.setCell ⟨p3, 1, none⟩ (.int .i64 s2.readInt.1) := ⟨_, rfl⟩
    have ts : Turns [p3] x2 X2 := by rw [hX2]; exact Turns.setCell (L := [p3]) (p := ⟨p3, 1, none⟩) (Turns.refl [p3] x2) (.inl (by simp)) _
    have v3 := v3.set 1 (.int .i64 s2.readInt.1)
    simp only [List.set_cons_succ, List.set_cons_zero] at v3
    have v2 := v2.turns ts (by simp; omega)
    have R0 := R0.turns ts (by simp; omega) (by intro x hx; simp at hx; omega)
    have t0 := t0.trans ts (by intro x hx; simp at hx; have := hw2.out; exact .inr (by omega))
    rw [← hX2] at v3
    have HX2 := Lib.hid hX2
    clear ts hX2 dd tt CA
    go_upto_region 11 with fail
    rw [← HX2.out]
    have q0 := v2.cell 0
    have q1 := v2.cell 1
    have q2 := v2.cell 2
    have f0 := v2.free 0
    have f1 := v2.free 1
    have f2 := v2.free 2
    simp only [List.getElem?_cons_zero, List.getElem?_cons_succ] at q0 q1 q2
    have r3 := v3.range 0 3
    rw [List.drop_zero, List.take_of_length_le (by simp)] at r3
    have hsz := size_val 2 s2.readInt.1 ⟨#[]⟩
    have vz := v2.setCells [.int .i64 2, .int .i64 s2.readInt.1, .string ⟨#[]⟩] 0
    rw [spl_whole _ _ (by rfl)] at vz
    have tz := Turns.setCells (L := [g]) (b := p2) (.inr hw2.out) [.int .i64 2, .int .i64 s2.readInt.1, .string ⟨#[]⟩] 0 t0
    have Rz := R0.turns (Turns.setCells (L := [p2]) (b := p2) (.inl (by simp)) [.int .i64 2, .int .i64 s2.readInt.1, .string ⟨#[]⟩] 0 (Turns.refl [p2] _)) (by simp; omega) (by intro x hx; simp at hx; omega)
    have HE := Lib.hid (And.intro vz (And.intro Rz tz))
    have HV := Lib.hid (show ((⟨⟨rk, rn, rs⟩, s9⟩ : Val × RS)) = (⟨2, s2.readInt.1, ⟨#[]⟩⟩, s2.readInt.2) from RV.out.trans (by rw [if_neg (by omega), if_neg (by omega), if_pos trivial]))
    clear vz tz Rz v2 v3 t0 R0 RV
    go_wp2_with (first
      | (refine wpList_load_mid rfl 28 (.tmp 3) rfl p3 0 rfl _ _ r3 Try.underlying28 rfl hsz ?_)
      | fail)
    refine bodyPost_ret (results_cell_row rfl _ _ p2 _ _ _ _ rfl HE.out.1 Try.underlying28 rfl (by kernel_rfl)) rfl ?_
    have hv := HV.out
    injection hv with hv1 hv2
    injection hv1 with hv3 hv4 hv5
    rw [hv2, hv3, hv4, hv5]
    exact ⟨rfl, ⟨HE.out.2.1, HE.out.2.2⟩⟩
  have e2 : (k == 2) = false := by simpa using h2
  by_cases h3 : k = 3
  · subst h3
    have CA := Lib.hid (RText_read g g s2 X1 H1.out.2.2.2.2)
    go_upto_region 10 with fail
    rw [← HX1.out, ← HP3.out]
    go_wp2_with fail
    refine CA.out.mono ?_
    rintro e x2 ⟨rfl, dd⟩
    have tt := dd.turns
    have v2 := H1.out.2.1.turns tt (by simp; omega)
    have v3 := H1.out.2.2.1.turns tt (by simp; omega)
    have t0 := H1.out.2.2.2.1.trans tt (by intro x hx; exact .inl hx)
    have R0 := dd.is
    have w1 := v3.cell 2
    have y1 := v3.free 2
    simp only [List.getElem?_cons_zero, List.getElem?_cons_succ] at w1
    obtain ⟨X2, hX2⟩ : ∃ X2, X2 = x2.setCell ⟨p3, 2, none⟩ (.string (strOf s2.readText.1)) := ⟨_, rfl⟩
    have ts : Turns [p3] x2 X2 := by rw [hX2]; exact Turns.setCell (L := [p3]) (p := ⟨p3, 2, none⟩) (Turns.refl [p3] x2) (.inl (by simp)) _
    have v3 := v3.set 2 (.string (strOf s2.readText.1))
    simp only [List.set_cons_succ, List.set_cons_zero] at v3
    have v2 := v2.turns ts (by simp; omega)
    have R0 := R0.turns ts (by simp; omega) (by intro x hx; simp at hx; omega)
    have t0 := t0.trans ts (by intro x hx; simp at hx; have := hw2.out; exact .inr (by omega))
    rw [← hX2] at v3
    have HX2 := Lib.hid hX2
    clear ts hX2 dd tt CA
    go_upto_region 11 with fail
    rw [← HX2.out]
    have q0 := v2.cell 0
    have q1 := v2.cell 1
    have q2 := v2.cell 2
    have f0 := v2.free 0
    have f1 := v2.free 1
    have f2 := v2.free 2
    simp only [List.getElem?_cons_zero, List.getElem?_cons_succ] at q0 q1 q2
    have r3 := v3.range 0 3
    rw [List.drop_zero, List.take_of_length_le (by simp)] at r3
    have hsz := size_val 3 0 (strOf s2.readText.1)
    have vz := v2.setCells [.int .i64 3, .int .i64 0, .string (strOf s2.readText.1)] 0
    rw [spl_whole _ _ (by rfl)] at vz
    have tz := Turns.setCells (L := [g]) (b := p2) (.inr hw2.out) [.int .i64 3, .int .i64 0, .string (strOf s2.readText.1)] 0 t0
    have Rz := R0.turns (Turns.setCells (L := [p2]) (b := p2) (.inl (by simp)) [.int .i64 3, .int .i64 0, .string (strOf s2.readText.1)] 0 (Turns.refl [p2] _)) (by simp; omega) (by intro x hx; simp at hx; omega)
    have HE := Lib.hid (And.intro vz (And.intro Rz tz))
    have HV := Lib.hid (show ((⟨⟨rk, rn, rs⟩, s9⟩ : Val × RS)) = (⟨3, 0, (strOf s2.readText.1)⟩, s2.readText.2) from RV.out.trans (by rw [if_neg (by omega), if_neg (by omega), if_neg (by omega), if_pos trivial]))
    clear vz tz Rz v2 v3 t0 R0 RV
    go_wp2_with (first
      | (refine wpList_load_mid rfl 28 (.tmp 3) rfl p3 0 rfl _ _ r3 Try.underlying28 rfl hsz ?_)
      | fail)
    refine bodyPost_ret (results_cell_row rfl _ _ p2 _ _ _ _ rfl HE.out.1 Try.underlying28 rfl (by kernel_rfl)) rfl ?_
    have hv := HV.out
    injection hv with hv1 hv2
    injection hv1 with hv3 hv4 hv5
    rw [hv2, hv3, hv4, hv5]
    exact ⟨rfl, ⟨HE.out.2.1, HE.out.2.2⟩⟩
  have e3 : (k == 3) = false := by simpa using h3
  have FL := Lib.hid (Fail_any g g s2.rest s2.err 3 X1 H1.out.2.2.2.2)
  go_upto_region 3 with fail
  rw [← HX1.out, ← HP3.out]
  go_wp2_with fail
  refine FL.out.mono ?_
  rintro e x2 ⟨rfl, rr, oo⟩
  have tt : Turns [g] X1 x2 := Turns.of_grown oo (by intro k hk; injection hk with hk; simp [hk])
  have v2 := H1.out.2.1.turns tt (by simp; omega)
  have v3 := H1.out.2.2.1.turns tt (by simp; omega)
  have t0 := H1.out.2.2.2.1.trans tt (by intro x hx; exact .inl hx)
  have R0 : IsR x2 g g (s2.fail 3) := rr
  clear tt oo rr FL
  go_upto_region 11 with fail
  have q0 := v2.cell 0
  have q1 := v2.cell 1
  have q2 := v2.cell 2
  have f0 := v2.free 0
  have f1 := v2.free 1
  have f2 := v2.free 2
  simp only [List.getElem?_cons_zero, List.getElem?_cons_succ] at q0 q1 q2
  have r3 := v3.range 0 3
  rw [List.drop_zero, List.take_of_length_le (by simp)] at r3
  have hsz := size_val k 0 ⟨#[]⟩
  have vz := v2.setCells [.int .i64 k, .int .i64 0, .string ⟨#[]⟩] 0
  rw [spl_whole _ _ (by rfl)] at vz
  have tz := Turns.setCells (L := [g]) (b := p2) (.inr hw2.out) [.int .i64 k, .int .i64 0, .string ⟨#[]⟩] 0 t0
  have Rz := R0.turns (Turns.setCells (L := [p2]) (b := p2) (.inl (by simp)) [.int .i64 k, .int .i64 0, .string ⟨#[]⟩] 0 (Turns.refl [p2] _)) (by simp; omega) (by intro x hx; simp at hx; omega)
  have HE := Lib.hid (And.intro vz (And.intro Rz tz))
  have HV := Lib.hid (show ((⟨⟨rk, rn, rs⟩, s9⟩ : Val × RS)) = (⟨k, 0, ⟨#[]⟩⟩, s2.fail 3) from RV.out.trans (by rw [if_neg h0, if_neg h1, if_neg h2, if_neg h3]))
  clear vz tz Rz v2 v3 t0 R0 RV
  go_wp2_with (first
    | (refine wpList_load_mid rfl 28 (.tmp 3) rfl p3 0 rfl _ _ r3 Try.underlying28 rfl hsz ?_)
    | fail)
  refine bodyPost_ret (results_cell_row rfl _ _ p2 _ _ _ _ rfl HE.out.1 Try.underlying28 rfl (by kernel_rfl)) rfl ?_
  have hv := HV.out
  injection hv with hv1 hv2
  injection hv1 with hv3 hv4 hv5
  rw [hv2, hv3, hv4, hv5]
  exact ⟨rfl, ⟨HE.out.2.1, HE.out.2.2⟩⟩
end Go.Proofs.Ytfehhiegnhplhaa
