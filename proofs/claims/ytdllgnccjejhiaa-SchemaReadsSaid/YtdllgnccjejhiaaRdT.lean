/- Readers while other blocks turn; flags; rows of columns of one's own. -/
import Derived.Test.YtdllgnccjejhiaaPLaw
namespace Go.Proofs.Ytdllgnccjejhiaa
open Go.RowKit
set_option linter.unusedVariables false
set_option maxRecDepth 10000
set_option linter.unusedSimpArgs false
set_option linter.unnecessarySimpa false

theorem IsR.turns {L : List Nat} {w w' : World} {B g : Nat} {s : RS} (h : IsR w B g s) (t : Turns L w w') (hg : g ∉ L) (hL : ∀ x ∈ L, B ≤ x) : IsR w' B g s := by
  have hlt := h.lt
  have h' : RdrIs w B g s.rest s.err := h
  obtain ⟨v, h1, h2, h3⟩ := h'.is
  show RdrIs w' B g s.rest s.err
  exact ⟨v, (t.block g hlt hg).trans h1, h2.keep fun p hp => World.cell?_of_block (t.block p.block (by omega) (fun hm => by have := hL _ hm; omega)), h3⟩
theorem IsX.turns {L : List Nat} {w w' : World} {B g : Nat} {s : RS} (h : IsX w B g s) (t : Turns L w w') (hg : g ∉ L) (hL : ∀ x ∈ L, B ≤ x) : IsX w' B g s := by
  have hlt := h.lt
  obtain ⟨A, c, all, p, h1, h2, h3, h4, h5⟩ := h
  exact ⟨A, c, all, p, (t.block g hlt hg).trans h1, h2.keep fun q hq => World.cell?_of_block (t.block q.block (by omega) (fun hm => by have := hL _ hm; omega)), h3, h4, h5⟩
theorem Did.turns {B g : Nat} {w w' : World} {s : RS} (h : Did B g w s w') : Turns [g] w w' := Turns.of_grown h.only (by intro k hk; injection hk with hk; simp [hk])
theorem DidX.turns {B g : Nat} {w w' : World} {s : RS} (h : DidX B g w s w') : Turns [g] w w' := Turns.of_grown h.only (by intro k hk; injection hk with hk; simp [hk])
theorem Turns.grown {g : Nat} {w w' : World} (h : Turns [g] w w') : w.grownBy w' (some g) := ⟨h.os, h.tape, h.output, h.size, fun k hk hne => h.block k hk (by simp; intro e; exact hne (by rw [e]))⟩

theorem readByte_bd (s : RS) : 0 ≤ s.readByte.1 ∧ s.readByte.1 ≤ 255 := by
  have hl : (s.take 1).1.length ≤ 1 := by
    unfold RS.take; split
    · simp; omega
    · simp
  show 0 ≤ leInt (s.take 1).1 ∧ leInt (s.take 1).1 ≤ 255
  generalize (s.take 1).1 = l at hl
  match l, hl with
  | [], _ => decide
  | [b], _ =>
    have e : b = byte1 (b.toNat : Int) := by
      apply UInt8.toNat_inj.1
      have h1 := byte1_nat (b.toNat : Int)
      have h2 := b.toNat_lt
      omega
    rw [e, le_byte1]
    omega

theorem truth_any (B g : Nat) (s : RS) (w : World) (h : IsR w B g s) :
    Calls Try.prog 41 #[.pointer (some ⟨g, 0, none⟩)] w fun e w' => e = .returned (.bool s.readFlag.1) ∧ Did B g w s.readFlag.2 w' := by
  have hq := Lib.hid (show s.readFlag = (s.readByte.1 == 1, if 1 < s.readByte.1 then s.readByte.2.fail 10 else s.readByte.2) from rfl)
  have BY := RByte1_any B g s w h
  have FL := fun W hw => Fail_any B g s.readByte.2.rest s.readByte.2.err 10 W hw
  obtain ⟨⟨b, s1⟩, hb⟩ : ∃ p, p = s.readByte := ⟨_, rfl⟩
  rw [← hb] at hq BY FL
  replace BY := Lib.hid BY
  replace FL := Lib.hid FL
  clear hb h
  go_enter Try.func41, Try.ntmps41
  go_wp2_with fail
  refine BY.out.mono ?_
  rintro e w1 ⟨rfl, d1⟩
  by_cases hb1 : 1 < b
  · have hf := Lib.hid (FL.out w1 d1.is)
    have hb2 : (b == 1) = false := by simp; omega
    have hfin := Lib.hid (show s.readFlag = (false, s1.fail 10) by rw [hq.out]; simp [hb1, hb2])
    have D1 := Lib.hid d1
    clear d1 BY FL
    go_wp2_with fail
    refine hf.out.mono ?_
    rintro e w2 ⟨rfl, d2, o2⟩
    have dd : Did B g w (s1.fail 10) w2 := ⟨d2, grown_trans' D1.out.only o2⟩
    clear d2 o2 hf
    go_wp2_with fail
    go_ret
    rw [hfin.out]
    exact ⟨rfl, dd⟩
  · have hfin := Lib.hid (show s.readFlag = (b == 1, s1) by rw [hq.out]; simp [hb1])
    clear BY FL
    go_wp2_with fail
    go_ret
    rw [hfin.out]
    exact ⟨rfl, d1⟩
theorem flagX_any (B g : Nat) (s : RS) (w : World) (h : IsX w B g s) :
    Calls Try.prog 49 #[.pointer (some ⟨g, 0, none⟩)] w fun e w' => e = .returned (.bool s.readFlag.1) ∧ DidX B g w s.readFlag.2 w' := by
  have hq := Lib.hid (show s.readFlag = (s.readByte.1 == 1, if 1 < s.readByte.1 then s.readByte.2.fail 10 else s.readByte.2) from rfl)
  have BY := XByte1_any B g s w h
  have FL := fun W hw => XFail_any B g s.readByte.2 10 W hw
  obtain ⟨⟨b, s1⟩, hb⟩ : ∃ p, p = s.readByte := ⟨_, rfl⟩
  rw [← hb] at hq BY FL
  replace BY := Lib.hid BY
  replace FL := Lib.hid FL
  clear hb h
  go_enter Try.func49, Try.ntmps49
  go_wp2_with fail
  refine BY.out.mono ?_
  rintro e w1 ⟨rfl, d1⟩
  by_cases hb1 : 1 < b
  · have hf := Lib.hid (FL.out w1 d1.is)
    have hb2 : (b == 1) = false := by simp; omega
    have hfin := Lib.hid (show s.readFlag = (false, s1.fail 10) by rw [hq.out]; simp [hb1, hb2])
    have D1 := Lib.hid d1
    clear d1 BY FL
    go_wp2_with fail
    refine hf.out.mono ?_
    rintro e w2 ⟨rfl, d2⟩
    have dd := D1.out.trans d2
    clear d2 hf
    go_wp2_with fail
    go_ret
    rw [hfin.out]
    exact ⟨rfl, dd⟩
  · have hfin := Lib.hid (show s.readFlag = (b == 1, s1) by rw [hq.out]; simp [hb1])
    clear BY FL
    go_wp2_with fail
    go_ret
    rw [hfin.out]
    exact ⟨rfl, d1⟩

set_option maxHeartbeats 400000 in
theorem CloneCol_any (v : Value) (n : Nat) (bs : List Value) (h1 : ∀ u ∈ bs, u.oneCell' = true) (w : World) (h : Sl w w.heap.size 3 v n bs) (hn : n ≤ 100000) :
    Calls Try.prog 42 #[v] w fun e w' => ∃ v', e = .returned v' ∧ w'.ownsRow w.heap.size 27 3 v' n bs ∧ Turns [] w w' := by
  have h' := h
  obtain ⟨hl, A, c, rfl, hnc, hcm, hA, hrd⟩ := h
  have hnil := fun w => Lib.run_eql_slice_nil (P := Try.prog) w 28 27 A n c 0 0 Try.underlying28
  rcases A with _ | ad
  · have := hA rfl
    subst this
    have : n = 0 := by omega
    subst this
    have : bs = [] := List.eq_nil_of_length_eq_zero (by omega)
    subst this
    go_enter Try.func42, Try.ntmps42
    go_wp2_with fail
    go_ret
    exact ⟨_, rfl, World.ownsRow_nil _ _ _ _, Turns.refl _ _⟩
  · have hown : (w.alloc (.cells #[] 27)).ownsRow w.heap.size 27 3 (.slice (some ⟨w.heap.size, 0, none⟩) 0 0) 0 [] :=
      World.ownsRow_made w #[] 0 (Nat.le_refl _) (Nat.zero_le _) (by simp)
    go_enter Try.func42, Try.ntmps42
    go_wp2_with (at_builtin; refine wpList_append _ rfl (.tmp 5) (.tmp 6) rfl (run_append_rd _ T28 _ hown (h'.alloc (Nat.le_refl _) _) h1 (by simp only [maxLen]; omega) (by omega) (by simp)) rfl rfl ?_; intro v' w' ap)
    go_ret
    exact ⟨v', rfl, by simpa using ap.own, Turns.of_below (L := []) (ap.below ((Below.refl _ _).alloc (Nat.le_refl _) _) hown (Nat.le_refl _) (by simp))⟩
end Go.Proofs.Ytdllgnccjejhiaa
