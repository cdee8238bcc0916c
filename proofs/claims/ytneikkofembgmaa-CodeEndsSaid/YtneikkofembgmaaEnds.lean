/- Numbers at the ends: the law CodeEnds. -/
import Derived.Test.YtneikkofembgmaaWithin
import Derived.Test.YtneikkofembgmaaRts
import Derived.StillTailTactics
import Derived.Test.YtneikkofembgmaaRegs
namespace Go.Proofs.Ytneikkofembgmaa
open Go.RowKit
set_option linter.unusedVariables false
set_option linter.unusedSimpArgs false
set_option linter.unnecessarySimpa false

/-- What the law's loop has written: each number's eight bytes and its last one. -/
def nine (zs : List Int) : List UInt8 := zs.flatMap fun z => le8 z ++ [byte1 z]

theorem nine_length (zs : List Int) : (nine zs).length = 9 * zs.length := by
  induction zs with
  | nil => rfl
  | cons z zs ih => simp only [nine, List.flatMap_cons, List.length_append, le8_length, List.length_cons, List.length_nil] at ih ⊢; omega
theorem lit_cells (w : World) (zs : List Int) (t : TypeId) (k : Nat) (hk : k < zs.length) : (w.alloc (.cells (zs.map (Value.int .i64)).toArray t)).cell? ⟨w.heap.size, k, none⟩ = some (.int .i64 zs[k]) := by
  rw [cell_of_row _ w.heap.size k (zs.map (Value.int .i64)).toArray t (0, 0) (by show (w.heap.push _)[w.heap.size]? = _; simp)]
  simp [hk]
theorem wrap64_in (x : Int) : -9223372036854775808 ≤ wrap64 x ∧ wrap64 x ≤ 9223372036854775807 := by unfold wrap64; omega

set_option maxHeartbeats 2000000 in
theorem CodeEnds_walk (n k : Int) (w : World) (hn1 : -9223372036854775808 ≤ n) (hn2 : n ≤ 9223372036854775807) (hk1 : -9223372036854775808 ≤ k) (hk2 : k ≤ 9223372036854775807) :
    Calls Try.prog 5 #[.int .i64 n, .int .i64 k] w fun e w' => e = .returned (.bool true) ∧ Below w.heap.size w w' := by
  have WK := Lib.hid (fun W => within_any k 62 W hk1 hk2 (by omega) (by omega))
  have p0 := Int.emod_nonneg k (show (62 : Int) ≠ 0 by omega)
  have p1 := Int.emod_lt_of_pos k (show (0 : Int) < 62 by omega)
  generalize k % 62 = d at *
  go_enter Try.func5, Try.ntmps5
  go_wp2_with fail
  refine (known_any _).mono ?_
  rintro e' w1 ⟨rfl, bel1⟩
  go_wp2_with fail
  refine (WK.out _).mono ?_
  rintro e' ww ⟨rfl, rfl⟩
  go_wp2_with fail
  clear WK
  have hpow : IntKind.i64.wrap (2 ^ d.toNat) = wrap64 (2 ^ d.toNat) := by simp only [wrap64, IntKind.wrap_i64]
  have hwb : -9223372036854775808 ≤ wrap64 (2 ^ d.toNat) ∧ wrap64 (2 ^ d.toNat) ≤ 9223372036854775807 := wrap64_in _
  generalize wrap64 (2 ^ d.toNat) = p at *
  obtain ⟨zs, hzs⟩ : ∃ zs : List Int, zs = [n, 9223372036854775807, -9223372036854775808, 0, -1, p] := ⟨_, rfl⟩
  have hzl : zs.length = 6 := by subst hzs; rfl
  have hz : ∀ z ∈ zs, -9223372036854775808 ≤ z ∧ z ≤ 9223372036854775807 := by
    subst hzs; intro z h; simp only [List.mem_cons, List.not_mem_nil, or_false] at h
    rcases h with rfl | rfl | rfl | rfl | rfl | rfl <;> first | exact ⟨by omega, by omega⟩ | exact hwb
  obtain ⟨w2, hw2⟩ : ∃ w2, w2 = w1.alloc (Obj.cells #[.int .i64 n, .int .i64 9223372036854775807, .int .i64 (-9223372036854775808), .int .i64 0, .int .i64 (-1), .int .i64 p] 3) := ⟨_, rfl⟩
  have bel2 : Below w.heap.size w w2 := by rw [hw2]; exact bel1.alloc bel1.size _
  have hL : w1.heap.size < w2.heap.size := by rw [hw2]; simp
  have hcells : ∀ (k : Nat) (hk : k < zs.length), w2.cell? ⟨w1.heap.size, k, none⟩ = some (.int .i64 zs[k]) := by
    intro k hk
    rw [hw2, show (#[.int .i64 n, .int .i64 9223372036854775807, .int .i64 (-9223372036854775808), .int .i64 0, .int .i64 (-1), .int .i64 p] : Array Value) = (zs.map (Value.int .i64)).toArray by rw [hzs]; rfl]
    exact lit_cells w1 zs _ k hk
  rw [← hw2]
  obtain ⟨L, hLe⟩ : ∃ L, L = w1.heap.size := ⟨_, rfl⟩
  have hL0 : w.heap.size ≤ L := by rw [hLe]; exact bel1.size
  rw [← hLe]
  rw [← hLe] at hcells hL
  clear hw2 hzs hpow hwb hLe p0 p1
  clear bel1
  go_loopw [6, 7] (fun b i wr => ∃ k : Nat, k ≤ zs.length ∧ i = .int .i64 k ∧ Below L w2 wr ∧ (∀ (j : Nat) (hj : j < zs.length), wr.cell? ⟨L, j, none⟩ = some (.int .i64 zs[j])) ∧ Sl wr wr.heap.size 1 b (nine (zs.take k)).length (bvs (nine (zs.take k)))) (fun _ i _ => 6 - (intOf i).toNat)
  case atStart => exact ⟨0, by omega, rfl, Below.refl _ _, hcells, Sl.nil⟩
  case round =>
    clear hcells
    obtain ⟨k, hk, rfl, hbel, hcells, hsl⟩ := hrel
    by_cases hlt : k < zs.length
    · have hcell := hcells k hlt
      go_wp2_with fail
      have hlen : (nine (zs.take k)).length ≤ 1000000000 := by rw [nine_length, List.length_take]; omega
      have hLw : L < wr.heap.size := Nat.lt_of_lt_of_le hL hbel.size
      refine held_begin (fun W => W.cell? ⟨L, k, none⟩ = some (.int .i64 zs[k])) 12 #[false, false, false, false, false, false, false, false, false, false, false, false] (by kernel_rfl) (by kernel_rfl) (by kernel_rfl) ?_
      refine held_take 0 24 11 #[true, false, false, false, false, false, false, false, false, false, false, false] (v := ?_) rfl rfl (by kernel_rfl) (by kernel_rfl) (by kernel_rfl) (by kernel_rfl) (fun _ _ _ h => h) (by rfl) ?_ hcell ?_
      rotate_left
      · intro W hS; go_simp; all_goals with_reducible rfl
      simp only [List.setIfInBounds_toArray, List.set_cons_succ, List.set_cons_zero]
      refine held_take 1 25 10 #[true, true, false, false, false, false, false, false, false, false, false, false] (v := ?_) rfl rfl (by kernel_rfl) (by kernel_rfl) (by kernel_rfl) (by kernel_rfl) (fun _ _ _ h => h) (by rfl) ?_ hcell ?_
      rotate_left
      · intro W hS; go_simp; all_goals with_reducible rfl
      simp only [List.setIfInBounds_toArray, List.set_cons_succ, List.set_cons_zero]
      refine held_take 2 26 9 #[true, true, true, false, false, false, false, false, false, false, false, false] (v := ?_) rfl rfl (by kernel_rfl) (by kernel_rfl) (by kernel_rfl) (by kernel_rfl) (fun _ _ _ h => h) (by rfl) ?_ hcell ?_
      rotate_left
      · intro W hS; go_simp; all_goals with_reducible rfl
      simp only [List.setIfInBounds_toArray, List.set_cons_succ, List.set_cons_zero]
      refine held_take 3 27 8 #[true, true, true, true, false, false, false, false, false, false, false, false] (v := ?_) rfl rfl (by kernel_rfl) (by kernel_rfl) (by kernel_rfl) (by kernel_rfl) (fun _ _ _ h => h) (by rfl) ?_ hcell ?_
      rotate_left
      · intro W hS; go_simp; all_goals with_reducible rfl
      simp only [List.setIfInBounds_toArray, List.set_cons_succ, List.set_cons_zero]
      refine held_take 4 28 7 #[true, true, true, true, true, false, false, false, false, false, false, false] (v := ?_) rfl rfl (by kernel_rfl) (by kernel_rfl) (by kernel_rfl) (by kernel_rfl) (fun _ _ _ h => h) (by rfl) ?_ hcell ?_
      rotate_left
      · intro W hS; go_simp; all_goals with_reducible rfl
      simp only [List.setIfInBounds_toArray, List.set_cons_succ, List.set_cons_zero]
      refine held_take 6 30 6 #[true, true, true, true, true, false, true, false, false, false, false, false] (v := ?_) rfl rfl (by kernel_rfl) (by kernel_rfl) (by kernel_rfl) (by kernel_rfl) (fun _ _ _ h => h) (by rfl) ?_ hcell ?_
      rotate_left
      · intro W hS; go_simp; all_goals with_reducible rfl
      simp only [List.setIfInBounds_toArray, List.set_cons_succ, List.set_cons_zero]
      refine held_take 7 31 5 #[true, true, true, true, true, false, true, true, false, false, false, false] (v := ?_) rfl rfl (by kernel_rfl) (by kernel_rfl) (by kernel_rfl) (by kernel_rfl) (fun _ _ _ h => h) (by rfl) ?_ hcell ?_
      rotate_left
      · intro W hS; go_simp; all_goals with_reducible rfl
      simp only [List.setIfInBounds_toArray, List.set_cons_succ, List.set_cons_zero]
      refine held_take 8 32 4 #[true, true, true, true, true, false, true, true, true, false, false, false] (v := ?_) rfl rfl (by kernel_rfl) (by kernel_rfl) (by kernel_rfl) (by kernel_rfl) (fun _ _ _ h => h) (by rfl) ?_ hcell ?_
      rotate_left
      · intro W hS; go_simp; all_goals with_reducible rfl
      simp only [List.setIfInBounds_toArray, List.set_cons_succ, List.set_cons_zero]
      refine held_take 9 33 3 #[true, true, true, true, true, false, true, true, true, true, false, false] (v := ?_) rfl rfl (by kernel_rfl) (by kernel_rfl) (by kernel_rfl) (by kernel_rfl) (fun _ _ _ h => h) (by rfl) ?_ hcell ?_
      rotate_left
      · intro W hS; go_simp; all_goals with_reducible rfl
      simp only [List.setIfInBounds_toArray, List.set_cons_succ, List.set_cons_zero]
      refine held_call 5 2 #[true, true, true, true, true, true, true, true, true, true, false, false] (by kernel_rfl) rfl (by rfl) (by kernel_rfl) (fun K hK => ?_)
      go_simp
      refine (Int_any u6 _ (nine (zs.take k)) zs[k] wr.drew (hsl.below (Below.refl _ _).drew) hlen).mono ?_
      rintro e' w3 ⟨v3, rfl, own3, bel3⟩
      have HS1 := (bel3.cell hLw).trans hcell
      refine hK _ _ HS1 ?_
      clear hK K
      refine held_call 10 1 #[true, true, true, true, true, true, true, true, true, true, true, false] (by kernel_rfl) rfl (by rfl) (by kernel_rfl) (fun K hK => ?_)
      go_simp
      have hlen2 : (nine (zs.take k)).length + 8 ≤ 1000000000 := by rw [nine_length, List.length_take]; omega
      have own3' := own_cast (m := (nine (zs.take k) ++ le8 zs[k]).length) own3 (by rw [List.length_append, le8_length]) rfl
      refine (Byte_any v3 (nine (zs.take k) ++ le8 zs[k]) zs[k] w3 (sl_bs (Sl.of_own own3')) (by rw [List.length_append, le8_length]; exact hlen2)).mono ?_
      rintro e' w4 ⟨v4, rfl, own4, bel4⟩
      have HS2 := (bel4.cell (Nat.lt_of_lt_of_le hLw bel3.size)).trans HS1
      refine hK _ _ HS2 ?_
      clear hK K
      refine held_take 11 6 0 #[true, true, true, true, true, true, true, true, true, true, true, true] (v := ?_) rfl rfl (by kernel_rfl) (by kernel_rfl) (by kernel_rfl) (by kernel_rfl) (fun _ _ _ h => h) (by rfl) ?_ HS2 ?_
      rotate_left
      · intro W hS; go_simp; all_goals with_reducible rfl
      simp only [List.setIfInBounds_toArray, List.set_cons_succ, List.set_cons_zero]
      refine wpAnyH_done (by kernel_rfl) ?_ _
      go_wp2_with fail
      have hcells4 : ∀ (j : Nat) (hj : j < zs.length), w4.cell? ⟨L, j, none⟩ = some (.int .i64 zs[j]) := fun j hj => (bel4.cell (Nat.lt_of_lt_of_le hLw bel3.size)).trans ((bel3.cell (w := wr.drew) hLw).trans (hcells j hj))
      have hb4 : Below L w2 w4 := (hbel.drew.trans (bel3.mono (Nat.le_of_lt hLw))).trans (bel4.mono (Nat.le_of_lt (Nat.lt_of_lt_of_le hLw bel3.size)))
      have e4 : nine (zs.take k) ++ le8 zs[k] ++ [byte1 zs[k]] = nine (zs.take (k + 1)) := by
        rw [List.take_succ_eq_append_getElem hlt]; simp only [nine, List.flatMap_append, List.flatMap_cons, List.flatMap_nil, List.append_nil, List.append_assoc]
      rw [e4] at own4
      go_roundw
      case rel => exact ⟨k + 1, by omega, by go_num, hb4, hcells4, sl_bs (Sl.of_own own4)⟩
      case measure => (simp [intOf] <;> omega)
    · obtain rfl : k = 6 := by omega
      rw [show zs.take 6 = zs by rw [← hzl, List.take_length]] at hsl
      have hlen6 : (nine zs).length = 54 := by rw [nine_length, hzl]
      rw [hlen6] at hsl
      have hopen := hsl
      obtain ⟨_, A, c, rfl, hnc, hcm, hA, hrd⟩ := hsl
      clear hnc hcm hA hrd
      have hbw : Below w.heap.size w wr := bel2.trans (hbel.mono hL0)
      have hLw : L < wr.heap.size := Nat.lt_of_lt_of_le hL hbel.size
      clear hbel hL hk hlt
      go_wp2_with fail
      refine (New_any _ (nine zs) _ (sl_bs hopen) (by omega)).mono ?_
      rintro e' w3 ⟨g, rfl, hg, r3, bel3⟩
      have hg0 : w.heap.size ≤ g := Nat.le_trans hbw.size hg
      have hLg : L ≠ g := by omega
      have hcells3 : ∀ (j : Nat) (hj : j < zs.length), w3.cell? ⟨L, j, none⟩ = some (.int .i64 zs[j]) := fun j hj => (bel3.cell hLw).trans (hcells j hj)
      have hb3 : Below w.heap.size w w3 := hbw.trans (bel3.mono hbw.size)
      clear hopen hcells bel3 hbw hLw hg
      go_wp2_with fail
      go_loopw [9] (fun i wr => ∃ k : Nat, k ≤ zs.length ∧ i = .int .i64 k ∧ Below w.heap.size w wr ∧ (∀ (j : Nat) (hj : j < zs.length), wr.cell? ⟨L, j, none⟩ = some (.int .i64 zs[j])) ∧ IsR wr g g ⟨nine (zs.drop k), 0⟩) (fun i _ => 6 - (intOf i).toNat)
      case atStart => exact ⟨0, by omega, rfl, hb3, hcells3, r3⟩
      case round =>
        clear hcells3 r3 hb3
        obtain ⟨k, hk, rfl, hbel, hcells, hr⟩ := hrel
        by_cases hlt : k < zs.length
        · have hcell := hcells k hlt
          have hzk := hz _ (List.getElem_mem hlt)
          have hd := Lib.hid (show nine (zs.drop k) = le8 zs[k] ++ (byte1 zs[k] :: nine (zs.drop (k + 1))) by
            rw [List.drop_eq_getElem_cons hlt]; simp only [nine, List.flatMap_cons, List.append_assoc, List.cons_append, List.nil_append])
          have RI := Lib.hid (read_int zs[k] (byte1 zs[k] :: nine (zs.drop (k + 1))) hzk.1 hzk.2)
          have RB := Lib.hid (read_byte zs[k] (nine (zs.drop (k + 1))))
          generalize zs[k] = z at hcell hzk hd RI RB
          have hand := and255 z
          go_wp2_with fail
          refine held_begin (fun W => W.cell? ⟨L, k, none⟩ = some (.int .i64 z)) 17 #[false, false, false, false, false, false, false, false, false, false, false, false, false, false, false, false, false] (by kernel_rfl) (by kernel_rfl) (by kernel_rfl) ?_
          refine held_take 0 43 16 #[true, false, false, false, false, false, false, false, false, false, false, false, false, false, false, false, false] (v := ?_) rfl rfl (by kernel_rfl) (by kernel_rfl) (by kernel_rfl) (by kernel_rfl) (fun _ _ _ h => h) (by rfl) ?_ hcell ?_
          rotate_left
          · intro W hS; go_simp; all_goals with_reducible rfl
          simp only [List.setIfInBounds_toArray, List.set_cons_succ, List.set_cons_zero]
          refine held_take 2 45 15 #[true, false, true, false, false, false, false, false, false, false, false, false, false, false, false, false, false] (v := ?_) rfl rfl (by kernel_rfl) (by kernel_rfl) (by kernel_rfl) (by kernel_rfl) (fun _ _ _ h => h) (by rfl) ?_ hcell ?_
          rotate_left
          · intro W hS; go_simp; all_goals with_reducible rfl
          simp only [List.setIfInBounds_toArray, List.set_cons_succ, List.set_cons_zero]
          refine held_take 3 46 14 #[true, false, true, true, false, false, false, false, false, false, false, false, false, false, false, false, false] (v := ?_) rfl rfl (by kernel_rfl) (by kernel_rfl) (by kernel_rfl) (by kernel_rfl) (fun _ _ _ h => h) (by rfl) ?_ hcell ?_
          rotate_left
          · intro W hS; go_simp; all_goals with_reducible rfl
          simp only [List.setIfInBounds_toArray, List.set_cons_succ, List.set_cons_zero]
          refine held_take 4 47 13 #[true, false, true, true, true, false, false, false, false, false, false, false, false, false, false, false, false] (v := ?_) rfl rfl (by kernel_rfl) (by kernel_rfl) (by kernel_rfl) (by kernel_rfl) (fun _ _ _ h => h) (by rfl) ?_ hcell ?_
          rotate_left
          · intro W hS; go_simp; all_goals with_reducible rfl
          simp only [List.setIfInBounds_toArray, List.set_cons_succ, List.set_cons_zero]
          refine held_take 5 48 12 #[true, false, true, true, true, true, false, false, false, false, false, false, false, false, false, false, false] (v := ?_) rfl rfl (by kernel_rfl) (by kernel_rfl) (by kernel_rfl) (by kernel_rfl) (fun _ _ _ h => h) (by rfl) ?_ hcell ?_
          rotate_left
          · intro W hS; go_simp; all_goals with_reducible rfl
          simp only [List.setIfInBounds_toArray, List.set_cons_succ, List.set_cons_zero]
          refine held_call 1 11 #[true, true, true, true, true, true, false, false, false, false, false, false, false, false, false, false, false] (by kernel_rfl) rfl (by rfl) (by kernel_rfl) (fun K hK => ?_)
          go_simp
          refine (RInt8_any g g ⟨nine (zs.drop k), 0⟩ wr.drew (hr.below (Below.refl _ _).drew)).mono ?_
          rintro e' w5 ⟨rfl, d5⟩
          rw [hd.out, RI.out] at d5 ⊢
          have HS1 : w5.cell? ⟨L, k, none⟩ = some (.int .i64 z) := d5.only.cell (w := wr.drew) hcell (by simpa using hLg)
          have r5 := d5.is
          have oth5 : ∀ j (hj : j < zs.length), w5.cell? ⟨L, j, none⟩ = some (.int .i64 zs[j]) := fun j hj => d5.only.cell (w := wr.drew) (hcells j hj) (by simpa using hLg)
          have bel5 : Below w.heap.size w w5 := d5.below hbel.drew hg0 hbel.size
          clear d5
          refine hK _ _ HS1 ?_
          clear hK K
          refine held_take 6 49 10 #[true, true, true, true, true, true, true, false, false, false, false, false, false, false, false, false, false] (v := ?_) rfl rfl (by kernel_rfl) (by kernel_rfl) (by kernel_rfl) (by kernel_rfl) (fun _ _ _ h => h) (by rfl) ?_ HS1 ?_
          rotate_left
          · intro W hS; go_simp; all_goals with_reducible rfl
          simp only [List.setIfInBounds_toArray, List.set_cons_succ, List.set_cons_zero]
          refine held_take 7 50 9 #[true, true, true, true, true, true, true, true, false, false, false, false, false, false, false, false, false] (v := ?_) rfl rfl (by kernel_rfl) (by kernel_rfl) (by kernel_rfl) (by kernel_rfl) (fun _ _ _ h => h) (by rfl) ?_ HS1 ?_
          rotate_left
          · intro W hS; go_simp; all_goals with_reducible rfl
          simp only [List.setIfInBounds_toArray, List.set_cons_succ, List.set_cons_zero]
          refine held_take 8 51 8 #[true, true, true, true, true, true, true, true, true, false, false, false, false, false, false, false, false] (v := ?_) rfl rfl (by kernel_rfl) (by kernel_rfl) (by kernel_rfl) (by kernel_rfl) (fun _ _ _ h => h) (by rfl) ?_ HS1 ?_
          rotate_left
          · intro W hS; go_simp; all_goals with_reducible rfl
          simp only [List.setIfInBounds_toArray, List.set_cons_succ, List.set_cons_zero]
          refine held_take 10 53 7 #[true, true, true, true, true, true, true, true, true, false, true, false, false, false, false, false, false] (v := ?_) rfl rfl (by kernel_rfl) (by kernel_rfl) (by kernel_rfl) (by kernel_rfl) (fun _ _ _ h => h) (by rfl) ?_ HS1 ?_
          rotate_left
          · intro W hS; go_simp; all_goals with_reducible rfl
          simp only [List.setIfInBounds_toArray, List.set_cons_succ, List.set_cons_zero]
          refine held_take 11 54 6 #[true, true, true, true, true, true, true, true, true, false, true, true, false, false, false, false, false] (v := ?_) rfl rfl (by kernel_rfl) (by kernel_rfl) (by kernel_rfl) (by kernel_rfl) (fun _ _ _ h => h) (by rfl) ?_ HS1 ?_
          rotate_left
          · intro W hS; go_simp; all_goals with_reducible rfl
          simp only [List.setIfInBounds_toArray, List.set_cons_succ, List.set_cons_zero]
          refine held_take 12 55 5 #[true, true, true, true, true, true, true, true, true, false, true, true, true, false, false, false, false] (v := ?_) rfl rfl (by kernel_rfl) (by kernel_rfl) (by kernel_rfl) (by kernel_rfl) (fun _ _ _ h => h) (by rfl) ?_ HS1 ?_
          rotate_left
          · intro W hS; go_simp; all_goals with_reducible rfl
          simp only [List.setIfInBounds_toArray, List.set_cons_succ, List.set_cons_zero]
          refine held_take 13 56 4 #[true, true, true, true, true, true, true, true, true, false, true, true, true, true, false, false, false] (v := ?_) rfl rfl (by kernel_rfl) (by kernel_rfl) (by kernel_rfl) (by kernel_rfl) (fun _ _ _ h => h) (by rfl) ?_ HS1 ?_
          rotate_left
          · intro W hS; go_simp; all_goals with_reducible rfl
          simp only [List.setIfInBounds_toArray, List.set_cons_succ, List.set_cons_zero]
          refine held_take 14 57 3 #[true, true, true, true, true, true, true, true, true, false, true, true, true, true, true, false, false] (v := ?_) rfl rfl (by kernel_rfl) (by kernel_rfl) (by kernel_rfl) (by kernel_rfl) (fun _ _ _ h => h) (by rfl) ?_ HS1 ?_
          rotate_left
          · intro W hS; go_simp; all_goals with_reducible rfl
          simp only [List.setIfInBounds_toArray, List.set_cons_succ, List.set_cons_zero]
          refine held_call 9 2 #[true, true, true, true, true, true, true, true, true, true, true, true, true, true, true, false, false] (by kernel_rfl) rfl (by rfl) (by kernel_rfl) (fun K hK => ?_)
          go_simp
          refine (RByte1_any g g _ w5 r5).mono ?_
          rintro e' w6 ⟨rfl, d6⟩
          rw [RB.out] at d6 ⊢
          have HS2 : w6.cell? ⟨L, k, none⟩ = some (.int .i64 z) := d6.only.cell HS1 (by simpa using hLg)
          have r6 := d6.is
          have bel6 : Below w.heap.size w w6 := d6.below bel5 hg0 bel5.size
          have oth : ∀ j (hj : j < zs.length), w6.cell? ⟨L, j, none⟩ = some (.int .i64 zs[j]) := fun j hj => d6.only.cell (oth5 j hj) (by simpa using hLg)
          clear d6
          refine hK _ _ HS2 ?_
          clear hK K
          refine held_take 15 58 1 #[true, true, true, true, true, true, true, true, true, true, true, true, true, true, true, true, false] (v := ?_) rfl rfl (by kernel_rfl) (by kernel_rfl) (by kernel_rfl) (by kernel_rfl) (fun _ _ _ h => h) (by rfl) ?_ HS2 ?_
          rotate_left
          · intro W hS; go_simp; all_goals with_reducible rfl
          simp only [List.setIfInBounds_toArray, List.set_cons_succ, List.set_cons_zero]
          refine held_take 16 59 0 #[true, true, true, true, true, true, true, true, true, true, true, true, true, true, true, true, true] (v := ?_) rfl rfl (by kernel_rfl) (by kernel_rfl) (by kernel_rfl) (by kernel_rfl) (fun _ _ _ h => h) (by rfl) ?_ HS2 ?_
          rotate_left
          · intro W hS; go_simp; all_goals with_reducible rfl
          simp only [List.setIfInBounds_toArray, List.set_cons_succ, List.set_cons_zero]
          refine wpAnyH_done (by kernel_rfl) ?_ _
          go_wp2_with fail
          go_roundw
          case rel => exact ⟨k + 1, by omega, by go_num, bel6, oth, r6⟩
          case measure => (simp [intOf] <;> omega)
        · obtain rfl : k = 6 := by omega
          rw [show zs.drop 6 = [] by rw [← hzl, List.drop_length]] at hr
          have E := Lib.hid (End_any g g ⟨nine [], 0⟩ wr hr)
          go_wp2_with fail
          refine E.out.mono ?_
          rintro e' ww ⟨rfl, rfl⟩
          go_wp2_with fail
          go_ret
          exact ⟨rfl, hbel⟩
end Go.Proofs.Ytneikkofembgmaa
