/- What was written, one behind the other, is read as it was: the law CodeBack. -/
import Derived.Test.YtneikkofembgmaaBackL
import Derived.Test.YtneikkofembgmaaRegs
namespace Go.Proofs.Ytneikkofembgmaa
open Go.RowKit
set_option linter.unusedVariables false
set_option linter.unusedSimpArgs false
set_option linter.unnecessarySimpa false

/-- All that is written. -/
def allOf (ns : List Int) (ss : List ByteArray) : List UInt8 := byte1 ns.length :: (intsOf ns ++ textsOf ss)
theorem strOf_eq (l : List UInt8) (t : ByteArray) : strOf l = t ↔ l = t.data.toList := by
  constructor
  · rintro rfl; rfl
  · rintro rfl; rfl
theorem toList_data (t : ByteArray) : t.toList = t.data.toList := by
  have h : strOf t.data.toList = t := (strOf_eq _ _).2 rfl
  have h2 := strOf_toList t.data.toList
  rw [h] at h2
  exact h2

set_option maxRecDepth 100000 in
set_option maxHeartbeats 8000000 in
theorem CodeBack_walk (b : Value) (l : Nat) (ns : List Int) (q : Value) (m : Nat) (ss : List ByteArray) (w : World) (h : Sl w w.heap.size 1 b l (ns.map (Value.int .i64))) (hq : Sl w w.heap.size 1 q m (ss.map Value.string)) (hz : ∀ z ∈ ns, -9223372036854775808 ≤ z ∧ z ≤ 9223372036854775807) (hs : ∀ s ∈ ss, s.size ≤ maxLen) :
    Calls Try.prog 10 #[b, q] w fun e w' => e = .returned (.bool true) ∧ Below w.heap.size w w' := by
  obtain rfl : ns.length = l := by have := h.1; simp at this; omega
  obtain rfl : ss.length = m := by have := hq.1; simp at this; omega
  have hm : ns.length ≤ maxLen := by obtain ⟨_, A, c, _, h1, h2, _⟩ := h; omega
  have hml : ss.length ≤ maxLen := by obtain ⟨_, A, c, _, h1, h2, _⟩ := hq; omega
  obtain ⟨hlen, A, c, rfl, hnc, hcm, hA, hrd⟩ := h
  obtain ⟨hlen2, A2, c2, rfl, hnc2, hcm2, hA2, hrd2⟩ := hq
  clear hlen hcm hnc hA hlen2 hnc2 hcm2 hA2
  unfold maxLen at hm hml
  by_cases hb1 : 20 < ns.length
  · go_enter Try.func10, Try.ntmps10
    go_wp2_with (go_at_call 11; refine (known_any _).mono ?_; rintro e w1 ⟨rfl, bel1⟩)
    go_ret
    exact ⟨rfl, bel1⟩
  by_cases hb2 : 10 < ss.length
  · go_enter Try.func10, Try.ntmps10
    go_wp2_with (go_at_call 11; refine (known_any _).mono ?_; rintro e w1 ⟨rfl, bel1⟩)
    go_ret
    exact ⟨rfl, bel1⟩
  go_enter Try.func10, Try.ntmps10
  go_wp2_with fail
  refine (known_any _).mono ?_
  rintro e' w1 ⟨rfl, bel1⟩
  go_wp2_with fail
  refine (Byte_any (.slice none 0 0) [] ns.length w1 Sl.nil (by simp)).mono ?_
  rintro e' w2 ⟨v2, rfl, own2, bel2⟩
  replace bel2 := bel1.trans (bel2.mono bel1.size)
  have sl2 := Sl.of_own own2
  clear own2 bel1
  go_wp2_with fail
  go_loopw [5, 6] (fun u i wr => ∃ k : Nat, k ≤ ns.length ∧ i = .int .i64 k ∧ Below w.heap.size w wr ∧ Sl wr wr.heap.size 1 u (byte1 ns.length :: intsOf (ns.take k)).length (bvs (byte1 ns.length :: intsOf (ns.take k)))) (fun _ i _ => 20 - (intOf i).toNat)
  case atStart => exact ⟨0, by omega, rfl, bel2, sl2⟩
  case round =>
    clear sl2 bel2
    obtain ⟨k, hk, rfl, hbel, hsl⟩ := hrel
    by_cases hlt : k < ns.length
    · obtain ⟨bb, off, rfl, hbb, hcell⟩ := hrd.at_ (k := k) (by simpa using hlt)
      rw [← hbel.cell (p := ⟨bb, off + k, none⟩) hbb, List.getElem_map] at hcell
      have hlen : (byte1 ns.length :: intsOf (ns.take k)).length ≤ 1000000000 := by rw [List.length_cons, intsOf_length, List.length_take]; omega
      have hE := Lib.hid (show byte1 ns.length :: intsOf (ns.take (k + 1)) = (byte1 ns.length :: intsOf (ns.take k)) ++ le8 ns[k] by rw [List.take_succ_eq_append_getElem hlt, intsOf_snoc]; rfl)
      generalize ns[k] = z at hcell hE
      go_wp2_with fail
      refine (Int_any _ _ _ z wr hsl hlen).mono ?_
      rintro e' w3 ⟨v3, rfl, own3, bel3⟩
      rw [← hE.out] at own3
      have own3' := own_cast (m := (byte1 ns.length :: intsOf (ns.take (k + 1))).length) own3 (by rw [hE.out, List.length_append, le8_length]) rfl
      have hb3 := hbel.trans (bel3.mono hbel.size)
      clear own3 hsl hcell bel3 hbel hE
      go_wp2_with fail
      go_roundw
      case rel => exact ⟨k + 1, by omega, by go_num, hb3, Sl.of_own own3'⟩
      case measure => (simp [intOf] <;> omega)
    · obtain rfl : k = ns.length := by omega
      rw [List.take_length] at hsl
      clear hk hlt
      go_wp2_with fail
      go_loopw [5, 7] (fun u i wr => ∃ k : Nat, k ≤ ss.length ∧ i = .int .i64 k ∧ Below w.heap.size w wr ∧ (∀ (j : Nat) (hj : j < ss.length), j < k → ss[j].size ≤ 200) ∧ Sl wr wr.heap.size 1 u (byte1 ns.length :: (intsOf ns ++ textsOf (ss.take k))).length (bvs (byte1 ns.length :: (intsOf ns ++ textsOf (ss.take k))))) (fun _ i _ => 10 - (intOf i).toNat)
      case atStart => exact ⟨0, by omega, rfl, hbel, fun j hj h => by omega, by rw [List.take_zero, show textsOf [] = [] from rfl, List.append_nil]; exact hsl⟩
      case round =>
        clear hsl hbel
        obtain ⟨k, hk, rfl, hbel, hsz, hsl⟩ := hrel
        by_cases hlt : k < ss.length
        · obtain ⟨bb, off, rfl, hbb, hcell⟩ := hrd2.at_ (k := k) (by simpa using hlt)
          rw [← hbel.cell (p := ⟨bb, off + k, none⟩) hbb, List.getElem_map] at hcell
          have hlen : (byte1 ns.length :: (intsOf ns ++ textsOf (ss.take k))).length ≤ 1000000000 := by
            have := textsOf_length (ss.take k)
            rw [List.length_take] at this
            rw [List.length_cons, List.length_append, intsOf_length]; omega
          have hE := Lib.hid (show byte1 ns.length :: (intsOf ns ++ textsOf (ss.take (k + 1))) = (byte1 ns.length :: (intsOf ns ++ textsOf (ss.take k))) ++ textBytes ss[k].data.toList by rw [List.take_succ_eq_append_getElem hlt, textsOf_snoc]; simp only [List.cons_append, List.append_assoc])
          have hts := hs _ (List.getElem_mem hlt)
          have hsz' := Lib.hid (fun (h : ss[k].size ≤ 200) (j : Nat) (hj : j < ss.length) (hjk : j < k + 1) => show ss[j].size ≤ 200 by
            by_cases he : j = k
            · subst he; exact h
            · exact hsz j hj (by omega))
          clear hsz
          generalize ss[k] = t at hcell hE hts hsz'
          unfold maxLen at hts
          by_cases h200 : 200 < t.size
          · go_wp2_with fail
            go_ret
            exact ⟨rfl, hbel⟩
          go_wp2_with fail
          refine (Text_any _ _ t wr hsl hlen (by simp only [maxLen]; omega)).mono ?_
          rintro e' w3 ⟨v3, rfl, own3, bel3⟩
          rw [← hE.out] at own3
          have hb3 := hbel.trans (bel3.mono hbel.size)
          clear hsl hcell bel3 hbel hE
          go_wp2_with fail
          go_roundw
          case rel => exact ⟨k + 1, by omega, by go_num, hb3, hsz'.out (by omega), Sl.of_own own3⟩
          case measure => (simp [intOf] <;> omega)
        · obtain rfl : k = ss.length := by omega
          rw [List.take_length] at hsl
          have hsz' : ∀ (j : Nat) (hj : j < ss.length), ss[j].size ≤ 200 := fun j hj => hsz j hj hj
          have hall : allOf ns ss = byte1 ns.length :: (intsOf ns ++ textsOf ss) := rfl
          rw [← hall] at hsl
          have hEl : (allOf ns ss).length ≤ 1000000 := by
            have := textsOf_length ss
            rw [hall, List.length_cons, List.length_append, intsOf_length]; omega
          have hEp : 0 < (allOf ns ss).length := by rw [hall, List.length_cons]; omega
          clear hk hlt hsz hall
          have hsl0 := hsl
          obtain ⟨_, A5, c5, rfl, hn5, hm5, hA5, hrd5⟩ := hsl
          unfold maxLen at hm5
          obtain ⟨B5, hB5⟩ : ∃ B, B = wr.heap.size := ⟨_, rfl⟩
          rw [← hB5] at hsl0
          have hrf := Below.refl B5 wr
          have hB50 : w.heap.size ≤ B5 := by rw [hB5]; exact hbel.size
          have hB51 : B5 ≤ wr.heap.size := by omega
          clear hA5 hrd5 hB5
          go_wp2_with fail
          go_loopw [8] (fun i wr' => ∃ k : Nat, k ≤ 3 ∧ i = .int .i64 k ∧ Below w.heap.size w wr' ∧ B5 ≤ wr'.heap.size ∧ Sl wr' B5 1 (.slice A5 (allOf ns ss).length c5) (allOf ns ss).length (bvs (allOf ns ss))) (fun i _ => 3 - (intOf i).toNat)
          case atStart => exact ⟨0, by omega, rfl, hbel, hB51, hsl0⟩
          case round =>
            clear hsl0 hbel hB51 hrf
            obtain ⟨k, hk, rfl, hbel, hB, hsl⟩ := hrel
            rcases (show k = 3 ∨ k = 0 ∨ k = 1 ∨ k = 2 by omega) with rfl | rfl | rfl | rfl
            · go_wp2_with fail
              go_ret
              exact ⟨rfl, hbel⟩
            · go_wp2_with fail
              refine (New_any _ (allOf ns ss) _ (hsl.more hB) (by omega)).mono ?_
              rintro e' w4 ⟨g, rfl, hg, r4, belx⟩

              have bel4 : Below w.heap.size w w4 := hbel.trans (belx.mono hbel.size)
              have hg0 : B5 ≤ g := Nat.le_trans hB hg
              have hB4 : B5 ≤ w4.heap.size := Nat.le_trans hB belx.size
              have hsl4 : Sl w4 B5 1 (.slice A5 (allOf ns ss).length c5) (allOf ns ss).length (bvs (allOf ns ss)) := hsl.below (belx.mono hB)
              obtain ⟨K, hKe⟩ : ∃ K : Nat, K = 0 := ⟨_, rfl⟩
              have ST := St.zero (allOf ns ss)
              rw [← hKe] at ST
              have I4 : IsR w4 g g _ := r4

              generalize (⟨allOf ns ss, 0⟩ : RS) = s0 at ST I4
              clear r4 belx hg hk

              clear hsl hbel hB
              go_wp2_with fail
              refine (RByte1_any g g s0 w4 I4).mono ?_
              rintro e' w5 ⟨rfl, d5⟩
              have hb5 : Below B5 w4 w5 := d5.below (Below.refl _ _) hg0 hB4
              have hR5 := d5.is
              have ST5 := ST.byte (by omega) (by omega)
              rw [Bool.and_true] at ST5
              clear d5 ST I4
              generalize s0.readByte.2 = s5 at *
              generalize s0.readByte.1 = v5 at *
              go_wp2_with fail
              go_loopw [11, 12] (fun o i wr => ∃ (j : Nat) (s : RS) (ok : Bool), j ≤ ns.length ∧ i = .int .i64 j ∧ o = .bool ok ∧ IsR wr g g s ∧ St K (intsOf (ns.drop j) ++ textsOf ss) s ok ∧ Below B5 w4 wr) (fun _ i _ => 20 - (intOf i).toNat)
              case atStart => exact ⟨0, s5, _, by omega, rfl, rfl, hR5, ST5, hb5⟩
              case round =>
                clear hR5 ST5 hb5
                obtain ⟨j, s, ok, hj, rfl, rfl, hR, hST, hb⟩ := hrel
                by_cases hlt : j < ns.length
                · obtain ⟨bb, off, rfl, hbb, hcell⟩ := hrd.at_ (k := j) (by simpa using hlt)
                  rw [← (bel4.trans (hb.mono hB50)).cell (p := ⟨bb, off + j, none⟩) hbb, List.getElem_map] at hcell
                  have hgb : bb ≠ g := by omega
                  have hzj := hz _ (List.getElem_mem hlt)
                  rw [List.drop_eq_getElem_cons hlt, intsOf_cons, List.append_assoc] at hST
                  have hST' := Lib.hid (hST.int hzj.1 hzj.2)
                  clear hST
                  generalize ns[j] = z at hcell hzj hST'
                  by_cases hv : s.readInt.1 = z
                  · subst hv
                    have hST2 := Lib.hid (by simpa using hST'.out : St K (intsOf (ns.drop (j + 1)) ++ textsOf ss) s.readInt.2 ok)
                    clear hST' hzj
                    go_wp2_with fail
                    refine held_begin (fun W => W.cell? ⟨bb, off + j, none⟩ = some (.int .i64 s.readInt.1)) 11 #[false, false, false, false, false, false, false, false, false, false, false] (by kernel_rfl) (by kernel_rfl) (by kernel_rfl) ?_
                    refine held_take 0 90 10 #[true, false, false, false, false, false, false, false, false, false, false] (v := ?_) rfl rfl (by kernel_rfl) (by kernel_rfl) (by kernel_rfl) (by kernel_rfl) (fun _ _ _ h => h) (by rfl) ?_ hcell ?_
                    rotate_left
                    · intro W hS; go_simp; all_goals with_reducible rfl
                    try simp only [List.setIfInBounds_toArray, List.set_cons_succ, List.set_cons_zero]
                    refine held_take 2 92 9 #[true, false, true, false, false, false, false, false, false, false, false] (v := ?_) rfl rfl (by kernel_rfl) (by kernel_rfl) (by kernel_rfl) (by kernel_rfl) (fun _ _ _ h => h) (by rfl) ?_ hcell ?_
                    rotate_left
                    · intro W hS; go_simp; all_goals with_reducible rfl
                    try simp only [List.setIfInBounds_toArray, List.set_cons_succ, List.set_cons_zero]
                    refine held_take 3 93 8 #[true, false, true, true, false, false, false, false, false, false, false] (v := ?_) rfl rfl (by kernel_rfl) (by kernel_rfl) (by kernel_rfl) (by kernel_rfl) (fun _ _ _ h => h) (by rfl) ?_ hcell ?_
                    rotate_left
                    · intro W hS; go_simp; all_goals with_reducible rfl
                    try simp only [List.setIfInBounds_toArray, List.set_cons_succ, List.set_cons_zero]
                    refine held_take 4 94 7 #[true, false, true, true, true, false, false, false, false, false, false] (v := ?_) rfl rfl (by kernel_rfl) (by kernel_rfl) (by kernel_rfl) (by kernel_rfl) (fun _ _ _ h => h) (by rfl) ?_ hcell ?_
                    rotate_left
                    · intro W hS; go_simp; all_goals with_reducible rfl
                    try simp only [List.setIfInBounds_toArray, List.set_cons_succ, List.set_cons_zero]
                    refine held_take 5 95 6 #[true, false, true, true, true, true, false, false, false, false, false] (v := ?_) rfl rfl (by kernel_rfl) (by kernel_rfl) (by kernel_rfl) (by kernel_rfl) (fun _ _ _ h => h) (by rfl) ?_ hcell ?_
                    rotate_left
                    · intro W hS; go_simp; all_goals with_reducible rfl
                    try simp only [List.setIfInBounds_toArray, List.set_cons_succ, List.set_cons_zero]
                    refine held_call 1 5 #[true, true, true, true, true, true, false, false, false, false, false] (by kernel_rfl) rfl (by rfl) (by kernel_rfl) (fun K hK => ?_)
                    go_simp
                    refine (RInt8_any g g s wr.drew (hR.below (Below.refl _ _).drew)).mono ?_
                    rintro e' w6 ⟨rfl, d6⟩
                    have HS1 : (fun W => W.cell? ⟨bb, off + j, none⟩ = some (.int .i64 s.readInt.1)) w6 := d6.only.cell (w := wr.drew) hcell (by simpa using hgb)
                    have hR6 := d6.is
                    have hb6 : Below B5 w4 w6 := d6.below hb.drew hg0 (Nat.le_trans hB4 hb.size)
                    clear d6
                    refine hK _ _ HS1 ?_
                    clear hK K
                    refine held_take 6 96 4 #[true, true, true, true, true, true, true, false, false, false, false] (v := ?_) rfl rfl (by kernel_rfl) (by kernel_rfl) (by kernel_rfl) (by kernel_rfl) (fun _ _ _ h => h) (by rfl) ?_ HS1 ?_
                    rotate_left
                    · intro W hS; go_simp; all_goals with_reducible rfl
                    try simp only [List.setIfInBounds_toArray, List.set_cons_succ, List.set_cons_zero]
                    refine held_take 7 97 3 #[true, true, true, true, true, true, true, true, false, false, false] (v := ?_) rfl rfl (by kernel_rfl) (by kernel_rfl) (by kernel_rfl) (by kernel_rfl) (fun _ _ _ h => h) (by rfl) ?_ HS1 ?_
                    rotate_left
                    · intro W hS; go_simp; all_goals with_reducible rfl
                    try simp only [List.setIfInBounds_toArray, List.set_cons_succ, List.set_cons_zero]
                    refine held_take 8 98 2 #[true, true, true, true, true, true, true, true, true, false, false] (v := ?_) rfl rfl (by kernel_rfl) (by kernel_rfl) (by kernel_rfl) (by kernel_rfl) (fun _ _ _ h => h) (by rfl) ?_ HS1 ?_
                    rotate_left
                    · intro W hS; go_simp; all_goals with_reducible rfl
                    try simp only [List.setIfInBounds_toArray, List.set_cons_succ, List.set_cons_zero]
                    refine held_take 9 99 1 #[true, true, true, true, true, true, true, true, true, true, false] (v := ?_) rfl rfl (by kernel_rfl) (by kernel_rfl) (by kernel_rfl) (by kernel_rfl) (fun _ _ _ h => h) (by rfl) ?_ HS1 ?_
                    rotate_left
                    · intro W hS; go_simp; all_goals with_reducible rfl
                    try simp only [List.setIfInBounds_toArray, List.set_cons_succ, List.set_cons_zero]
                    refine held_take 10 11 0 #[true, true, true, true, true, true, true, true, true, true, true] (v := ?_) rfl rfl (by kernel_rfl) (by kernel_rfl) (by kernel_rfl) (by kernel_rfl) (fun _ _ _ h => h) (by rfl) ?_ HS1 ?_
                    rotate_left
                    · intro W hS; go_simp; all_goals with_reducible rfl
                    try simp only [List.setIfInBounds_toArray, List.set_cons_succ, List.set_cons_zero]
                    refine wpAnyH_done (by kernel_rfl) ?_ _
                    go_wp2_with fail
                    go_roundw
                    case rel => exact ⟨j + 1, _, _, by omega, by go_num, rfl, hR6, hST2.out, hb6⟩
                    case measure => (simp [intOf] <;> omega)
                  · have hST2 := Lib.hid (by simpa [hv] using hST'.out : St K (intsOf (ns.drop (j + 1)) ++ textsOf ss) s.readInt.2 false)
                    clear hST' hzj
                    go_wp2_with fail
                    refine held_begin (fun W => W.cell? ⟨bb, off + j, none⟩ = some (.int .i64 z)) 11 #[false, false, false, false, false, false, false, false, false, false, false] (by kernel_rfl) (by kernel_rfl) (by kernel_rfl) ?_
                    refine held_take 0 90 10 #[true, false, false, false, false, false, false, false, false, false, false] (v := ?_) rfl rfl (by kernel_rfl) (by kernel_rfl) (by kernel_rfl) (by kernel_rfl) (fun _ _ _ h => h) (by rfl) ?_ hcell ?_
                    rotate_left
                    · intro W hS; go_simp; all_goals with_reducible rfl
                    try simp only [List.setIfInBounds_toArray, List.set_cons_succ, List.set_cons_zero]
                    refine held_take 2 92 9 #[true, false, true, false, false, false, false, false, false, false, false] (v := ?_) rfl rfl (by kernel_rfl) (by kernel_rfl) (by kernel_rfl) (by kernel_rfl) (fun _ _ _ h => h) (by rfl) ?_ hcell ?_
                    rotate_left
                    · intro W hS; go_simp; all_goals with_reducible rfl
                    try simp only [List.setIfInBounds_toArray, List.set_cons_succ, List.set_cons_zero]
                    refine held_take 3 93 8 #[true, false, true, true, false, false, false, false, false, false, false] (v := ?_) rfl rfl (by kernel_rfl) (by kernel_rfl) (by kernel_rfl) (by kernel_rfl) (fun _ _ _ h => h) (by rfl) ?_ hcell ?_
                    rotate_left
                    · intro W hS; go_simp; all_goals with_reducible rfl
                    try simp only [List.setIfInBounds_toArray, List.set_cons_succ, List.set_cons_zero]
                    refine held_take 4 94 7 #[true, false, true, true, true, false, false, false, false, false, false] (v := ?_) rfl rfl (by kernel_rfl) (by kernel_rfl) (by kernel_rfl) (by kernel_rfl) (fun _ _ _ h => h) (by rfl) ?_ hcell ?_
                    rotate_left
                    · intro W hS; go_simp; all_goals with_reducible rfl
                    try simp only [List.setIfInBounds_toArray, List.set_cons_succ, List.set_cons_zero]
                    refine held_take 5 95 6 #[true, false, true, true, true, true, false, false, false, false, false] (v := ?_) rfl rfl (by kernel_rfl) (by kernel_rfl) (by kernel_rfl) (by kernel_rfl) (fun _ _ _ h => h) (by rfl) ?_ hcell ?_
                    rotate_left
                    · intro W hS; go_simp; all_goals with_reducible rfl
                    try simp only [List.setIfInBounds_toArray, List.set_cons_succ, List.set_cons_zero]
                    refine held_call 1 5 #[true, true, true, true, true, true, false, false, false, false, false] (by kernel_rfl) rfl (by rfl) (by kernel_rfl) (fun K hK => ?_)
                    go_simp
                    refine (RInt8_any g g s wr.drew (hR.below (Below.refl _ _).drew)).mono ?_
                    rintro e' w6 ⟨rfl, d6⟩
                    have HS1 : (fun W => W.cell? ⟨bb, off + j, none⟩ = some (.int .i64 z)) w6 := d6.only.cell (w := wr.drew) hcell (by simpa using hgb)
                    have hR6 := d6.is
                    have hb6 : Below B5 w4 w6 := d6.below hb.drew hg0 (Nat.le_trans hB4 hb.size)
                    clear d6
                    refine hK _ _ HS1 ?_
                    clear hK K
                    refine held_take 6 96 4 #[true, true, true, true, true, true, true, false, false, false, false] (v := ?_) rfl rfl (by kernel_rfl) (by kernel_rfl) (by kernel_rfl) (by kernel_rfl) (fun _ _ _ h => h) (by rfl) ?_ HS1 ?_
                    rotate_left
                    · intro W hS; have hd : (s.readInt.1 == z) = false := by simpa using hv
                      go_simp; go_simp; all_goals with_reducible rfl
                    try simp only [List.setIfInBounds_toArray, List.set_cons_succ, List.set_cons_zero]
                    refine held_take 7 97 3 #[true, true, true, true, true, true, true, true, false, false, false] (v := ?_) rfl rfl (by kernel_rfl) (by kernel_rfl) (by kernel_rfl) (by kernel_rfl) (fun _ _ _ h => h) (by rfl) ?_ HS1 ?_
                    rotate_left
                    · intro W hS; go_simp; all_goals with_reducible rfl
                    try simp only [List.setIfInBounds_toArray, List.set_cons_succ, List.set_cons_zero]
                    refine held_skip 8 98 2 #[true, true, true, true, true, true, true, true, true, false, false] rfl rfl (by kernel_rfl) (by kernel_rfl) (by kernel_rfl) (by kernel_rfl) (fun _ _ _ h => h) (by rfl) HS1 ?_
                    try simp only [List.setIfInBounds_toArray, List.set_cons_succ, List.set_cons_zero]
                    refine held_take 9 99 1 #[true, true, true, true, true, true, true, true, true, true, false] (v := ?_) rfl rfl (by kernel_rfl) (by kernel_rfl) (by kernel_rfl) (by kernel_rfl) (fun _ _ _ h => h) (by rfl) ?_ HS1 ?_
                    rotate_left
                    · intro W hS; go_simp; all_goals with_reducible rfl
                    try simp only [List.setIfInBounds_toArray, List.set_cons_succ, List.set_cons_zero]
                    refine held_take 10 11 0 #[true, true, true, true, true, true, true, true, true, true, true] (v := ?_) rfl rfl (by kernel_rfl) (by kernel_rfl) (by kernel_rfl) (by kernel_rfl) (fun _ _ _ h => h) (by rfl) ?_ HS1 ?_
                    rotate_left
                    · intro W hS; go_simp; all_goals with_reducible rfl
                    try simp only [List.setIfInBounds_toArray, List.set_cons_succ, List.set_cons_zero]
                    refine wpAnyH_done (by kernel_rfl) ?_ _
                    go_wp2_with fail
                    go_roundw
                    case rel => exact ⟨j + 1, _, _, by omega, by go_num, rfl, hR6, hST2.out, hb6⟩
                    case measure => (simp [intOf] <;> omega)
                · obtain rfl : j = ns.length := by omega
                  rw [List.drop_length, show intsOf [] = [] from rfl, List.nil_append] at hST
                  clear hj hlt
                  go_wp2_with fail
                  go_loopw [11, 13] (fun o i wr => ∃ (j : Nat) (s : RS) (ok : Bool), j ≤ ss.length ∧ i = .int .i64 j ∧ o = .bool ok ∧ IsR wr g g s ∧ St K (textsOf (ss.drop j)) s ok ∧ Below B5 w4 wr) (fun _ i _ => 10 - (intOf i).toNat)
                  case atStart => exact ⟨0, s, ok, by omega, rfl, rfl, hR, hST, hb⟩
                  case round =>
                    clear hR hST hb
                    obtain ⟨j, s, ok, hj, rfl, rfl, hR, hST, hb⟩ := hrel
                    by_cases hlt : j < ss.length
                    · obtain ⟨bb, off, rfl, hbb, hcell⟩ := hrd2.at_ (k := j) (by simpa using hlt)
                      rw [← (bel4.trans (hb.mono hB50)).cell (p := ⟨bb, off + j, none⟩) hbb, List.getElem_map] at hcell
                      have hgb : bb ≠ g := by omega
                      have hsj := hsz' j hlt
                      rw [List.drop_eq_getElem_cons hlt, textsOf_cons] at hST
                      have hST' := Lib.hid (hST.text (by rw [str_data]; omega))
                      clear hST
                      generalize ss[j] = t at hcell hsj hST'
                      by_cases hv : strOf s.readText.1 = t
                      · have hv2 := (strOf_eq _ _).1 hv
                        have hST2 := Lib.hid (by simpa [hv2] using hST'.out : St K (textsOf (ss.drop (j + 1))) s.readText.2 ok)
                        clear hST' hsj hv2
                        subst hv
                        go_wp2_with fail
                        refine held_begin (fun W => W.cell? ⟨bb, off + j, none⟩ = some (.string (strOf s.readText.1))) 11 #[false, false, false, false, false, false, false, false, false, false, false] (by kernel_rfl) (by kernel_rfl) (by kernel_rfl) ?_
                        refine held_take 0 106 10 #[true, false, false, false, false, false, false, false, false, false, false] (v := ?_) rfl rfl (by kernel_rfl) (by kernel_rfl) (by kernel_rfl) (by kernel_rfl) (fun _ _ _ h => h) (by rfl) ?_ hcell ?_
                        rotate_left
                        · intro W hS; go_simp; all_goals with_reducible rfl
                        try simp only [List.setIfInBounds_toArray, List.set_cons_succ, List.set_cons_zero]
                        refine held_take 2 108 9 #[true, false, true, false, false, false, false, false, false, false, false] (v := ?_) rfl rfl (by kernel_rfl) (by kernel_rfl) (by kernel_rfl) (by kernel_rfl) (fun _ _ _ h => h) (by rfl) ?_ hcell ?_
                        rotate_left
                        · intro W hS; go_simp; all_goals with_reducible rfl
                        try simp only [List.setIfInBounds_toArray, List.set_cons_succ, List.set_cons_zero]
                        refine held_take 3 109 8 #[true, false, true, true, false, false, false, false, false, false, false] (v := ?_) rfl rfl (by kernel_rfl) (by kernel_rfl) (by kernel_rfl) (by kernel_rfl) (fun _ _ _ h => h) (by rfl) ?_ hcell ?_
                        rotate_left
                        · intro W hS; go_simp; all_goals with_reducible rfl
                        try simp only [List.setIfInBounds_toArray, List.set_cons_succ, List.set_cons_zero]
                        refine held_take 4 110 7 #[true, false, true, true, true, false, false, false, false, false, false] (v := ?_) rfl rfl (by kernel_rfl) (by kernel_rfl) (by kernel_rfl) (by kernel_rfl) (fun _ _ _ h => h) (by rfl) ?_ hcell ?_
                        rotate_left
                        · intro W hS; go_simp; all_goals with_reducible rfl
                        try simp only [List.setIfInBounds_toArray, List.set_cons_succ, List.set_cons_zero]
                        refine held_take 5 111 6 #[true, false, true, true, true, true, false, false, false, false, false] (v := ?_) rfl rfl (by kernel_rfl) (by kernel_rfl) (by kernel_rfl) (by kernel_rfl) (fun _ _ _ h => h) (by rfl) ?_ hcell ?_
                        rotate_left
                        · intro W hS; go_simp; all_goals with_reducible rfl
                        try simp only [List.setIfInBounds_toArray, List.set_cons_succ, List.set_cons_zero]
                        refine held_call 1 5 #[true, true, true, true, true, true, false, false, false, false, false] (by kernel_rfl) rfl (by rfl) (by kernel_rfl) (fun K hK => ?_)
                        go_simp
                        refine (RText_read g g s wr.drew (hR.below (Below.refl _ _).drew)).mono ?_
                        rintro e' w6 ⟨rfl, d6⟩
                        have HS1 : (fun W => W.cell? ⟨bb, off + j, none⟩ = some (.string (strOf s.readText.1))) w6 := d6.only.cell (w := wr.drew) hcell (by simpa using hgb)
                        have hR6 := d6.is
                        have hb6 : Below B5 w4 w6 := d6.below hb.drew hg0 (Nat.le_trans hB4 hb.size)
                        clear d6
                        refine hK _ _ HS1 ?_
                        clear hK K
                        refine held_take 6 112 4 #[true, true, true, true, true, true, true, false, false, false, false] (v := ?_) rfl rfl (by kernel_rfl) (by kernel_rfl) (by kernel_rfl) (by kernel_rfl) (fun _ _ _ h => h) (by rfl) ?_ HS1 ?_
                        rotate_left
                        · intro W hS; go_simp; all_goals with_reducible rfl
                        try simp only [List.setIfInBounds_toArray, List.set_cons_succ, List.set_cons_zero]
                        refine held_take 7 113 3 #[true, true, true, true, true, true, true, true, false, false, false] (v := ?_) rfl rfl (by kernel_rfl) (by kernel_rfl) (by kernel_rfl) (by kernel_rfl) (fun _ _ _ h => h) (by rfl) ?_ HS1 ?_
                        rotate_left
                        · intro W hS; go_simp; all_goals with_reducible rfl
                        try simp only [List.setIfInBounds_toArray, List.set_cons_succ, List.set_cons_zero]
                        refine held_take 8 114 2 #[true, true, true, true, true, true, true, true, true, false, false] (v := ?_) rfl rfl (by kernel_rfl) (by kernel_rfl) (by kernel_rfl) (by kernel_rfl) (fun _ _ _ h => h) (by rfl) ?_ HS1 ?_
                        rotate_left
                        · intro W hS; go_simp; all_goals with_reducible rfl
                        try simp only [List.setIfInBounds_toArray, List.set_cons_succ, List.set_cons_zero]
                        refine held_take 9 115 1 #[true, true, true, true, true, true, true, true, true, true, false] (v := ?_) rfl rfl (by kernel_rfl) (by kernel_rfl) (by kernel_rfl) (by kernel_rfl) (fun _ _ _ h => h) (by rfl) ?_ HS1 ?_
                        rotate_left
                        · intro W hS; go_simp; all_goals with_reducible rfl
                        try simp only [List.setIfInBounds_toArray, List.set_cons_succ, List.set_cons_zero]
                        refine held_take 10 11 0 #[true, true, true, true, true, true, true, true, true, true, true] (v := ?_) rfl rfl (by kernel_rfl) (by kernel_rfl) (by kernel_rfl) (by kernel_rfl) (fun _ _ _ h => h) (by rfl) ?_ HS1 ?_
                        rotate_left
                        · intro W hS; go_simp; all_goals with_reducible rfl
                        try simp only [List.setIfInBounds_toArray, List.set_cons_succ, List.set_cons_zero]
                        refine wpAnyH_done (by kernel_rfl) ?_ _
                        go_wp2_with fail
                        go_roundw
                        case rel => exact ⟨j + 1, _, _, by omega, by go_num, rfl, hR6, hST2.out, hb6⟩
                        case measure => (simp [intOf] <;> omega)
                      · have hv2 : ¬ s.readText.1 = t.data.toList := fun h => hv ((strOf_eq _ _).2 h)
                        have hST2 := Lib.hid (by simpa [hv2] using hST'.out : St K (textsOf (ss.drop (j + 1))) s.readText.2 false)
                        clear hST' hsj
                        go_wp2_with fail
                        refine held_begin (fun W => W.cell? ⟨bb, off + j, none⟩ = some (.string t)) 11 #[false, false, false, false, false, false, false, false, false, false, false] (by kernel_rfl) (by kernel_rfl) (by kernel_rfl) ?_
                        refine held_take 0 106 10 #[true, false, false, false, false, false, false, false, false, false, false] (v := ?_) rfl rfl (by kernel_rfl) (by kernel_rfl) (by kernel_rfl) (by kernel_rfl) (fun _ _ _ h => h) (by rfl) ?_ hcell ?_
                        rotate_left
                        · intro W hS; go_simp; all_goals with_reducible rfl
                        try simp only [List.setIfInBounds_toArray, List.set_cons_succ, List.set_cons_zero]
                        refine held_take 2 108 9 #[true, false, true, false, false, false, false, false, false, false, false] (v := ?_) rfl rfl (by kernel_rfl) (by kernel_rfl) (by kernel_rfl) (by kernel_rfl) (fun _ _ _ h => h) (by rfl) ?_ hcell ?_
                        rotate_left
                        · intro W hS; go_simp; all_goals with_reducible rfl
                        try simp only [List.setIfInBounds_toArray, List.set_cons_succ, List.set_cons_zero]
                        refine held_take 3 109 8 #[true, false, true, true, false, false, false, false, false, false, false] (v := ?_) rfl rfl (by kernel_rfl) (by kernel_rfl) (by kernel_rfl) (by kernel_rfl) (fun _ _ _ h => h) (by rfl) ?_ hcell ?_
                        rotate_left
                        · intro W hS; go_simp; all_goals with_reducible rfl
                        try simp only [List.setIfInBounds_toArray, List.set_cons_succ, List.set_cons_zero]
                        refine held_take 4 110 7 #[true, false, true, true, true, false, false, false, false, false, false] (v := ?_) rfl rfl (by kernel_rfl) (by kernel_rfl) (by kernel_rfl) (by kernel_rfl) (fun _ _ _ h => h) (by rfl) ?_ hcell ?_
                        rotate_left
                        · intro W hS; go_simp; all_goals with_reducible rfl
                        try simp only [List.setIfInBounds_toArray, List.set_cons_succ, List.set_cons_zero]
                        refine held_take 5 111 6 #[true, false, true, true, true, true, false, false, false, false, false] (v := ?_) rfl rfl (by kernel_rfl) (by kernel_rfl) (by kernel_rfl) (by kernel_rfl) (fun _ _ _ h => h) (by rfl) ?_ hcell ?_
                        rotate_left
                        · intro W hS; go_simp; all_goals with_reducible rfl
                        try simp only [List.setIfInBounds_toArray, List.set_cons_succ, List.set_cons_zero]
                        refine held_call 1 5 #[true, true, true, true, true, true, false, false, false, false, false] (by kernel_rfl) rfl (by rfl) (by kernel_rfl) (fun K hK => ?_)
                        go_simp
                        refine (RText_read g g s wr.drew (hR.below (Below.refl _ _).drew)).mono ?_
                        rintro e' w6 ⟨rfl, d6⟩
                        have HS1 : (fun W => W.cell? ⟨bb, off + j, none⟩ = some (.string t)) w6 := d6.only.cell (w := wr.drew) hcell (by simpa using hgb)
                        have hR6 := d6.is
                        have hb6 : Below B5 w4 w6 := d6.below hb.drew hg0 (Nat.le_trans hB4 hb.size)
                        clear d6
                        refine hK _ _ HS1 ?_
                        clear hK K
                        refine held_take 6 112 4 #[true, true, true, true, true, true, true, false, false, false, false] (v := ?_) rfl rfl (by kernel_rfl) (by kernel_rfl) (by kernel_rfl) (by kernel_rfl) (fun _ _ _ h => h) (by rfl) ?_ HS1 ?_
                        rotate_left
                        · intro W hS; have hd : ((strOf s.readText.1).toList == t.toList) = false := by rw [strOf_toList, toList_data]; simpa using hv2
                          go_simp; go_simp; all_goals with_reducible rfl
                        try simp only [List.setIfInBounds_toArray, List.set_cons_succ, List.set_cons_zero]
                        refine held_take 7 113 3 #[true, true, true, true, true, true, true, true, false, false, false] (v := ?_) rfl rfl (by kernel_rfl) (by kernel_rfl) (by kernel_rfl) (by kernel_rfl) (fun _ _ _ h => h) (by rfl) ?_ HS1 ?_
                        rotate_left
                        · intro W hS; go_simp; all_goals with_reducible rfl
                        try simp only [List.setIfInBounds_toArray, List.set_cons_succ, List.set_cons_zero]
                        refine held_skip 8 114 2 #[true, true, true, true, true, true, true, true, true, false, false] rfl rfl (by kernel_rfl) (by kernel_rfl) (by kernel_rfl) (by kernel_rfl) (fun _ _ _ h => h) (by rfl) HS1 ?_
                        try simp only [List.setIfInBounds_toArray, List.set_cons_succ, List.set_cons_zero]
                        refine held_take 9 115 1 #[true, true, true, true, true, true, true, true, true, true, false] (v := ?_) rfl rfl (by kernel_rfl) (by kernel_rfl) (by kernel_rfl) (by kernel_rfl) (fun _ _ _ h => h) (by rfl) ?_ HS1 ?_
                        rotate_left
                        · intro W hS; go_simp; all_goals with_reducible rfl
                        try simp only [List.setIfInBounds_toArray, List.set_cons_succ, List.set_cons_zero]
                        refine held_take 10 11 0 #[true, true, true, true, true, true, true, true, true, true, true] (v := ?_) rfl rfl (by kernel_rfl) (by kernel_rfl) (by kernel_rfl) (by kernel_rfl) (fun _ _ _ h => h) (by rfl) ?_ HS1 ?_
                        rotate_left
                        · intro W hS; go_simp; all_goals with_reducible rfl
                        try simp only [List.setIfInBounds_toArray, List.set_cons_succ, List.set_cons_zero]
                        refine wpAnyH_done (by kernel_rfl) ?_ _
                        go_wp2_with fail
                        go_roundw
                        case rel => exact ⟨j + 1, _, _, by omega, by go_num, rfl, hR6, hST2.out, hb6⟩
                        case measure => (simp [intOf] <;> omega)
                    · obtain rfl : j = ss.length := by omega
                      rw [List.drop_length, show textsOf [] = [] from rfl] at hST
                      clear hj hlt
                      have hfin := bel4.trans (hb.mono hB50)
                      have hsl6 := hsl4.below hb
                      have hB6 := Nat.le_trans hB4 hb.size
                      have E := End_any g g s wr hR
                      rcases hST.end_ with ⟨hK1, he, rfl⟩ | ⟨hK1, he, rfl⟩ | ⟨hK1, he⟩
                      all_goals first
                        | (exfalso; omega)
                        | (rw [he] at E
                           have E' := Lib.hid E
                           clear E hST hR hb he hK1 hKe
                           go_wp2_with fail
                           refine E'.out.mono ?_
                           rintro e' ww ⟨rfl, rfl⟩
                           go_wp2_with fail
                           go_roundw
                           case rel => exact ⟨1, by omega, by go_num, hfin, hB6, hsl6⟩
                           case measure => (simp [intOf] <;> omega))
            · have hown1 := World.ownsRow_made (e := 5) (size := 1) wr #[] 0 (Nat.le_refl _) (Nat.zero_le _) (by simp)
              go_wp2_with (first | (at_builtin; refine wpList_append _ rfl (.tmp 65) (.tmp 66) rfl (run_append_rd _ T8 _ hown1 ((hsl.more hB).alloc (Nat.le_refl _) _) (bvs_one _) (by simp only [maxLen]; omega) (by omega) (by simp)) rfl rfl ?_; intro v1 w5 ap1; have hs1 := ap1.grown.size) | (at_builtin; refine wpList_append _ rfl (.tmp 67) (.tmp 68) rfl (run_append_rd _ T8 _ (ap1.own.alloc _) (Sl.new w5 _ _ 1 1 rfl (by simp [maxLen])) (by intro u hu; simp at hu; subst hu; rfl) (by simp only [maxLen]; omega) (by omega) (by simp at hs1 ⊢; omega)) rfl rfl ?_; intro v2 w6 ap2))
              have b1 : Below wr.heap.size wr w5 := ap1.below ((Below.refl _ _).alloc (Nat.le_refl _) _) hown1 (Nat.le_refl _) (by simp)
              have b2 : Below wr.heap.size wr w6 := ap2.below (b1.alloc b1.size _) (ap1.own.alloc _) (Nat.le_refl _) (by have := b1.size; simp; omega)
              have slx : Sl w6 w6.heap.size 1 v2 (allOf ns ss ++ [7]).length (bvs (allOf ns ss ++ [7])) := Sl.of_own (own_cast ap2.own (by rw [List.length_append]; simp) (by rw [bvs_append]; rfl))
              clear ap1 ap2 hown1 hs1
              refine (New_any v2 (allOf ns ss ++ [7]) w6 slx (by rw [List.length_append]; simp; omega)).mono ?_
              rintro e' w4 ⟨g, rfl, hg, r4, belx⟩
              have bx : Below wr.heap.size wr w4 := b2.trans (belx.mono b2.size)

              have bel4 : Below w.heap.size w w4 := hbel.trans (bx.mono hbel.size)
              have hg0 : B5 ≤ g := Nat.le_trans hB (Nat.le_trans b2.size hg)
              have hB4 : B5 ≤ w4.heap.size := Nat.le_trans hB bx.size
              have hsl4 : Sl w4 B5 1 (.slice A5 (allOf ns ss).length c5) (allOf ns ss).length (bvs (allOf ns ss)) := hsl.below (bx.mono hB)
              obtain ⟨K, hKe⟩ : ∃ K : Nat, K = 1 := ⟨_, rfl⟩
              have ST := St.one (allOf ns ss)
              rw [← hKe] at ST
              have I4 : IsR w4 g g _ := r4

              generalize (⟨allOf ns ss ++ [7], 0⟩ : RS) = s0 at ST I4
              clear r4 belx hg hk b1 b2 bx slx

              clear hsl hbel hB
              go_wp2_with fail
              refine (RByte1_any g g s0 w4 I4).mono ?_
              rintro e' w5 ⟨rfl, d5⟩
              have hb5 : Below B5 w4 w5 := d5.below (Below.refl _ _) hg0 hB4
              have hR5 := d5.is
              have ST5 := ST.byte (by omega) (by omega)
              rw [Bool.and_true] at ST5
              clear d5 ST I4
              generalize s0.readByte.2 = s5 at *
              generalize s0.readByte.1 = v5 at *
              go_wp2_with fail
              go_loopw [11, 12] (fun o i wr => ∃ (j : Nat) (s : RS) (ok : Bool), j ≤ ns.length ∧ i = .int .i64 j ∧ o = .bool ok ∧ IsR wr g g s ∧ St K (intsOf (ns.drop j) ++ textsOf ss) s ok ∧ Below B5 w4 wr) (fun _ i _ => 20 - (intOf i).toNat)
              case atStart => exact ⟨0, s5, _, by omega, rfl, rfl, hR5, ST5, hb5⟩
              case round =>
                clear hR5 ST5 hb5
                obtain ⟨j, s, ok, hj, rfl, rfl, hR, hST, hb⟩ := hrel
                by_cases hlt : j < ns.length
                · obtain ⟨bb, off, rfl, hbb, hcell⟩ := hrd.at_ (k := j) (by simpa using hlt)
                  rw [← (bel4.trans (hb.mono hB50)).cell (p := ⟨bb, off + j, none⟩) hbb, List.getElem_map] at hcell
                  have hgb : bb ≠ g := by omega
                  have hzj := hz _ (List.getElem_mem hlt)
                  rw [List.drop_eq_getElem_cons hlt, intsOf_cons, List.append_assoc] at hST
                  have hST' := Lib.hid (hST.int hzj.1 hzj.2)
                  clear hST
                  generalize ns[j] = z at hcell hzj hST'
                  by_cases hv : s.readInt.1 = z
                  · subst hv
                    have hST2 := Lib.hid (by simpa using hST'.out : St K (intsOf (ns.drop (j + 1)) ++ textsOf ss) s.readInt.2 ok)
                    clear hST' hzj
                    go_wp2_with fail
                    refine held_begin (fun W => W.cell? ⟨bb, off + j, none⟩ = some (.int .i64 s.readInt.1)) 11 #[false, false, false, false, false, false, false, false, false, false, false] (by kernel_rfl) (by kernel_rfl) (by kernel_rfl) ?_
                    refine held_take 0 90 10 #[true, false, false, false, false, false, false, false, false, false, false] (v := ?_) rfl rfl (by kernel_rfl) (by kernel_rfl) (by kernel_rfl) (by kernel_rfl) (fun _ _ _ h => h) (by rfl) ?_ hcell ?_
                    rotate_left
                    · intro W hS; go_simp; all_goals with_reducible rfl
                    try simp only [List.setIfInBounds_toArray, List.set_cons_succ, List.set_cons_zero]
                    refine held_take 2 92 9 #[true, false, true, false, false, false, false, false, false, false, false] (v := ?_) rfl rfl (by kernel_rfl) (by kernel_rfl) (by kernel_rfl) (by kernel_rfl) (fun _ _ _ h => h) (by rfl) ?_ hcell ?_
                    rotate_left
                    · intro W hS; go_simp; all_goals with_reducible rfl
                    try simp only [List.setIfInBounds_toArray, List.set_cons_succ, List.set_cons_zero]
                    refine held_take 3 93 8 #[true, false, true, true, false, false, false, false, false, false, false] (v := ?_) rfl rfl (by kernel_rfl) (by kernel_rfl) (by kernel_rfl) (by kernel_rfl) (fun _ _ _ h => h) (by rfl) ?_ hcell ?_
                    rotate_left
                    · intro W hS; go_simp; all_goals with_reducible rfl
                    try simp only [List.setIfInBounds_toArray, List.set_cons_succ, List.set_cons_zero]
                    refine held_take 4 94 7 #[true, false, true, true, true, false, false, false, false, false, false] (v := ?_) rfl rfl (by kernel_rfl) (by kernel_rfl) (by kernel_rfl) (by kernel_rfl) (fun _ _ _ h => h) (by rfl) ?_ hcell ?_
                    rotate_left
                    · intro W hS; go_simp; all_goals with_reducible rfl
                    try simp only [List.setIfInBounds_toArray, List.set_cons_succ, List.set_cons_zero]
                    refine held_take 5 95 6 #[true, false, true, true, true, true, false, false, false, false, false] (v := ?_) rfl rfl (by kernel_rfl) (by kernel_rfl) (by kernel_rfl) (by kernel_rfl) (fun _ _ _ h => h) (by rfl) ?_ hcell ?_
                    rotate_left
                    · intro W hS; go_simp; all_goals with_reducible rfl
                    try simp only [List.setIfInBounds_toArray, List.set_cons_succ, List.set_cons_zero]
                    refine held_call 1 5 #[true, true, true, true, true, true, false, false, false, false, false] (by kernel_rfl) rfl (by rfl) (by kernel_rfl) (fun K hK => ?_)
                    go_simp
                    refine (RInt8_any g g s wr.drew (hR.below (Below.refl _ _).drew)).mono ?_
                    rintro e' w6 ⟨rfl, d6⟩
                    have HS1 : (fun W => W.cell? ⟨bb, off + j, none⟩ = some (.int .i64 s.readInt.1)) w6 := d6.only.cell (w := wr.drew) hcell (by simpa using hgb)
                    have hR6 := d6.is
                    have hb6 : Below B5 w4 w6 := d6.below hb.drew hg0 (Nat.le_trans hB4 hb.size)
                    clear d6
                    refine hK _ _ HS1 ?_
                    clear hK K
                    refine held_take 6 96 4 #[true, true, true, true, true, true, true, false, false, false, false] (v := ?_) rfl rfl (by kernel_rfl) (by kernel_rfl) (by kernel_rfl) (by kernel_rfl) (fun _ _ _ h => h) (by rfl) ?_ HS1 ?_
                    rotate_left
                    · intro W hS; go_simp; all_goals with_reducible rfl
                    try simp only [List.setIfInBounds_toArray, List.set_cons_succ, List.set_cons_zero]
                    refine held_take 7 97 3 #[true, true, true, true, true, true, true, true, false, false, false] (v := ?_) rfl rfl (by kernel_rfl) (by kernel_rfl) (by kernel_rfl) (by kernel_rfl) (fun _ _ _ h => h) (by rfl) ?_ HS1 ?_
                    rotate_left
                    · intro W hS; go_simp; all_goals with_reducible rfl
                    try simp only [List.setIfInBounds_toArray, List.set_cons_succ, List.set_cons_zero]
                    refine held_take 8 98 2 #[true, true, true, true, true, true, true, true, true, false, false] (v := ?_) rfl rfl (by kernel_rfl) (by kernel_rfl) (by kernel_rfl) (by kernel_rfl) (fun _ _ _ h => h) (by rfl) ?_ HS1 ?_
                    rotate_left
                    · intro W hS; go_simp; all_goals with_reducible rfl
                    try simp only [List.setIfInBounds_toArray, List.set_cons_succ, List.set_cons_zero]
                    refine held_take 9 99 1 #[true, true, true, true, true, true, true, true, true, true, false] (v := ?_) rfl rfl (by kernel_rfl) (by kernel_rfl) (by kernel_rfl) (by kernel_rfl) (fun _ _ _ h => h) (by rfl) ?_ HS1 ?_
                    rotate_left
                    · intro W hS; go_simp; all_goals with_reducible rfl
                    try simp only [List.setIfInBounds_toArray, List.set_cons_succ, List.set_cons_zero]
                    refine held_take 10 11 0 #[true, true, true, true, true, true, true, true, true, true, true] (v := ?_) rfl rfl (by kernel_rfl) (by kernel_rfl) (by kernel_rfl) (by kernel_rfl) (fun _ _ _ h => h) (by rfl) ?_ HS1 ?_
                    rotate_left
                    · intro W hS; go_simp; all_goals with_reducible rfl
                    try simp only [List.setIfInBounds_toArray, List.set_cons_succ, List.set_cons_zero]
                    refine wpAnyH_done (by kernel_rfl) ?_ _
                    go_wp2_with fail
                    go_roundw
                    case rel => exact ⟨j + 1, _, _, by omega, by go_num, rfl, hR6, hST2.out, hb6⟩
                    case measure => (simp [intOf] <;> omega)
                  · have hST2 := Lib.hid (by simpa [hv] using hST'.out : St K (intsOf (ns.drop (j + 1)) ++ textsOf ss) s.readInt.2 false)
                    clear hST' hzj
                    go_wp2_with fail
                    refine held_begin (fun W => W.cell? ⟨bb, off + j, none⟩ = some (.int .i64 z)) 11 #[false, false, false, false, false, false, false, false, false, false, false] (by kernel_rfl) (by kernel_rfl) (by kernel_rfl) ?_
                    refine held_take 0 90 10 #[true, false, false, false, false, false, false, false, false, false, false] (v := ?_) rfl rfl (by kernel_rfl) (by kernel_rfl) (by kernel_rfl) (by kernel_rfl) (fun _ _ _ h => h) (by rfl) ?_ hcell ?_
                    rotate_left
                    · intro W hS; go_simp; all_goals with_reducible rfl
                    try simp only [List.setIfInBounds_toArray, List.set_cons_succ, List.set_cons_zero]
                    refine held_take 2 92 9 #[true, false, true, false, false, false, false, false, false, false, false] (v := ?_) rfl rfl (by kernel_rfl) (by kernel_rfl) (by kernel_rfl) (by kernel_rfl) (fun _ _ _ h => h) (by rfl) ?_ hcell ?_
                    rotate_left
                    · intro W hS; go_simp; all_goals with_reducible rfl
                    try simp only [List.setIfInBounds_toArray, List.set_cons_succ, List.set_cons_zero]
                    refine held_take 3 93 8 #[true, false, true, true, false, false, false, false, false, false, false] (v := ?_) rfl rfl (by kernel_rfl) (by kernel_rfl) (by kernel_rfl) (by kernel_rfl) (fun _ _ _ h => h) (by rfl) ?_ hcell ?_
                    rotate_left
                    · intro W hS; go_simp; all_goals with_reducible rfl
                    try simp only [List.setIfInBounds_toArray, List.set_cons_succ, List.set_cons_zero]
                    refine held_take 4 94 7 #[true, false, true, true, true, false, false, false, false, false, false] (v := ?_) rfl rfl (by kernel_rfl) (by kernel_rfl) (by kernel_rfl) (by kernel_rfl) (fun _ _ _ h => h) (by rfl) ?_ hcell ?_
                    rotate_left
                    · intro W hS; go_simp; all_goals with_reducible rfl
                    try simp only [List.setIfInBounds_toArray, List.set_cons_succ, List.set_cons_zero]
                    refine held_take 5 95 6 #[true, false, true, true, true, true, false, false, false, false, false] (v := ?_) rfl rfl (by kernel_rfl) (by kernel_rfl) (by kernel_rfl) (by kernel_rfl) (fun _ _ _ h => h) (by rfl) ?_ hcell ?_
                    rotate_left
                    · intro W hS; go_simp; all_goals with_reducible rfl
                    try simp only [List.setIfInBounds_toArray, List.set_cons_succ, List.set_cons_zero]
                    refine held_call 1 5 #[true, true, true, true, true, true, false, false, false, false, false] (by kernel_rfl) rfl (by rfl) (by kernel_rfl) (fun K hK => ?_)
                    go_simp
                    refine (RInt8_any g g s wr.drew (hR.below (Below.refl _ _).drew)).mono ?_
                    rintro e' w6 ⟨rfl, d6⟩
                    have HS1 : (fun W => W.cell? ⟨bb, off + j, none⟩ = some (.int .i64 z)) w6 := d6.only.cell (w := wr.drew) hcell (by simpa using hgb)
                    have hR6 := d6.is
                    have hb6 : Below B5 w4 w6 := d6.below hb.drew hg0 (Nat.le_trans hB4 hb.size)
                    clear d6
                    refine hK _ _ HS1 ?_
                    clear hK K
                    refine held_take 6 96 4 #[true, true, true, true, true, true, true, false, false, false, false] (v := ?_) rfl rfl (by kernel_rfl) (by kernel_rfl) (by kernel_rfl) (by kernel_rfl) (fun _ _ _ h => h) (by rfl) ?_ HS1 ?_
                    rotate_left
                    · intro W hS; have hd : (s.readInt.1 == z) = false := by simpa using hv
                      go_simp; go_simp; all_goals with_reducible rfl
                    try simp only [List.setIfInBounds_toArray, List.set_cons_succ, List.set_cons_zero]
                    refine held_take 7 97 3 #[true, true, true, true, true, true, true, true, false, false, false] (v := ?_) rfl rfl (by kernel_rfl) (by kernel_rfl) (by kernel_rfl) (by kernel_rfl) (fun _ _ _ h => h) (by rfl) ?_ HS1 ?_
                    rotate_left
                    · intro W hS; go_simp; all_goals with_reducible rfl
                    try simp only [List.setIfInBounds_toArray, List.set_cons_succ, List.set_cons_zero]
                    refine held_skip 8 98 2 #[true, true, true, true, true, true, true, true, true, false, false] rfl rfl (by kernel_rfl) (by kernel_rfl) (by kernel_rfl) (by kernel_rfl) (fun _ _ _ h => h) (by rfl) HS1 ?_
                    try simp only [List.setIfInBounds_toArray, List.set_cons_succ, List.set_cons_zero]
                    refine held_take 9 99 1 #[true, true, true, true, true, true, true, true, true, true, false] (v := ?_) rfl rfl (by kernel_rfl) (by kernel_rfl) (by kernel_rfl) (by kernel_rfl) (fun _ _ _ h => h) (by rfl) ?_ HS1 ?_
                    rotate_left
                    · intro W hS; go_simp; all_goals with_reducible rfl
                    try simp only [List.setIfInBounds_toArray, List.set_cons_succ, List.set_cons_zero]
                    refine held_take 10 11 0 #[true, true, true, true, true, true, true, true, true, true, true] (v := ?_) rfl rfl (by kernel_rfl) (by kernel_rfl) (by kernel_rfl) (by kernel_rfl) (fun _ _ _ h => h) (by rfl) ?_ HS1 ?_
                    rotate_left
                    · intro W hS; go_simp; all_goals with_reducible rfl
                    try simp only [List.setIfInBounds_toArray, List.set_cons_succ, List.set_cons_zero]
                    refine wpAnyH_done (by kernel_rfl) ?_ _
                    go_wp2_with fail
                    go_roundw
                    case rel => exact ⟨j + 1, _, _, by omega, by go_num, rfl, hR6, hST2.out, hb6⟩
                    case measure => (simp [intOf] <;> omega)
                · obtain rfl : j = ns.length := by omega
                  rw [List.drop_length, show intsOf [] = [] from rfl, List.nil_append] at hST
                  clear hj hlt
                  go_wp2_with fail
                  go_loopw [11, 13] (fun o i wr => ∃ (j : Nat) (s : RS) (ok : Bool), j ≤ ss.length ∧ i = .int .i64 j ∧ o = .bool ok ∧ IsR wr g g s ∧ St K (textsOf (ss.drop j)) s ok ∧ Below B5 w4 wr) (fun _ i _ => 10 - (intOf i).toNat)
                  case atStart => exact ⟨0, s, ok, by omega, rfl, rfl, hR, hST, hb⟩
                  case round =>
                    clear hR hST hb
                    obtain ⟨j, s, ok, hj, rfl, rfl, hR, hST, hb⟩ := hrel
                    by_cases hlt : j < ss.length
                    · obtain ⟨bb, off, rfl, hbb, hcell⟩ := hrd2.at_ (k := j) (by simpa using hlt)
                      rw [← (bel4.trans (hb.mono hB50)).cell (p := ⟨bb, off + j, none⟩) hbb, List.getElem_map] at hcell
                      have hgb : bb ≠ g := by omega
                      have hsj := hsz' j hlt
                      rw [List.drop_eq_getElem_cons hlt, textsOf_cons] at hST
                      have hST' := Lib.hid (hST.text (by rw [str_data]; omega))
                      clear hST
                      generalize ss[j] = t at hcell hsj hST'
                      by_cases hv : strOf s.readText.1 = t
                      · have hv2 := (strOf_eq _ _).1 hv
                        have hST2 := Lib.hid (by simpa [hv2] using hST'.out : St K (textsOf (ss.drop (j + 1))) s.readText.2 ok)
                        clear hST' hsj hv2
                        subst hv
                        go_wp2_with fail
                        refine held_begin (fun W => W.cell? ⟨bb, off + j, none⟩ = some (.string (strOf s.readText.1))) 11 #[false, false, false, false, false, false, false, false, false, false, false] (by kernel_rfl) (by kernel_rfl) (by kernel_rfl) ?_
                        refine held_take 0 106 10 #[true, false, false, false, false, false, false, false, false, false, false] (v := ?_) rfl rfl (by kernel_rfl) (by kernel_rfl) (by kernel_rfl) (by kernel_rfl) (fun _ _ _ h => h) (by rfl) ?_ hcell ?_
                        rotate_left
                        · intro W hS; go_simp; all_goals with_reducible rfl
                        try simp only [List.setIfInBounds_toArray, List.set_cons_succ, List.set_cons_zero]
                        refine held_take 2 108 9 #[true, false, true, false, false, false, false, false, false, false, false] (v := ?_) rfl rfl (by kernel_rfl) (by kernel_rfl) (by kernel_rfl) (by kernel_rfl) (fun _ _ _ h => h) (by rfl) ?_ hcell ?_
                        rotate_left
                        · intro W hS; go_simp; all_goals with_reducible rfl
                        try simp only [List.setIfInBounds_toArray, List.set_cons_succ, List.set_cons_zero]
                        refine held_take 3 109 8 #[true, false, true, true, false, false, false, false, false, false, false] (v := ?_) rfl rfl (by kernel_rfl) (by kernel_rfl) (by kernel_rfl) (by kernel_rfl) (fun _ _ _ h => h) (by rfl) ?_ hcell ?_
                        rotate_left
                        · intro W hS; go_simp; all_goals with_reducible rfl
                        try simp only [List.setIfInBounds_toArray, List.set_cons_succ, List.set_cons_zero]
                        refine held_take 4 110 7 #[true, false, true, true, true, false, false, false, false, false, false] (v := ?_) rfl rfl (by kernel_rfl) (by kernel_rfl) (by kernel_rfl) (by kernel_rfl) (fun _ _ _ h => h) (by rfl) ?_ hcell ?_
                        rotate_left
                        · intro W hS; go_simp; all_goals with_reducible rfl
                        try simp only [List.setIfInBounds_toArray, List.set_cons_succ, List.set_cons_zero]
                        refine held_take 5 111 6 #[true, false, true, true, true, true, false, false, false, false, false] (v := ?_) rfl rfl (by kernel_rfl) (by kernel_rfl) (by kernel_rfl) (by kernel_rfl) (fun _ _ _ h => h) (by rfl) ?_ hcell ?_
                        rotate_left
                        · intro W hS; go_simp; all_goals with_reducible rfl
                        try simp only [List.setIfInBounds_toArray, List.set_cons_succ, List.set_cons_zero]
                        refine held_call 1 5 #[true, true, true, true, true, true, false, false, false, false, false] (by kernel_rfl) rfl (by rfl) (by kernel_rfl) (fun K hK => ?_)
                        go_simp
                        refine (RText_read g g s wr.drew (hR.below (Below.refl _ _).drew)).mono ?_
                        rintro e' w6 ⟨rfl, d6⟩
                        have HS1 : (fun W => W.cell? ⟨bb, off + j, none⟩ = some (.string (strOf s.readText.1))) w6 := d6.only.cell (w := wr.drew) hcell (by simpa using hgb)
                        have hR6 := d6.is
                        have hb6 : Below B5 w4 w6 := d6.below hb.drew hg0 (Nat.le_trans hB4 hb.size)
                        clear d6
                        refine hK _ _ HS1 ?_
                        clear hK K
                        refine held_take 6 112 4 #[true, true, true, true, true, true, true, false, false, false, false] (v := ?_) rfl rfl (by kernel_rfl) (by kernel_rfl) (by kernel_rfl) (by kernel_rfl) (fun _ _ _ h => h) (by rfl) ?_ HS1 ?_
                        rotate_left
                        · intro W hS; go_simp; all_goals with_reducible rfl
                        try simp only [List.setIfInBounds_toArray, List.set_cons_succ, List.set_cons_zero]
                        refine held_take 7 113 3 #[true, true, true, true, true, true, true, true, false, false, false] (v := ?_) rfl rfl (by kernel_rfl) (by kernel_rfl) (by kernel_rfl) (by kernel_rfl) (fun _ _ _ h => h) (by rfl) ?_ HS1 ?_
                        rotate_left
                        · intro W hS; go_simp; all_goals with_reducible rfl
                        try simp only [List.setIfInBounds_toArray, List.set_cons_succ, List.set_cons_zero]
                        refine held_take 8 114 2 #[true, true, true, true, true, true, true, true, true, false, false] (v := ?_) rfl rfl (by kernel_rfl) (by kernel_rfl) (by kernel_rfl) (by kernel_rfl) (fun _ _ _ h => h) (by rfl) ?_ HS1 ?_
                        rotate_left
                        · intro W hS; go_simp; all_goals with_reducible rfl
                        try simp only [List.setIfInBounds_toArray, List.set_cons_succ, List.set_cons_zero]
                        refine held_take 9 115 1 #[true, true, true, true, true, true, true, true, true, true, false] (v := ?_) rfl rfl (by kernel_rfl) (by kernel_rfl) (by kernel_rfl) (by kernel_rfl) (fun _ _ _ h => h) (by rfl) ?_ HS1 ?_
                        rotate_left
                        · intro W hS; go_simp; all_goals with_reducible rfl
                        try simp only [List.setIfInBounds_toArray, List.set_cons_succ, List.set_cons_zero]
                        refine held_take 10 11 0 #[true, true, true, true, true, true, true, true, true, true, true] (v := ?_) rfl rfl (by kernel_rfl) (by kernel_rfl) (by kernel_rfl) (by kernel_rfl) (fun _ _ _ h => h) (by rfl) ?_ HS1 ?_
                        rotate_left
                        · intro W hS; go_simp; all_goals with_reducible rfl
                        try simp only [List.setIfInBounds_toArray, List.set_cons_succ, List.set_cons_zero]
                        refine wpAnyH_done (by kernel_rfl) ?_ _
                        go_wp2_with fail
                        go_roundw
                        case rel => exact ⟨j + 1, _, _, by omega, by go_num, rfl, hR6, hST2.out, hb6⟩
                        case measure => (simp [intOf] <;> omega)
                      · have hv2 : ¬ s.readText.1 = t.data.toList := fun h => hv ((strOf_eq _ _).2 h)
                        have hST2 := Lib.hid (by simpa [hv2] using hST'.out : St K (textsOf (ss.drop (j + 1))) s.readText.2 false)
                        clear hST' hsj
                        go_wp2_with fail
                        refine held_begin (fun W => W.cell? ⟨bb, off + j, none⟩ = some (.string t)) 11 #[false, false, false, false, false, false, false, false, false, false, false] (by kernel_rfl) (by kernel_rfl) (by kernel_rfl) ?_
                        refine held_take 0 106 10 #[true, false, false, false, false, false, false, false, false, false, false] (v := ?_) rfl rfl (by kernel_rfl) (by kernel_rfl) (by kernel_rfl) (by kernel_rfl) (fun _ _ _ h => h) (by rfl) ?_ hcell ?_
                        rotate_left
                        · intro W hS; go_simp; all_goals with_reducible rfl
                        try simp only [List.setIfInBounds_toArray, List.set_cons_succ, List.set_cons_zero]
                        refine held_take 2 108 9 #[true, false, true, false, false, false, false, false, false, false, false] (v := ?_) rfl rfl (by kernel_rfl) (by kernel_rfl) (by kernel_rfl) (by kernel_rfl) (fun _ _ _ h => h) (by rfl) ?_ hcell ?_
                        rotate_left
                        · intro W hS; go_simp; all_goals with_reducible rfl
                        try simp only [List.setIfInBounds_toArray, List.set_cons_succ, List.set_cons_zero]
                        refine held_take 3 109 8 #[true, false, true, true, false, false, false, false, false, false, false] (v := ?_) rfl rfl (by kernel_rfl) (by kernel_rfl) (by kernel_rfl) (by kernel_rfl) (fun _ _ _ h => h) (by rfl) ?_ hcell ?_
                        rotate_left
                        · intro W hS; go_simp; all_goals with_reducible rfl
                        try simp only [List.setIfInBounds_toArray, List.set_cons_succ, List.set_cons_zero]
                        refine held_take 4 110 7 #[true, false, true, true, true, false, false, false, false, false, false] (v := ?_) rfl rfl (by kernel_rfl) (by kernel_rfl) (by kernel_rfl) (by kernel_rfl) (fun _ _ _ h => h) (by rfl) ?_ hcell ?_
                        rotate_left
                        · intro W hS; go_simp; all_goals with_reducible rfl
                        try simp only [List.setIfInBounds_toArray, List.set_cons_succ, List.set_cons_zero]
                        refine held_take 5 111 6 #[true, false, true, true, true, true, false, false, false, false, false] (v := ?_) rfl rfl (by kernel_rfl) (by kernel_rfl) (by kernel_rfl) (by kernel_rfl) (fun _ _ _ h => h) (by rfl) ?_ hcell ?_
                        rotate_left
                        · intro W hS; go_simp; all_goals with_reducible rfl
                        try simp only [List.setIfInBounds_toArray, List.set_cons_succ, List.set_cons_zero]
                        refine held_call 1 5 #[true, true, true, true, true, true, false, false, false, false, false] (by kernel_rfl) rfl (by rfl) (by kernel_rfl) (fun K hK => ?_)
                        go_simp
                        refine (RText_read g g s wr.drew (hR.below (Below.refl _ _).drew)).mono ?_
                        rintro e' w6 ⟨rfl, d6⟩
                        have HS1 : (fun W => W.cell? ⟨bb, off + j, none⟩ = some (.string t)) w6 := d6.only.cell (w := wr.drew) hcell (by simpa using hgb)
                        have hR6 := d6.is
                        have hb6 : Below B5 w4 w6 := d6.below hb.drew hg0 (Nat.le_trans hB4 hb.size)
                        clear d6
                        refine hK _ _ HS1 ?_
                        clear hK K
                        refine held_take 6 112 4 #[true, true, true, true, true, true, true, false, false, false, false] (v := ?_) rfl rfl (by kernel_rfl) (by kernel_rfl) (by kernel_rfl) (by kernel_rfl) (fun _ _ _ h => h) (by rfl) ?_ HS1 ?_
                        rotate_left
                        · intro W hS; have hd : ((strOf s.readText.1).toList == t.toList) = false := by rw [strOf_toList, toList_data]; simpa using hv2
                          go_simp; go_simp; all_goals with_reducible rfl
                        try simp only [List.setIfInBounds_toArray, List.set_cons_succ, List.set_cons_zero]
                        refine held_take 7 113 3 #[true, true, true, true, true, true, true, true, false, false, false] (v := ?_) rfl rfl (by kernel_rfl) (by kernel_rfl) (by kernel_rfl) (by kernel_rfl) (fun _ _ _ h => h) (by rfl) ?_ HS1 ?_
                        rotate_left
                        · intro W hS; go_simp; all_goals with_reducible rfl
                        try simp only [List.setIfInBounds_toArray, List.set_cons_succ, List.set_cons_zero]
                        refine held_skip 8 114 2 #[true, true, true, true, true, true, true, true, true, false, false] rfl rfl (by kernel_rfl) (by kernel_rfl) (by kernel_rfl) (by kernel_rfl) (fun _ _ _ h => h) (by rfl) HS1 ?_
                        try simp only [List.setIfInBounds_toArray, List.set_cons_succ, List.set_cons_zero]
                        refine held_take 9 115 1 #[true, true, true, true, true, true, true, true, true, true, false] (v := ?_) rfl rfl (by kernel_rfl) (by kernel_rfl) (by kernel_rfl) (by kernel_rfl) (fun _ _ _ h => h) (by rfl) ?_ HS1 ?_
                        rotate_left
                        · intro W hS; go_simp; all_goals with_reducible rfl
                        try simp only [List.setIfInBounds_toArray, List.set_cons_succ, List.set_cons_zero]
                        refine held_take 10 11 0 #[true, true, true, true, true, true, true, true, true, true, true] (v := ?_) rfl rfl (by kernel_rfl) (by kernel_rfl) (by kernel_rfl) (by kernel_rfl) (fun _ _ _ h => h) (by rfl) ?_ HS1 ?_
                        rotate_left
                        · intro W hS; go_simp; all_goals with_reducible rfl
                        try simp only [List.setIfInBounds_toArray, List.set_cons_succ, List.set_cons_zero]
                        refine wpAnyH_done (by kernel_rfl) ?_ _
                        go_wp2_with fail
                        go_roundw
                        case rel => exact ⟨j + 1, _, _, by omega, by go_num, rfl, hR6, hST2.out, hb6⟩
                        case measure => (simp [intOf] <;> omega)
                    · obtain rfl : j = ss.length := by omega
                      rw [List.drop_length, show textsOf [] = [] from rfl] at hST
                      clear hj hlt
                      have hfin := bel4.trans (hb.mono hB50)
                      have hsl6 := hsl4.below hb
                      have hB6 := Nat.le_trans hB4 hb.size
                      have E := End_any g g s wr hR
                      rcases hST.end_ with ⟨hK1, he, rfl⟩ | ⟨hK1, he, rfl⟩ | ⟨hK1, he⟩
                      all_goals first
                        | (exfalso; omega)
                        | (rw [he] at E
                           have E' := Lib.hid E
                           clear E hST hR hb he hK1 hKe
                           go_wp2_with fail
                           refine E'.out.mono ?_
                           rintro e' ww ⟨rfl, rfl⟩
                           go_wp2_with fail
                           go_roundw
                           case rel => exact ⟨2, by omega, by go_num, hfin, hB6, hsl6⟩
                           case measure => (simp [intOf] <;> omega))
            · go_wp2_with fail
              have slx : Sl wr wr.heap.size 1 (.slice A5 ((allOf ns ss).length - 1) c5) ((allOf ns ss).take ((allOf ns ss).length - 1)).length (bvs ((allOf ns ss).take ((allOf ns ss).length - 1))) := by
                have h := (hsl.to (k := (allOf ns ss).length - 1) (by omega)).more hB
                rw [bvs_take] at h
                exact sl_bs h
              refine (New_any _ ((allOf ns ss).take ((allOf ns ss).length - 1)) wr slx (by rw [List.length_take]; omega)).mono ?_
              rintro e' w4 ⟨g, rfl, hg, r4, belx⟩

              have bel4 : Below w.heap.size w w4 := hbel.trans (belx.mono hbel.size)
              have hg0 : B5 ≤ g := Nat.le_trans hB hg
              have hB4 : B5 ≤ w4.heap.size := Nat.le_trans hB belx.size
              have hsl4 : Sl w4 B5 1 (.slice A5 (allOf ns ss).length c5) (allOf ns ss).length (bvs (allOf ns ss)) := hsl.below (belx.mono hB)
              obtain ⟨K, hKe⟩ : ∃ K : Nat, K = 2 := ⟨_, rfl⟩
              have ST := St.two (allOf ns ss) true (List.length_pos_iff.1 hEp)
              rw [← hKe] at ST
              have I4 : IsR w4 g g _ := r4

              generalize (⟨(allOf ns ss).take ((allOf ns ss).length - 1), 0⟩ : RS) = s0 at ST I4
              clear r4 belx hg hk slx

              clear hsl hbel hB
              go_wp2_with fail
              refine (RByte1_any g g s0 w4 I4).mono ?_
              rintro e' w5 ⟨rfl, d5⟩
              have hb5 : Below B5 w4 w5 := d5.below (Below.refl _ _) hg0 hB4
              have hR5 := d5.is
              have ST5 := ST.byte (by omega) (by omega)
              rw [Bool.and_true] at ST5
              clear d5 ST I4
              generalize s0.readByte.2 = s5 at *
              generalize s0.readByte.1 = v5 at *
              go_wp2_with fail
              go_loopw [11, 12] (fun o i wr => ∃ (j : Nat) (s : RS) (ok : Bool), j ≤ ns.length ∧ i = .int .i64 j ∧ o = .bool ok ∧ IsR wr g g s ∧ St K (intsOf (ns.drop j) ++ textsOf ss) s ok ∧ Below B5 w4 wr) (fun _ i _ => 20 - (intOf i).toNat)
              case atStart => exact ⟨0, s5, _, by omega, rfl, rfl, hR5, ST5, hb5⟩
              case round =>
                clear hR5 ST5 hb5
                obtain ⟨j, s, ok, hj, rfl, rfl, hR, hST, hb⟩ := hrel
                by_cases hlt : j < ns.length
                · obtain ⟨bb, off, rfl, hbb, hcell⟩ := hrd.at_ (k := j) (by simpa using hlt)
                  rw [← (bel4.trans (hb.mono hB50)).cell (p := ⟨bb, off + j, none⟩) hbb, List.getElem_map] at hcell
                  have hgb : bb ≠ g := by omega
                  have hzj := hz _ (List.getElem_mem hlt)
                  rw [List.drop_eq_getElem_cons hlt, intsOf_cons, List.append_assoc] at hST
                  have hST' := Lib.hid (hST.int hzj.1 hzj.2)
                  clear hST
                  generalize ns[j] = z at hcell hzj hST'
                  by_cases hv : s.readInt.1 = z
                  · subst hv
                    have hST2 := Lib.hid (by simpa using hST'.out : St K (intsOf (ns.drop (j + 1)) ++ textsOf ss) s.readInt.2 ok)
                    clear hST' hzj
                    go_wp2_with fail
                    refine held_begin (fun W => W.cell? ⟨bb, off + j, none⟩ = some (.int .i64 s.readInt.1)) 11 #[false, false, false, false, false, false, false, false, false, false, false] (by kernel_rfl) (by kernel_rfl) (by kernel_rfl) ?_
                    refine held_take 0 90 10 #[true, false, false, false, false, false, false, false, false, false, false] (v := ?_) rfl rfl (by kernel_rfl) (by kernel_rfl) (by kernel_rfl) (by kernel_rfl) (fun _ _ _ h => h) (by rfl) ?_ hcell ?_
                    rotate_left
                    · intro W hS; go_simp; all_goals with_reducible rfl
                    try simp only [List.setIfInBounds_toArray, List.set_cons_succ, List.set_cons_zero]
                    refine held_take 2 92 9 #[true, false, true, false, false, false, false, false, false, false, false] (v := ?_) rfl rfl (by kernel_rfl) (by kernel_rfl) (by kernel_rfl) (by kernel_rfl) (fun _ _ _ h => h) (by rfl) ?_ hcell ?_
                    rotate_left
                    · intro W hS; go_simp; all_goals with_reducible rfl
                    try simp only [List.setIfInBounds_toArray, List.set_cons_succ, List.set_cons_zero]
                    refine held_take 3 93 8 #[true, false, true, true, false, false, false, false, false, false, false] (v := ?_) rfl rfl (by kernel_rfl) (by kernel_rfl) (by kernel_rfl) (by kernel_rfl) (fun _ _ _ h => h) (by rfl) ?_ hcell ?_
                    rotate_left
                    · intro W hS; go_simp; all_goals with_reducible rfl
                    try simp only [List.setIfInBounds_toArray, List.set_cons_succ, List.set_cons_zero]
                    refine held_take 4 94 7 #[true, false, true, true, true, false, false, false, false, false, false] (v := ?_) rfl rfl (by kernel_rfl) (by kernel_rfl) (by kernel_rfl) (by kernel_rfl) (fun _ _ _ h => h) (by rfl) ?_ hcell ?_
                    rotate_left
                    · intro W hS; go_simp; all_goals with_reducible rfl
                    try simp only [List.setIfInBounds_toArray, List.set_cons_succ, List.set_cons_zero]
                    refine held_take 5 95 6 #[true, false, true, true, true, true, false, false, false, false, false] (v := ?_) rfl rfl (by kernel_rfl) (by kernel_rfl) (by kernel_rfl) (by kernel_rfl) (fun _ _ _ h => h) (by rfl) ?_ hcell ?_
                    rotate_left
                    · intro W hS; go_simp; all_goals with_reducible rfl
                    try simp only [List.setIfInBounds_toArray, List.set_cons_succ, List.set_cons_zero]
                    refine held_call 1 5 #[true, true, true, true, true, true, false, false, false, false, false] (by kernel_rfl) rfl (by rfl) (by kernel_rfl) (fun K hK => ?_)
                    go_simp
                    refine (RInt8_any g g s wr.drew (hR.below (Below.refl _ _).drew)).mono ?_
                    rintro e' w6 ⟨rfl, d6⟩
                    have HS1 : (fun W => W.cell? ⟨bb, off + j, none⟩ = some (.int .i64 s.readInt.1)) w6 := d6.only.cell (w := wr.drew) hcell (by simpa using hgb)
                    have hR6 := d6.is
                    have hb6 : Below B5 w4 w6 := d6.below hb.drew hg0 (Nat.le_trans hB4 hb.size)
                    clear d6
                    refine hK _ _ HS1 ?_
                    clear hK K
                    refine held_take 6 96 4 #[true, true, true, true, true, true, true, false, false, false, false] (v := ?_) rfl rfl (by kernel_rfl) (by kernel_rfl) (by kernel_rfl) (by kernel_rfl) (fun _ _ _ h => h) (by rfl) ?_ HS1 ?_
                    rotate_left
                    · intro W hS; go_simp; all_goals with_reducible rfl
                    try simp only [List.setIfInBounds_toArray, List.set_cons_succ, List.set_cons_zero]
                    refine held_take 7 97 3 #[true, true, true, true, true, true, true, true, false, false, false] (v := ?_) rfl rfl (by kernel_rfl) (by kernel_rfl) (by kernel_rfl) (by kernel_rfl) (fun _ _ _ h => h) (by rfl) ?_ HS1 ?_
                    rotate_left
                    · intro W hS; go_simp; all_goals with_reducible rfl
                    try simp only [List.setIfInBounds_toArray, List.set_cons_succ, List.set_cons_zero]
                    refine held_take 8 98 2 #[true, true, true, true, true, true, true, true, true, false, false] (v := ?_) rfl rfl (by kernel_rfl) (by kernel_rfl) (by kernel_rfl) (by kernel_rfl) (fun _ _ _ h => h) (by rfl) ?_ HS1 ?_
                    rotate_left
                    · intro W hS; go_simp; all_goals with_reducible rfl
                    try simp only [List.setIfInBounds_toArray, List.set_cons_succ, List.set_cons_zero]
                    refine held_take 9 99 1 #[true, true, true, true, true, true, true, true, true, true, false] (v := ?_) rfl rfl (by kernel_rfl) (by kernel_rfl) (by kernel_rfl) (by kernel_rfl) (fun _ _ _ h => h) (by rfl) ?_ HS1 ?_
                    rotate_left
                    · intro W hS; go_simp; all_goals with_reducible rfl
                    try simp only [List.setIfInBounds_toArray, List.set_cons_succ, List.set_cons_zero]
                    refine held_take 10 11 0 #[true, true, true, true, true, true, true, true, true, true, true] (v := ?_) rfl rfl (by kernel_rfl) (by kernel_rfl) (by kernel_rfl) (by kernel_rfl) (fun _ _ _ h => h) (by rfl) ?_ HS1 ?_
                    rotate_left
                    · intro W hS; go_simp; all_goals with_reducible rfl
                    try simp only [List.setIfInBounds_toArray, List.set_cons_succ, List.set_cons_zero]
                    refine wpAnyH_done (by kernel_rfl) ?_ _
                    go_wp2_with fail
                    go_roundw
                    case rel => exact ⟨j + 1, _, _, by omega, by go_num, rfl, hR6, hST2.out, hb6⟩
                    case measure => (simp [intOf] <;> omega)
                  · have hST2 := Lib.hid (by simpa [hv] using hST'.out : St K (intsOf (ns.drop (j + 1)) ++ textsOf ss) s.readInt.2 false)
                    clear hST' hzj
                    go_wp2_with fail
                    refine held_begin (fun W => W.cell? ⟨bb, off + j, none⟩ = some (.int .i64 z)) 11 #[false, false, false, false, false, false, false, false, false, false, false] (by kernel_rfl) (by kernel_rfl) (by kernel_rfl) ?_
                    refine held_take 0 90 10 #[true, false, false, false, false, false, false, false, false, false, false] (v := ?_) rfl rfl (by kernel_rfl) (by kernel_rfl) (by kernel_rfl) (by kernel_rfl) (fun _ _ _ h => h) (by rfl) ?_ hcell ?_
                    rotate_left
                    · intro W hS; go_simp; all_goals with_reducible rfl
                    try simp only [List.setIfInBounds_toArray, List.set_cons_succ, List.set_cons_zero]
                    refine held_take 2 92 9 #[true, false, true, false, false, false, false, false, false, false, false] (v := ?_) rfl rfl (by kernel_rfl) (by kernel_rfl) (by kernel_rfl) (by kernel_rfl) (fun _ _ _ h => h) (by rfl) ?_ hcell ?_
                    rotate_left
                    · intro W hS; go_simp; all_goals with_reducible rfl
                    try simp only [List.setIfInBounds_toArray, List.set_cons_succ, List.set_cons_zero]
                    refine held_take 3 93 8 #[true, false, true, true, false, false, false, false, false, false, false] (v := ?_) rfl rfl (by kernel_rfl) (by kernel_rfl) (by kernel_rfl) (by kernel_rfl) (fun _ _ _ h => h) (by rfl) ?_ hcell ?_
                    rotate_left
                    · intro W hS; go_simp; all_goals with_reducible rfl
                    try simp only [List.setIfInBounds_toArray, List.set_cons_succ, List.set_cons_zero]
                    refine held_take 4 94 7 #[true, false, true, true, true, false, false, false, false, false, false] (v := ?_) rfl rfl (by kernel_rfl) (by kernel_rfl) (by kernel_rfl) (by kernel_rfl) (fun _ _ _ h => h) (by rfl) ?_ hcell ?_
                    rotate_left
                    · intro W hS; go_simp; all_goals with_reducible rfl
                    try simp only [List.setIfInBounds_toArray, List.set_cons_succ, List.set_cons_zero]
                    refine held_take 5 95 6 #[true, false, true, true, true, true, false, false, false, false, false] (v := ?_) rfl rfl (by kernel_rfl) (by kernel_rfl) (by kernel_rfl) (by kernel_rfl) (fun _ _ _ h => h) (by rfl) ?_ hcell ?_
                    rotate_left
                    · intro W hS; go_simp; all_goals with_reducible rfl
                    try simp only [List.setIfInBounds_toArray, List.set_cons_succ, List.set_cons_zero]
                    refine held_call 1 5 #[true, true, true, true, true, true, false, false, false, false, false] (by kernel_rfl) rfl (by rfl) (by kernel_rfl) (fun K hK => ?_)
                    go_simp
                    refine (RInt8_any g g s wr.drew (hR.below (Below.refl _ _).drew)).mono ?_
                    rintro e' w6 ⟨rfl, d6⟩
                    have HS1 : (fun W => W.cell? ⟨bb, off + j, none⟩ = some (.int .i64 z)) w6 := d6.only.cell (w := wr.drew) hcell (by simpa using hgb)
                    have hR6 := d6.is
                    have hb6 : Below B5 w4 w6 := d6.below hb.drew hg0 (Nat.le_trans hB4 hb.size)
                    clear d6
                    refine hK _ _ HS1 ?_
                    clear hK K
                    refine held_take 6 96 4 #[true, true, true, true, true, true, true, false, false, false, false] (v := ?_) rfl rfl (by kernel_rfl) (by kernel_rfl) (by kernel_rfl) (by kernel_rfl) (fun _ _ _ h => h) (by rfl) ?_ HS1 ?_
                    rotate_left
                    · intro W hS; have hd : (s.readInt.1 == z) = false := by simpa using hv
                      go_simp; go_simp; all_goals with_reducible rfl
                    try simp only [List.setIfInBounds_toArray, List.set_cons_succ, List.set_cons_zero]
                    refine held_take 7 97 3 #[true, true, true, true, true, true, true, true, false, false, false] (v := ?_) rfl rfl (by kernel_rfl) (by kernel_rfl) (by kernel_rfl) (by kernel_rfl) (fun _ _ _ h => h) (by rfl) ?_ HS1 ?_
                    rotate_left
                    · intro W hS; go_simp; all_goals with_reducible rfl
                    try simp only [List.setIfInBounds_toArray, List.set_cons_succ, List.set_cons_zero]
                    refine held_skip 8 98 2 #[true, true, true, true, true, true, true, true, true, false, false] rfl rfl (by kernel_rfl) (by kernel_rfl) (by kernel_rfl) (by kernel_rfl) (fun _ _ _ h => h) (by rfl) HS1 ?_
                    try simp only [List.setIfInBounds_toArray, List.set_cons_succ, List.set_cons_zero]
                    refine held_take 9 99 1 #[true, true, true, true, true, true, true, true, true, true, false] (v := ?_) rfl rfl (by kernel_rfl) (by kernel_rfl) (by kernel_rfl) (by kernel_rfl) (fun _ _ _ h => h) (by rfl) ?_ HS1 ?_
                    rotate_left
                    · intro W hS; go_simp; all_goals with_reducible rfl
                    try simp only [List.setIfInBounds_toArray, List.set_cons_succ, List.set_cons_zero]
                    refine held_take 10 11 0 #[true, true, true, true, true, true, true, true, true, true, true] (v := ?_) rfl rfl (by kernel_rfl) (by kernel_rfl) (by kernel_rfl) (by kernel_rfl) (fun _ _ _ h => h) (by rfl) ?_ HS1 ?_
                    rotate_left
                    · intro W hS; go_simp; all_goals with_reducible rfl
                    try simp only [List.setIfInBounds_toArray, List.set_cons_succ, List.set_cons_zero]
                    refine wpAnyH_done (by kernel_rfl) ?_ _
                    go_wp2_with fail
                    go_roundw
                    case rel => exact ⟨j + 1, _, _, by omega, by go_num, rfl, hR6, hST2.out, hb6⟩
                    case measure => (simp [intOf] <;> omega)
                · obtain rfl : j = ns.length := by omega
                  rw [List.drop_length, show intsOf [] = [] from rfl, List.nil_append] at hST
                  clear hj hlt
                  go_wp2_with fail
                  go_loopw [11, 13] (fun o i wr => ∃ (j : Nat) (s : RS) (ok : Bool), j ≤ ss.length ∧ i = .int .i64 j ∧ o = .bool ok ∧ IsR wr g g s ∧ St K (textsOf (ss.drop j)) s ok ∧ Below B5 w4 wr) (fun _ i _ => 10 - (intOf i).toNat)
                  case atStart => exact ⟨0, s, ok, by omega, rfl, rfl, hR, hST, hb⟩
                  case round =>
                    clear hR hST hb
                    obtain ⟨j, s, ok, hj, rfl, rfl, hR, hST, hb⟩ := hrel
                    by_cases hlt : j < ss.length
                    · obtain ⟨bb, off, rfl, hbb, hcell⟩ := hrd2.at_ (k := j) (by simpa using hlt)
                      rw [← (bel4.trans (hb.mono hB50)).cell (p := ⟨bb, off + j, none⟩) hbb, List.getElem_map] at hcell
                      have hgb : bb ≠ g := by omega
                      have hsj := hsz' j hlt
                      rw [List.drop_eq_getElem_cons hlt, textsOf_cons] at hST
                      have hST' := Lib.hid (hST.text (by rw [str_data]; omega))
                      clear hST
                      generalize ss[j] = t at hcell hsj hST'
                      by_cases hv : strOf s.readText.1 = t
                      · have hv2 := (strOf_eq _ _).1 hv
                        have hST2 := Lib.hid (by simpa [hv2] using hST'.out : St K (textsOf (ss.drop (j + 1))) s.readText.2 ok)
                        clear hST' hsj hv2
                        subst hv
                        go_wp2_with fail
                        refine held_begin (fun W => W.cell? ⟨bb, off + j, none⟩ = some (.string (strOf s.readText.1))) 11 #[false, false, false, false, false, false, false, false, false, false, false] (by kernel_rfl) (by kernel_rfl) (by kernel_rfl) ?_
                        refine held_take 0 106 10 #[true, false, false, false, false, false, false, false, false, false, false] (v := ?_) rfl rfl (by kernel_rfl) (by kernel_rfl) (by kernel_rfl) (by kernel_rfl) (fun _ _ _ h => h) (by rfl) ?_ hcell ?_
                        rotate_left
                        · intro W hS; go_simp; all_goals with_reducible rfl
                        try simp only [List.setIfInBounds_toArray, List.set_cons_succ, List.set_cons_zero]
                        refine held_take 2 108 9 #[true, false, true, false, false, false, false, false, false, false, false] (v := ?_) rfl rfl (by kernel_rfl) (by kernel_rfl) (by kernel_rfl) (by kernel_rfl) (fun _ _ _ h => h) (by rfl) ?_ hcell ?_
                        rotate_left
                        · intro W hS; go_simp; all_goals with_reducible rfl
                        try simp only [List.setIfInBounds_toArray, List.set_cons_succ, List.set_cons_zero]
                        refine held_take 3 109 8 #[true, false, true, true, false, false, false, false, false, false, false] (v := ?_) rfl rfl (by kernel_rfl) (by kernel_rfl) (by kernel_rfl) (by kernel_rfl) (fun _ _ _ h => h) (by rfl) ?_ hcell ?_
                        rotate_left
                        · intro W hS; go_simp; all_goals with_reducible rfl
                        try simp only [List.setIfInBounds_toArray, List.set_cons_succ, List.set_cons_zero]
                        refine held_take 4 110 7 #[true, false, true, true, true, false, false, false, false, false, false] (v := ?_) rfl rfl (by kernel_rfl) (by kernel_rfl) (by kernel_rfl) (by kernel_rfl) (fun _ _ _ h => h) (by rfl) ?_ hcell ?_
                        rotate_left
                        · intro W hS; go_simp; all_goals with_reducible rfl
                        try simp only [List.setIfInBounds_toArray, List.set_cons_succ, List.set_cons_zero]
                        refine held_take 5 111 6 #[true, false, true, true, true, true, false, false, false, false, false] (v := ?_) rfl rfl (by kernel_rfl) (by kernel_rfl) (by kernel_rfl) (by kernel_rfl) (fun _ _ _ h => h) (by rfl) ?_ hcell ?_
                        rotate_left
                        · intro W hS; go_simp; all_goals with_reducible rfl
                        try simp only [List.setIfInBounds_toArray, List.set_cons_succ, List.set_cons_zero]
                        refine held_call 1 5 #[true, true, true, true, true, true, false, false, false, false, false] (by kernel_rfl) rfl (by rfl) (by kernel_rfl) (fun K hK => ?_)
                        go_simp
                        refine (RText_read g g s wr.drew (hR.below (Below.refl _ _).drew)).mono ?_
                        rintro e' w6 ⟨rfl, d6⟩
                        have HS1 : (fun W => W.cell? ⟨bb, off + j, none⟩ = some (.string (strOf s.readText.1))) w6 := d6.only.cell (w := wr.drew) hcell (by simpa using hgb)
                        have hR6 := d6.is
                        have hb6 : Below B5 w4 w6 := d6.below hb.drew hg0 (Nat.le_trans hB4 hb.size)
                        clear d6
                        refine hK _ _ HS1 ?_
                        clear hK K
                        refine held_take 6 112 4 #[true, true, true, true, true, true, true, false, false, false, false] (v := ?_) rfl rfl (by kernel_rfl) (by kernel_rfl) (by kernel_rfl) (by kernel_rfl) (fun _ _ _ h => h) (by rfl) ?_ HS1 ?_
                        rotate_left
                        · intro W hS; go_simp; all_goals with_reducible rfl
                        try simp only [List.setIfInBounds_toArray, List.set_cons_succ, List.set_cons_zero]
                        refine held_take 7 113 3 #[true, true, true, true, true, true, true, true, false, false, false] (v := ?_) rfl rfl (by kernel_rfl) (by kernel_rfl) (by kernel_rfl) (by kernel_rfl) (fun _ _ _ h => h) (by rfl) ?_ HS1 ?_
                        rotate_left
                        · intro W hS; go_simp; all_goals with_reducible rfl
                        try simp only [List.setIfInBounds_toArray, List.set_cons_succ, List.set_cons_zero]
                        refine held_take 8 114 2 #[true, true, true, true, true, true, true, true, true, false, false] (v := ?_) rfl rfl (by kernel_rfl) (by kernel_rfl) (by kernel_rfl) (by kernel_rfl) (fun _ _ _ h => h) (by rfl) ?_ HS1 ?_
                        rotate_left
                        · intro W hS; go_simp; all_goals with_reducible rfl
                        try simp only [List.setIfInBounds_toArray, List.set_cons_succ, List.set_cons_zero]
                        refine held_take 9 115 1 #[true, true, true, true, true, true, true, true, true, true, false] (v := ?_) rfl rfl (by kernel_rfl) (by kernel_rfl) (by kernel_rfl) (by kernel_rfl) (fun _ _ _ h => h) (by rfl) ?_ HS1 ?_
                        rotate_left
                        · intro W hS; go_simp; all_goals with_reducible rfl
                        try simp only [List.setIfInBounds_toArray, List.set_cons_succ, List.set_cons_zero]
                        refine held_take 10 11 0 #[true, true, true, true, true, true, true, true, true, true, true] (v := ?_) rfl rfl (by kernel_rfl) (by kernel_rfl) (by kernel_rfl) (by kernel_rfl) (fun _ _ _ h => h) (by rfl) ?_ HS1 ?_
                        rotate_left
                        · intro W hS; go_simp; all_goals with_reducible rfl
                        try simp only [List.setIfInBounds_toArray, List.set_cons_succ, List.set_cons_zero]
                        refine wpAnyH_done (by kernel_rfl) ?_ _
                        go_wp2_with fail
                        go_roundw
                        case rel => exact ⟨j + 1, _, _, by omega, by go_num, rfl, hR6, hST2.out, hb6⟩
                        case measure => (simp [intOf] <;> omega)
                      · have hv2 : ¬ s.readText.1 = t.data.toList := fun h => hv ((strOf_eq _ _).2 h)
                        have hST2 := Lib.hid (by simpa [hv2] using hST'.out : St K (textsOf (ss.drop (j + 1))) s.readText.2 false)
                        clear hST' hsj
                        go_wp2_with fail
                        refine held_begin (fun W => W.cell? ⟨bb, off + j, none⟩ = some (.string t)) 11 #[false, false, false, false, false, false, false, false, false, false, false] (by kernel_rfl) (by kernel_rfl) (by kernel_rfl) ?_
                        refine held_take 0 106 10 #[true, false, false, false, false, false, false, false, false, false, false] (v := ?_) rfl rfl (by kernel_rfl) (by kernel_rfl) (by kernel_rfl) (by kernel_rfl) (fun _ _ _ h => h) (by rfl) ?_ hcell ?_
                        rotate_left
                        · intro W hS; go_simp; all_goals with_reducible rfl
                        try simp only [List.setIfInBounds_toArray, List.set_cons_succ, List.set_cons_zero]
                        refine held_take 2 108 9 #[true, false, true, false, false, false, false, false, false, false, false] (v := ?_) rfl rfl (by kernel_rfl) (by kernel_rfl) (by kernel_rfl) (by kernel_rfl) (fun _ _ _ h => h) (by rfl) ?_ hcell ?_
                        rotate_left
                        · intro W hS; go_simp; all_goals with_reducible rfl
                        try simp only [List.setIfInBounds_toArray, List.set_cons_succ, List.set_cons_zero]
                        refine held_take 3 109 8 #[true, false, true, true, false, false, false, false, false, false, false] (v := ?_) rfl rfl (by kernel_rfl) (by kernel_rfl) (by kernel_rfl) (by kernel_rfl) (fun _ _ _ h => h) (by rfl) ?_ hcell ?_
                        rotate_left
                        · intro W hS; go_simp; all_goals with_reducible rfl
                        try simp only [List.setIfInBounds_toArray, List.set_cons_succ, List.set_cons_zero]
                        refine held_take 4 110 7 #[true, false, true, true, true, false, false, false, false, false, false] (v := ?_) rfl rfl (by kernel_rfl) (by kernel_rfl) (by kernel_rfl) (by kernel_rfl) (fun _ _ _ h => h) (by rfl) ?_ hcell ?_
                        rotate_left
                        · intro W hS; go_simp; all_goals with_reducible rfl
                        try simp only [List.setIfInBounds_toArray, List.set_cons_succ, List.set_cons_zero]
                        refine held_take 5 111 6 #[true, false, true, true, true, true, false, false, false, false, false] (v := ?_) rfl rfl (by kernel_rfl) (by kernel_rfl) (by kernel_rfl) (by kernel_rfl) (fun _ _ _ h => h) (by rfl) ?_ hcell ?_
                        rotate_left
                        · intro W hS; go_simp; all_goals with_reducible rfl
                        try simp only [List.setIfInBounds_toArray, List.set_cons_succ, List.set_cons_zero]
                        refine held_call 1 5 #[true, true, true, true, true, true, false, false, false, false, false] (by kernel_rfl) rfl (by rfl) (by kernel_rfl) (fun K hK => ?_)
                        go_simp
                        refine (RText_read g g s wr.drew (hR.below (Below.refl _ _).drew)).mono ?_
                        rintro e' w6 ⟨rfl, d6⟩
                        have HS1 : (fun W => W.cell? ⟨bb, off + j, none⟩ = some (.string t)) w6 := d6.only.cell (w := wr.drew) hcell (by simpa using hgb)
                        have hR6 := d6.is
                        have hb6 : Below B5 w4 w6 := d6.below hb.drew hg0 (Nat.le_trans hB4 hb.size)
                        clear d6
                        refine hK _ _ HS1 ?_
                        clear hK K
                        refine held_take 6 112 4 #[true, true, true, true, true, true, true, false, false, false, false] (v := ?_) rfl rfl (by kernel_rfl) (by kernel_rfl) (by kernel_rfl) (by kernel_rfl) (fun _ _ _ h => h) (by rfl) ?_ HS1 ?_
                        rotate_left
                        · intro W hS; have hd : ((strOf s.readText.1).toList == t.toList) = false := by rw [strOf_toList, toList_data]; simpa using hv2
                          go_simp; go_simp; all_goals with_reducible rfl
                        try simp only [List.setIfInBounds_toArray, List.set_cons_succ, List.set_cons_zero]
                        refine held_take 7 113 3 #[true, true, true, true, true, true, true, true, false, false, false] (v := ?_) rfl rfl (by kernel_rfl) (by kernel_rfl) (by kernel_rfl) (by kernel_rfl) (fun _ _ _ h => h) (by rfl) ?_ HS1 ?_
                        rotate_left
                        · intro W hS; go_simp; all_goals with_reducible rfl
                        try simp only [List.setIfInBounds_toArray, List.set_cons_succ, List.set_cons_zero]
                        refine held_skip 8 114 2 #[true, true, true, true, true, true, true, true, true, false, false] rfl rfl (by kernel_rfl) (by kernel_rfl) (by kernel_rfl) (by kernel_rfl) (fun _ _ _ h => h) (by rfl) HS1 ?_
                        try simp only [List.setIfInBounds_toArray, List.set_cons_succ, List.set_cons_zero]
                        refine held_take 9 115 1 #[true, true, true, true, true, true, true, true, true, true, false] (v := ?_) rfl rfl (by kernel_rfl) (by kernel_rfl) (by kernel_rfl) (by kernel_rfl) (fun _ _ _ h => h) (by rfl) ?_ HS1 ?_
                        rotate_left
                        · intro W hS; go_simp; all_goals with_reducible rfl
                        try simp only [List.setIfInBounds_toArray, List.set_cons_succ, List.set_cons_zero]
                        refine held_take 10 11 0 #[true, true, true, true, true, true, true, true, true, true, true] (v := ?_) rfl rfl (by kernel_rfl) (by kernel_rfl) (by kernel_rfl) (by kernel_rfl) (fun _ _ _ h => h) (by rfl) ?_ HS1 ?_
                        rotate_left
                        · intro W hS; go_simp; all_goals with_reducible rfl
                        try simp only [List.setIfInBounds_toArray, List.set_cons_succ, List.set_cons_zero]
                        refine wpAnyH_done (by kernel_rfl) ?_ _
                        go_wp2_with fail
                        go_roundw
                        case rel => exact ⟨j + 1, _, _, by omega, by go_num, rfl, hR6, hST2.out, hb6⟩
                        case measure => (simp [intOf] <;> omega)
                    · obtain rfl : j = ss.length := by omega
                      rw [List.drop_length, show textsOf [] = [] from rfl] at hST
                      clear hj hlt
                      have hfin := bel4.trans (hb.mono hB50)
                      have hsl6 := hsl4.below hb
                      have hB6 := Nat.le_trans hB4 hb.size
                      have E := End_any g g s wr hR
                      rcases hST.end_ with ⟨hK1, he, rfl⟩ | ⟨hK1, he, rfl⟩ | ⟨hK1, he⟩
                      all_goals first
                        | (exfalso; omega)
                        | (rw [he] at E
                           have E' := Lib.hid E
                           clear E hST hR hb he hK1 hKe
                           go_wp2_with fail
                           refine E'.out.mono ?_
                           rintro e' ww ⟨rfl, rfl⟩
                           go_wp2_with fail
                           go_roundw
                           case rel => exact ⟨3, by omega, by go_num, hfin, hB6, hsl6⟩
                           case measure => (simp [intOf] <;> omega))
end Go.Proofs.Ytneikkofembgmaa
