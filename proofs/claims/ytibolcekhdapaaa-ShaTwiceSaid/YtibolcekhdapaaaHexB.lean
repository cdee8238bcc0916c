/- Hex and the document's, walked. -/
import Derived.Test.YtibolcekhdapaaaHexA
import Derived.Test.YtibolcekhdapaaaGrd
namespace Go.Proofs.Ytibolcekhdapaaa
open Go.RowKit
set_option linter.unusedVariables false
set_option maxRecDepth 10000
set_option linter.unusedSimpArgs false
set_option linter.unnecessarySimpa false

/-- A digit; a sum's digits. -/
def hexd (n : Nat) : UInt8 := if n < 10 then UInt8.ofNat (48 + n) else UInt8.ofNat (87 + n)
def hexL (h : List UInt8) : List UInt8 := h.flatMap fun x => [hexd (x.toNat / 16), hexd (x.toNat % 16)]
theorem hexL_snoc (h : List UInt8) (x : UInt8) : hexL (h ++ [x]) = hexL h ++ [hexd (x.toNat / 16), hexd (x.toNat % 16)] := by simp [hexL]
theorem hexL_len (h : List UInt8) : (hexL h).length = 2 * h.length := by
  induction h with
  | nil => rfl
  | cons x h ih => simp [hexL] at ih ⊢; omega
def digits16 : ByteArray := ⟨#[48, 49, 50, 51, 52, 53, 54, 55, 56, 57, 97, 98, 99, 100, 101, 102]⟩
theorem digit_at (n : Nat) (h : n < 16) (w : World) : (Instr.index 9 (.string ⟨#[48, 49, 50, 51, 52, 53, 54, 55, 56, 57, 97, 98, 99, 100, 101, 102]⟩) (.int .u8 (n : Int))).run Try.prog w = .ok (.int .u8 ((hexd n).toNat : Int)) w := by
  have : n = 0 ∨ n = 1 ∨ n = 2 ∨ n = 3 ∨ n = 4 ∨ n = 5 ∨ n = 6 ∨ n = 7 ∨ n = 8 ∨ n = 9 ∨ n = 10 ∨ n = 11 ∨ n = 12 ∨ n = 13 ∨ n = 14 ∨ n = 15 := by omega
  rw [run_index_string w _ _ _ _ Try.underlying9]
  rcases this with rfl | rfl | rfl | rfl | rfl | rfl | rfl | rfl | rfl | rfl | rfl | rfl | rfl | rfl | rfl | rfl <;> rfl
theorem zero_lit : (bvs (zeros 32)).toArray = #[.int .u8 0, .int .u8 0, .int .u8 0, .int .u8 0, .int .u8 0, .int .u8 0, .int .u8 0, .int .u8 0, .int .u8 0, .int .u8 0, .int .u8 0, .int .u8 0, .int .u8 0, .int .u8 0, .int .u8 0, .int .u8 0, .int .u8 0, .int .u8 0, .int .u8 0, .int .u8 0, .int .u8 0, .int .u8 0, .int .u8 0, .int .u8 0, .int .u8 0, .int .u8 0, .int .u8 0, .int .u8 0, .int .u8 0, .int .u8 0, .int .u8 0, .int .u8 0] := by rfl
theorem hash_at (h : List UInt8) (k : Nat) (hk : k < h.length) (hl : h.length = 32) (w : World) : (Instr.index 24 (.agg (bvs h).toArray) (.int .i64 (k : Int))).run Try.prog w = .ok (u8v h[k]) w := by
  have h1 : (bvs h).toArray[k]? = some (u8v h[k]) := by simp [bvs, hk]
  have hu : Try.prog.underlying 24 = some (.array 32 5) := und_hash
  simp [go_sem, Instr.index, run_underlying hu]
  rw [if_pos (by omega), show (bvs h)[k]? = some (u8v h[k]) by simp [bvs, hk]]
  rfl
/-- What the loop holds. -/
def HexW (w wr : World) (h : List UInt8) (k : Nat) (v : Value) : Prop := ∃ A c, v = .slice A (2 * k) c ∧ Mine w wr (.slice A (2 * k) c) (hexL (h.take k))
set_option maxRecDepth 100000 in
set_option maxHeartbeats 2000000 in
theorem Hex_any (h : List UInt8) (hl : h.length = 32) (w : World) :
    Calls Try.prog 12 #[.agg (bvs h).toArray] w fun e w' => e = .returned (.string (strOf (hexL h))) ∧ Turns [] w w' := by
  obtain ⟨res, hres⟩ : ∃ r, r = strOf (hexL h) := ⟨_, rfl⟩
  rw [← hres]
  have HRES := Lib.hid hres
  obtain ⟨X0, hX0⟩ : ∃ x, x = w.alloc (.cells (bvs h).toArray 24) := ⟨_, rfl⟩
  have b1 := Blk.new w (bvs h) 24
  have tx := (Turns.refl [] w).alloc (.cells (bvs h).toArray 24)
  rw [← hX0] at b1 tx
  obtain ⟨p1, hp1⟩ : ∃ q, q = w.heap.size := ⟨_, rfl⟩
  rw [← hp1] at b1
  have HX := Lib.hid hX0
  have HP := Lib.hid hp1
  have hs32 := Lib.hid (show (Try.prog.info? 24).map (·.size) = some (bvs h).length by rw [size_hash, bvs_length, hl])
  have eq1 := eqlH h (zeros 32) hl (by simp [zeros])
  rw [zero_lit] at eq1
  have H0 := Lib.hid (And.intro b1 (And.intro tx hl))
  clear b1 tx hX0 hp1 hres
  go_enter Try.func12, Try.ntmps12
  by_cases hz : h = zeros 32
  · have hr0 := HRES.out
    rw [hz] at hr0
    have HR0 := Lib.hid (show res = ⟨#[48, 48, 48, 48, 48, 48, 48, 48, 48, 48, 48, 48, 48, 48, 48, 48, 48, 48, 48, 48, 48, 48, 48, 48, 48, 48, 48, 48, 48, 48, 48, 48, 48, 48, 48, 48, 48, 48, 48, 48, 48, 48, 48, 48, 48, 48, 48, 48, 48, 48, 48, 48, 48, 48, 48, 48, 48, 48, 48, 48, 48, 48, 48, 48]⟩ by rw [hr0]; decide +kernel)
    rw [show (h == zeros 32) = true by simp [hz]] at eq1
    clear hz hr0
    go_upto_region 1 with fail
    rw [← HX.out, ← HP.out]
    go_wp2_with (first
      | (refine wpList_load_blk rfl 24 (.tmp 1) rfl p1 (by kernel_rfl) (bvs h) _ _ H0.out.1 Try.underlying24 rfl hs32.out ?_)
      | fail)
    refine (Repeat_c _).mono ?_
    rintro e w' ⟨rfl, rfl⟩
    go_wp2_with fail
    go_ret
    exact ⟨by rw [HR0.out]; rfl, H0.out.2.1⟩
  rw [show (h == zeros 32) = false by simpa using hz] at eq1
  clear hz
  go_upto_region 1 with fail
  rw [← HX.out, ← HP.out]
  go_wp2_with (first
    | (refine wpList_load_blk rfl 24 (.tmp 1) rfl p1 (by kernel_rfl) (bvs h) _ _ H0.out.1 Try.underlying24 rfl hs32.out ?_)
    | fail)
  go_loopw [3, 11] (fun v i wr => ∃ k : Nat, k ≤ 32 ∧ i = .int .i64 k ∧ HexW X0 wr h k v) (fun _ i _ => 32 - (intOf i).toNat)
  case atStart => exact ⟨0, by omega, rfl, none, 0, rfl, Mine.nil (Turns.refl _ _)⟩
  case round =>
    obtain ⟨k, hk, rfl, A, c, rfl, mk⟩ := hrel
    by_cases hlt : k < 32
    · have hki : (k : Int) < 32 := by omega
      have hkl : k < h.length := by rw [hl]; exact hlt
      have hat := hash_at h k hkl hl
      obtain ⟨x, hx⟩ : ∃ x, x = h[k] := ⟨_, rfl⟩
      rw [← hx] at hat
      have htk : h.take (k + 1) = h.take k ++ [x] := by rw [List.take_succ_eq_append_getElem hkl, hx]
      have hxl := x.toNat_lt
      obtain ⟨a, ha⟩ : ∃ a, a = x.toNat / 16 := ⟨_, rfl⟩
      obtain ⟨b, hb⟩ : ∃ b, b = x.toNat % 16 := ⟨_, rfl⟩
      have q1 : (x.toNat : Int) / 16 = (a : Int) := by omega
      have q2 : (x.toNat : Int).tdiv 16 = (a : Int) := by rw [Int.tdiv_eq_ediv_of_nonneg (by omega)]; exact q1
      have r1 : (x.toNat : Int) % 16 = (b : Int) := by omega
      have r2 : (x.toNat : Int).tmod 16 = (b : Int) := by rw [Int.tmod_eq_emod_of_nonneg (by omega)]; exact r1
      have wa : IntKind.u8.wrap (a : Int) = (a : Int) := by rw [IntKind.wrap_u8]; omega
      have d1 := digit_at a (by omega)
      have d2 := digit_at b (by omega)
      have hsn := hexL_snoc (h.take k) x
      rw [← ha, ← hb, ← htk] at hsn
      have HSN := Lib.hid hsn
      have MK := Lib.hid mk
      have HL := Lib.hid (show (hexL (h.take k)).length = 2 * k by rw [hexL_len, List.length_take, hl]; omega)
      clear hsn htk hx hkl mk ha hb hxl hlt hk
      unfold u8v at hat
      go_upto_region 7 with fail
      obtain ⟨D, hD⟩ : ∃ q, q = wr.drew := ⟨_, rfl⟩
      have mD : Mine X0 D (.slice A (2 * k) c) (hexL (h.take k)) := by rw [hD]; exact MK.out.drew
      have HD := Lib.hid hD
      have MD := Lib.hid mD
      clear hD mD
      refine reg_begin (fun _ => True) (fun _ => True) 10 10 #[false, false, false, false, false, false, false, false, false, false] (by kernel_rfl) (by kernel_rfl) (by kernel_rfl) ?_
      rw [← HD.out]
      refine reg_take 0 14 9 #[true, false, false, false, false, false, false, false, false, false] (by rfl) (v := ?_) rfl rfl (by kernel_rfl) (by kernel_rfl) (by kernel_rfl) (by kernel_rfl) (fun _ _ _ h => h) (by rfl) ?_ (Till.mk' trivial trivial) ?_
      rotate_left
      · intro W hS; go_simp; all_goals with_reducible rfl
      try simp only [List.setIfInBounds_toArray, List.set_cons_succ, List.set_cons_zero]
      refine reg_take 1 15 8 #[true, true, false, false, false, false, false, false, false, false] (by rfl) (v := ?_) rfl rfl (by kernel_rfl) (by kernel_rfl) (by kernel_rfl) (by kernel_rfl) (fun _ _ _ h => h) (by rfl) ?_ (Till.mk' trivial trivial) ?_
      rotate_left
      · intro W hS; go_simp; all_goals with_reducible rfl
      try simp only [List.setIfInBounds_toArray, List.set_cons_succ, List.set_cons_zero]
      refine reg_take 2 16 7 #[true, true, true, false, false, false, false, false, false, false] (by rfl) (v := ?_) rfl rfl (by kernel_rfl) (by kernel_rfl) (by kernel_rfl) (by kernel_rfl) (fun _ _ _ h => h) (by rfl) ?_ (Till.mk' trivial trivial) ?_
      rotate_left
      · intro W hS; go_simp; all_goals with_reducible rfl
      try simp only [List.setIfInBounds_toArray, List.set_cons_succ, List.set_cons_zero]
      refine reg_take 3 17 6 #[true, true, true, true, false, false, false, false, false, false] (by rfl) (v := ?_) rfl rfl (by kernel_rfl) (by kernel_rfl) (by kernel_rfl) (by kernel_rfl) (fun _ _ _ h => h) (by rfl) ?_ (Till.mk' trivial trivial) ?_
      rotate_left
      · intro W hS; go_simp; all_goals with_reducible rfl
      try simp only [List.setIfInBounds_toArray, List.set_cons_succ, List.set_cons_zero]
      refine reg_take 4 18 5 #[true, true, true, true, true, false, false, false, false, false] (by rfl) (v := ?_) rfl rfl (by kernel_rfl) (by kernel_rfl) (by kernel_rfl) (by kernel_rfl) (fun _ _ _ h => h) (by rfl) ?_ (Till.mk' trivial trivial) ?_
      rotate_left
      · intro W hS; go_simp; all_goals with_reducible rfl
      try simp only [List.setIfInBounds_toArray, List.set_cons_succ, List.set_cons_zero]
      refine reg_take 5 19 4 #[true, true, true, true, true, true, false, false, false, false] (by rfl) (v := ?_) rfl rfl (by kernel_rfl) (by kernel_rfl) (by kernel_rfl) (by kernel_rfl) (fun _ _ _ h => h) (by rfl) ?_ (Till.mk' trivial trivial) ?_
      rotate_left
      · intro W hS; go_simp; all_goals with_reducible rfl
      try simp only [List.setIfInBounds_toArray, List.set_cons_succ, List.set_cons_zero]
      refine reg_take 6 20 3 #[true, true, true, true, true, true, true, false, false, false] (by rfl) (v := ?_) rfl rfl (by kernel_rfl) (by kernel_rfl) (by kernel_rfl) (by kernel_rfl) (fun _ _ _ h => h) (by rfl) ?_ (Till.mk' trivial trivial) ?_
      rotate_left
      · intro W hS; go_simp; all_goals with_reducible rfl
      try simp only [List.setIfInBounds_toArray, List.set_cons_succ, List.set_cons_zero]
      refine reg_one 7 2 #[true, true, true, true, true, true, true, true, false, false] (by kernel_rfl) rfl (by rfl) (by kernel_rfl) (fun K hK => ?_)
      go_simp
      obtain ⟨X7, hX7⟩ : ∃ q, q = D.alloc (.cells #[.int .u8 ((hexd a).toNat : Int), .int .u8 ((hexd b).toNat : Int)] 5) := ⟨_, rfl⟩
      have h7 : Sl X7 X7.heap.size 1 (.slice (some ⟨D.heap.size, 0, none⟩) 2 2) [hexd a, hexd b].length (bvs [hexd a, hexd b]) := by rw [hX7]; exact (Sl.new D #[u8v (hexd a), u8v (hexd b)] 5 2 1 rfl (by simp [maxLen])).more (by simp)
      have D7 : Turns [] D X7 := by rw [hX7]; exact (Turns.refl _ _).alloc _
      rw [← hX7]
      clear hX7
      refine hK _ _ (Till.mk' trivial trivial) ?_
      clear hK K
      try simp only [List.setIfInBounds_toArray, List.set_cons_succ, List.set_cons_zero]
      refine reg_one 8 1 #[true, true, true, true, true, true, true, true, true, false] (by kernel_rfl) rfl (by rfl) (by kernel_rfl) (fun K hK => ?_)
      obtain ⟨v8, X8, hr8, M8⟩ := mine_append (MD.out.on D7) h7 (by rw [HL.out]; simp; omega) 26
      rw [← HSN.out] at M8
      have hl8 : (hexL (h.take (k + 1))).length = 2 * (k + 1) := by rw [HSN.out, List.length_append, HL.out]; rfl
      obtain ⟨A8, c8, rfl, _⟩ := M8.len
      rw [hl8] at M8 hr8
      refine wp_append_run (P := Try.prog) (w := X7) (.tmp 14) (.tmp 21) (by rfl) (vs := _) (vx := _) (by rfl) (by rfl) (R := fun v w' => Value.slice A8 (2 * (k + 1)) c8 = v ∧ X8 = w') ⟨_, _, hr8, rfl, rfl⟩ ?_
      rintro _ _ ⟨rfl, rfl⟩
      clear hr8
      refine hK _ _ (Till.mk' trivial trivial) ?_
      clear hK K
      try simp only [List.setIfInBounds_toArray, List.set_cons_succ, List.set_cons_zero]
      refine reg_take 9 3 0 #[true, true, true, true, true, true, true, true, true, true] (by rfl) (v := ?_) rfl rfl (by kernel_rfl) (by kernel_rfl) (by kernel_rfl) (by kernel_rfl) (fun _ _ _ h => h) (by rfl) ?_ (Till.mk' trivial trivial) ?_
      rotate_left
      · intro W hS; go_simp; all_goals with_reducible rfl
      try simp only [List.setIfInBounds_toArray, List.set_cons_succ, List.set_cons_zero]
      refine reg_done (by kernel_rfl) ?_ _
      have M9 := Lib.hid M8
      clear M8
      go_wp2_with fail
      go_roundw
      case rel => exact ⟨k + 1, by omega, by go_num, A8, c8, rfl, M9.out⟩
      case measure => (simp [intOf] <;> omega)
    · obtain rfl : k = 32 := by omega
      rw [List.take_of_length_le (by omega)] at mk
      have hcv := conv_str (P := Try.prog) (src := 26) (dst := 9) (e := 5) mk.sl Try.underlying26 und_u8 Try.underlying9
      rw [← HRES.out] at hcv
      have HT := Lib.hid (H0.out.2.1.trans mk.turns (by simp))
      clear mk
      go_wp2_with fail
      go_ret
      exact ⟨rfl, HT.out⟩
end Go.Proofs.Ytibolcekhdapaaa
