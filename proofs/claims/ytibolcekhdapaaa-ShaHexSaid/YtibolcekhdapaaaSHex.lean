/- ShaHex, walked. -/
import Derived.Test.YtibolcekhdapaaaSumL
namespace Go.Proofs.Ytibolcekhdapaaa
open Go.RowKit
set_option linter.unusedVariables false
set_option maxRecDepth 10000
set_option linter.unusedSimpArgs false
set_option linter.unnecessarySimpa false

theorem hexL_at : ∀ (h : List UInt8) (i : Nat) (hi : i < h.length), (hexL h)[2 * i]? = some (hexd (h[i].toNat / 16)) ∧ (hexL h)[2 * i + 1]? = some (hexd (h[i].toNat % 16))
  | [], i, hi => by simp at hi
  | x :: h, 0, hi => by simp [hexL]
  | x :: h, i + 1, hi => by
    have := hexL_at h i (by simpa using hi)
    have e : hexL (x :: h) = hexd (x.toNat / 16) :: hexd (x.toNat % 16) :: hexL h := by simp [hexL]
    rw [e, show 2 * (i + 1) = 2 * i + 1 + 1 by omega]
    simpa using this
theorem hexd_two (d : Nat) (h : d < 16) : (d < 10 ∧ ((hexd d).toNat : Int) = 48 + d) ∨ (10 ≤ d ∧ ((hexd d).toNat : Int) = 87 + d) := by
  unfold hexd
  by_cases h10 : d < 10
  · left; rw [if_pos h10, UInt8.toNat_ofNat']; omega
  · right; rw [if_neg h10, UInt8.toNat_ofNat']; omega
theorem ret_i {a b : Int} (h : a = b) : Value.int .i64 a = Value.int .i64 b := by rw [h]
def DigAt (S : ByteArray) (x : Nat) (j k : Nat) : Prop := ∀ W, (Instr.index 9 (.string S) (.int .i64 ((j + k : Nat) : Int))).run Try.prog W = .ok (.int .u8 ((hexd (if k = 0 then x / 16 else x % 16)).toNat : Int)) W
set_option maxRecDepth 100000 in
set_option maxHeartbeats 2000000 in
theorem ShaHex_walk (h : List UInt8) (hl : h.length = 32) (w : World) :
    Calls Try.prog 6 #[.agg (bvs h).toArray] w fun e w' => e = .returned (.bool true) ∧ Below w.heap.size w w' := by
  obtain ⟨X0, hX0⟩ : ∃ x, x = w.alloc (.cells (bvs h).toArray 24) := ⟨_, rfl⟩
  have b1 := Blk.new w (bvs h) 24
  have tx := (Turns.refl [] w).alloc (.cells (bvs h).toArray 24)
  rw [← hX0] at b1 tx
  obtain ⟨p1, hp1⟩ : ∃ q, q = w.heap.size := ⟨_, rfl⟩
  rw [← hp1] at b1
  have KN := Lib.hid (known_any X0)
  have HX := Lib.hid hX0
  have HP := Lib.hid hp1
  have hs32 := Lib.hid (show (Try.prog.info? 24).map (·.size) = some (bvs h).length by rw [size_hash, bvs_length, hl])
  have H0 := Lib.hid (And.intro b1 (And.intro tx hl))
  have hidx : ∀ (i k : Nat), i < 32 → k < 2 → ∀ x, h[i]? = some x → DigAt (strOf (hexL h)) x.toNat (2 * i) k := by
    intro i k hi hk x hx W
    have hil : i < h.length := by omega
    obtain rfl : h[i] = x := by rw [List.getElem?_eq_getElem hil] at hx; injection hx
    have hd := hexL_at h i hil
    have hlen : (hexL h).length = 64 := by rw [hexL_len, hl]
    rw [run_index_string W _ _ _ _ Try.underlying9, dif_pos (by rw [strOf_size, hlen]; omega)]
    have hg : ∀ (j : Nat) (y : UInt8) (hj : j < (strOf (hexL h)).size), (hexL h)[j]? = some y → (strOf (hexL h))[j] = y := by
      intro j y hj hy
      have : (strOf (hexL h))[j] = (hexL h)[j]'(by rw [hlen]; rw [strOf_size, hlen] at hj; exact hj) := rfl
      rw [this]
      rw [List.getElem?_eq_getElem (by rw [hlen]; rw [strOf_size, hlen] at hj; exact hj)] at hy
      injection hy
    have hk2 : k = 0 ∨ k = 1 := by omega
    rcases hk2 with rfl | rfl
    · congr 3
      congr 1
      exact hg (2 * i) _ (by rw [strOf_size, hlen]; omega) hd.1
    · congr 3
      congr 1
      exact hg (2 * i + 1) _ (by rw [strOf_size, hlen]; omega) hd.2
  obtain ⟨S, hS⟩ : ∃ S, S = strOf (hexL h) := ⟨_, rfl⟩
  have hs64 : S.size = 64 := by rw [hS, strOf_size, hexL_len, hl]
  have HHX := Lib.hid (fun w => Hex_any h hl w)
  rw [← hS] at HHX hidx
  have HID := Lib.hid hidx
  clear b1 tx hX0 hp1 hS hidx
  go_enter Try.func6, Try.ntmps6
  go_upto_region 1 with fail
  rw [← HX.out, ← HP.out]
  go_wp2_with fail
  refine KN.out.mono ?_
  rintro e w1 ⟨rfl, t1⟩
  have v1 := Lib.hid (H0.out.1.turns t1 (by simp))
  have HT1 := Lib.hid (H0.out.2.1.trans t1 (by simp))
  clear t1 KN
  go_wp2_with (first
    | (refine wpList_load_blk rfl 24 (.tmp 1) rfl p1 (by kernel_rfl) (bvs h) _ _ v1.out Try.underlying24 rfl hs32.out ?_)
    | fail)
  refine (HHX.out w1).mono ?_
  rintro e w2 ⟨rfl, t2⟩
  have v2 := Lib.hid (v1.out.turns t2 (by simp))
  have HT2 := Lib.hid (HT1.out.trans t2 (by simp))
  clear t2 HHX
  go_wp2_with fail
  go_loop [4] (fun i => ∃ k : Nat, k ≤ 32 ∧ i = .int .i64 k) (fun i => 32 - (intOf i).toNat)
  case atStart => exact ⟨0, by omega, rfl⟩
  case round =>
    obtain ⟨k, hk, rfl⟩ := hrel
    by_cases hlt : k < 32
    · have hki : (k : Int) < 32 := by omega
      have hkl : k < h.length := by rw [hl]; exact hlt
      obtain ⟨x, hx⟩ : ∃ x, h[k]? = some x := ⟨_, List.getElem?_eq_getElem hkl⟩
      have cb : w2.cell? ⟨p1, k, none⟩ = some (.int .u8 (x.toNat : Int)) := by
        rw [v2.out.cell]
        simp [bvs, hx, u8v]
      have hx255 := x.toNat_lt
      have HD0 := Lib.hid (HID.out k 0 hlt (by omega) x hx)
      have HD1 := Lib.hid (HID.out k 1 hlt (by omega) x hx)
      have HXX := Lib.hid hx255
      clear hx hkl hlt hk hx255
      go_upto_block 2 with fail
      obtain ⟨a, ha⟩ : ∃ a, a = x.toNat / 16 := ⟨_, rfl⟩
      obtain ⟨b, hb⟩ : ∃ b, b = x.toNat % 16 := ⟨_, rfl⟩
      have hab : x.toNat = 16 * a + b ∧ a < 16 ∧ b < 16 := by have := HXX.out; omega
      obtain ⟨y, hy⟩ : ∃ y, y = x.toNat := ⟨_, rfl⟩
      have hD0 : ∀ W, (Instr.index 9 (.string S) (.int .i64 (2 * (k : Int)))).run Try.prog W = .ok (.int .u8 ((hexd a).toNat : Int)) W := by
        have := HD0.out
        unfold DigAt at this
        rw [if_pos rfl, ← ha] at this
        intro W
        have h2 := this W
        rwa [show ((2 * k + 0 : Nat) : Int) = 2 * (k : Int) by omega] at h2
      have hD1 : ∀ W, (Instr.index 9 (.string S) (.int .i64 (2 * (k : Int) + 1))).run Try.prog W = .ok (.int .u8 ((hexd b).toNat : Int)) W := by
        have := HD1.out
        unfold DigAt at this
        rw [if_neg (by omega), ← hb] at this
        intro W
        have h2 := this W
        rwa [show ((2 * k + 1 : Nat) : Int) = 2 * (k : Int) + 1 by omega] at h2
      have HAB := Lib.hid hab
      rw [← hy] at cb
      have HY := Lib.hid (show y = 16 * a + b by rw [hy]; exact hab.1)
      have HDD := Lib.hid (And.intro hD0 hD1)
      clear ha hb hab hy hD0 hD1 HD0 HD1
      go_wp2_with fail
      go_loop [5, 6] (fun n i => ∃ j : Nat, j ≤ 2 ∧ i = .int .i64 j ∧ n = .int .i64 ((if j = 0 then 0 else if j = 1 then a else y : Nat) : Int)) (fun _ i => 2 - (intOf i).toNat)
      case atStart => exact ⟨0, by omega, rfl, rfl⟩
      case round =>
        obtain ⟨j, hj, rfl, rfl⟩ := hrel
        have hj3 : j = 0 ∨ j = 1 ∨ j = 2 := by omega
        clear hj
        rcases hj3 with rfl | rfl | rfl
        · have hd := HDD.out.1
          have h16 := HAB.out.2.1
          rw [if_pos rfl]
          rcases hexd_two a h16 with ⟨ht, hv⟩ | ⟨ht, hv⟩
          · skip
            obtain ⟨cv, hcv⟩ : ∃ c : Int, c = ((hexd a).toNat : Int) := ⟨_, rfl⟩
            rw [← hcv] at hv hd
            have f1 : 48 ≤ cv := by omega
            have f2 : cv ≤ 57 := by omega
            have f3 : (cv - 48) % 256 = ((a : Nat) : Int) := by omega
            have f4 : IntKind.u8.wrap (cv - 48) = ((a : Nat) : Int) := by rw [IntKind.wrap_u8]; omega
            have fdi : (a : Int) < 16 := by omega
            clear hv hcv ht h16
            go_wp2_with fail
            go_round
            case rel => exact ⟨1, by omega, by go_num, ret_i (by simp)⟩
            case measure => simp [intOf]
          · skip
            obtain ⟨cv, hcv⟩ : ∃ c : Int, c = ((hexd a).toNat : Int) := ⟨_, rfl⟩
            rw [← hcv] at hv hd
            have f1 : 48 ≤ cv := by omega
            have f2 : ¬ cv ≤ 57 := by omega
            have f5 : 97 ≤ cv := by omega
            have f6 : cv ≤ 102 := by omega
            obtain ⟨d', hd'⟩ : ∃ d', d' = a - 10 := ⟨_, rfl⟩
            have f7 : d' < 6 := by omega
            have f3 : (cv - 97) % 256 = ((d' : Nat) : Int) := by omega
            have f4 : IntKind.u8.wrap (cv - 97) = ((d' : Nat) : Int) := by rw [IntKind.wrap_u8]; omega
            have HD' := Lib.hid (show a = d' + 10 by omega)
            have f7i : (d' : Int) < 6 := by omega
            clear hd' f7
            have fdi : (a : Int) < 16 := by omega
            clear hv hcv ht h16
            go_wp2_with fail
            go_round
            case rel => exact ⟨1, by omega, by go_num, ret_i (by simp [HD'.out])⟩
            case measure => simp [intOf]
        · have hd := HDD.out.2
          have h16 := HAB.out.2.2
          have ha16 := HAB.out.2.1
          have hai : (a : Int) < 16 := by omega
          rw [if_neg (by omega), if_pos rfl]
          clear ha16
          rcases hexd_two b h16 with ⟨ht, hv⟩ | ⟨ht, hv⟩
          · skip
            obtain ⟨cv, hcv⟩ : ∃ c : Int, c = ((hexd b).toNat : Int) := ⟨_, rfl⟩
            rw [← hcv] at hv hd
            have f1 : 48 ≤ cv := by omega
            have f2 : cv ≤ 57 := by omega
            have f3 : (cv - 48) % 256 = ((b : Nat) : Int) := by omega
            have f4 : IntKind.u8.wrap (cv - 48) = ((b : Nat) : Int) := by rw [IntKind.wrap_u8]; omega
            have fdi : (b : Int) < 16 := by omega
            clear hv hcv ht h16
            go_wp2_with fail
            go_round
            case rel => exact ⟨2, by omega, by go_num, ret_i (by simp [HY.out])⟩
            case measure => simp [intOf]
          · skip
            obtain ⟨cv, hcv⟩ : ∃ c : Int, c = ((hexd b).toNat : Int) := ⟨_, rfl⟩
            rw [← hcv] at hv hd
            have f1 : 48 ≤ cv := by omega
            have f2 : ¬ cv ≤ 57 := by omega
            have f5 : 97 ≤ cv := by omega
            have f6 : cv ≤ 102 := by omega
            obtain ⟨d', hd'⟩ : ∃ d', d' = b - 10 := ⟨_, rfl⟩
            have f7 : d' < 6 := by omega
            have f3 : (cv - 97) % 256 = ((d' : Nat) : Int) := by omega
            have f4 : IntKind.u8.wrap (cv - 97) = ((d' : Nat) : Int) := by rw [IntKind.wrap_u8]; omega
            have HD' := Lib.hid (show b = d' + 10 by omega)
            have f7i : (d' : Int) < 6 := by omega
            clear hd' f7
            have fdi : (b : Int) < 16 := by omega
            clear hv hcv ht h16
            go_wp2_with fail
            go_round
            case rel => exact ⟨2, by omega, by go_num, ret_i (by simp [HY.out]; have := HD'.out; omega)⟩
            case measure => simp [intOf]
        · rw [if_neg (by omega), if_neg (by omega)]
          have hyi : (y : Int) < 256 := by have := HAB.out; have := HY.out; omega
          have hy0 : 0 ≤ (y : Int) := by omega
          have hyw : wrap64 (y : Int) = (y : Int) := by unfold wrap64; omega
          go_wp2_with fail
          go_round
          case rel => exact ⟨k + 1, by omega, by go_num⟩
          case measure => (simp [intOf] <;> omega)
    · obtain rfl : k = 32 := by omega
      clear hlt hk
      go_wp2_with fail
      go_ret
      exact ⟨rfl, below_of HT2.out⟩
end Go.Proofs.Ytibolcekhdapaaa
