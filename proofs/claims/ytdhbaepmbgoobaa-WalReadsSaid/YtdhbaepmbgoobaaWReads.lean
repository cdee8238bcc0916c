/- Of any pages what is told is the document's: WalReads. -/
import Derived.Test.YtdhbaepmbgoobaaXTw
import Derived.Test.YtdhbaepmbgoobaaWKn
namespace Go.Proofs.Ytdhbaepmbgoobaa
open Go.RowKit
set_option linter.unusedVariables false
set_option maxRecDepth 10000
set_option linter.unusedSimpArgs false
set_option linter.unnecessarySimpa false

theorem Two.arg {w0 w : World} {g xg p n size : Nat} {st sx : DS} {X : List Nat} {v : Value} {xs : List Value} (h : Two w0 w g xg p st sx X) (hs : Sl w0 w0.heap.size size v n xs) : Sl w w.heap.size size v n xs := (hs.below h.bel).more h.bel.size
/-- The head's bytes, as far as they are laid. -/
def HC (n k : Int) (i : Nat) : List UInt8 := (le8 n).take i ++ zeros (8 - i) ++ ((le8 k).take i ++ zeros (8 - i))
theorem hc_len (n k : Int) (i : Nat) (hi : i ≤ 8) : (HC n k i).length = 16 := by
  unfold HC
  simp only [List.length_append, List.length_take, le8_length, zeros_length]
  omega
theorem le8_list (n : Int) : le8 n = [byteAt n 0, byteAt n 1, byteAt n 2, byteAt n 3, byteAt n 4, byteAt n 5, byteAt n 6, byteAt n 7] := rfl
theorem hc_step (n k : Int) (i : Nat) (hi : i < 8) : ((bvs (HC n k i)).set i (u8v (byteAt n i))).set (8 + i) (u8v (byteAt k i)) = bvs (HC n k (i + 1)) := by
  unfold HC
  rw [le8_list n, le8_list k]
  have : i = 0 ∨ i = 1 ∨ i = 2 ∨ i = 3 ∨ i = 4 ∨ i = 5 ∨ i = 6 ∨ i = 7 := by omega
  rcases this with rfl | rfl | rfl | rfl | rfl | rfl | rfl | rfl <;> rfl
theorem hc_end (n k : Int) : HC n k 8 = le8 n ++ le8 k := by
  unfold HC
  rw [List.take_of_length_le (by rw [le8_length]; omega), List.take_of_length_le (by rw [le8_length]; omega)]
  simp [zeros]
def RdR (w0 : World) (g xg nl : Nat) (i : Value) (wr : World) : Prop := ∃ (k : Nat) (st : DS), k ≤ nl ∧ i = .int .i64 k ∧ Two w0 wr g xg 6 st st [] ∧ st.left = 0 ∧ st.dead = false ∧ st.writes.length = k
def HdB (w0 : World) (g xg yb : Nat) (st : DS) (n k : Int) (i : Value) (wr : World) : Prop := ∃ j : Nat, j ≤ 8 ∧ i = .int .i64 j ∧ Two w0 wr g xg 6 st st [yb] ∧ Blk wr yb (bvs (HC n k j)) 5

set_option maxRecDepth 100000 in
set_option maxHeartbeats 8000000 in
theorem WalReads_walk (Al : Option Addr) (nl cl : Nat) (ls : List (List UInt8)) (zn zk : Int) (w : World)
    (hl : Sls w w.heap.size (.slice Al nl cl) nl ls) (hzn : -9223372036854775808 ≤ zn ∧ zn ≤ 9223372036854775807) (hzk : -9223372036854775808 ≤ zk ∧ zk ≤ 9223372036854775807) :
    Calls Try.prog 5 #[.slice Al nl cl, .int .i64 zn, .int .i64 zk] w fun e w' => e = .returned (.bool true) ∧ Below w.heap.size w w' := by
  have KN := Lib.hid (known_any w)
  have hcl : nl ≤ cl ∧ cl ≤ 9223372036854775807 := by
    obtain ⟨A, c, e, h1, h2⟩ := hl.form
    injection e with _ _ e3
    subst e3
    unfold maxLen at h2
    omega
  have HL := Lib.hid hl
  clear hl
  by_cases h5 : 5 < nl
  · have h5I : (5 : Int) < nl := by omega
    go_enter Try.func5, Try.ntmps5
    go_wp2_with fail
    refine KN.out.mono ?_
    rintro e w1 ⟨rfl, t1⟩
    have H1 := Lib.hid (Turns.below (B := w.heap.size) t1 (Nat.le_refl _) (by simp))
    clear KN t1
    go_wp2_with fail
    go_ret
    exact ⟨rfl, H1.out⟩
  have h5I : (nl : Int) ≤ 5 := by omega
  go_enter Try.func5, Try.ntmps5
  go_wp2_with fail
  refine KN.out.mono ?_
  rintro e w1 ⟨rfl, t1⟩
  have H1 := Lib.hid (Turns.below (B := w.heap.size) t1 (Nat.le_refl _) (by simp))
  clear KN t1
  go_wp2_with fail
  refine (New_at (w0 := w) (w := w1) 6 (by omega) (by omega) H1.out).mono ?_
  rintro e w2 ⟨B, g, rfl, a2, b2⟩
  have TN := Lib.hid (TNew a2)
  clear a2 b2
  go_wp2_with fail
  refine TN.out.mono ?_
  rintro e w3 ⟨xg, rfl, two3⟩
  have H3 := Lib.hid two3
  clear TN two3
  go_wp2_with fail
  go_loopw [11] (fun i wr => RdR w g xg nl i wr) (fun i _ => nl - (intOf i).toNat)
  case atStart => exact ⟨0, fresh 6, by omega, rfl, H3.out, rfl, rfl, rfl⟩
  case round =>
    obtain ⟨k, st, hk, rfl, tw, hlf, hdd, hwl⟩ := hrel
    obtain ⟨Y, hY⟩ : ∃ Y, Y = wr := ⟨_, rfl⟩
    subst hY
    by_cases hka : k < nl
    · have hkI : (k : Int) < nl := by omega
      obtain ⟨b5, o5, c5, n5, A5, l5, ⟨c5', hv5, _⟩, hb5, hd5, hl5, hn5, hs5w⟩ := HL.out.get hka
      injection hv5 with e5 _ e6
      subst e5 e6
      have hc5 := (tw.bel.cell (p := ⟨b5, o5 + k, none⟩) hb5).trans hd5
      have hn5b : n5 ≤ 9223372036854775807 := by
        obtain ⟨_, _, _, ee, h1, h2, _⟩ := hs5w
        injection ee with _ _ e3
        subst e3
        unfold maxLen at h2
        omega
      by_cases h60 : 64 < n5
      · have h60I : (64 : Int) < n5 := by omega
        have HF := Lib.hid tw.bel
        clear tw hs5w hd5
        go_wp2_with fail
        go_ret
        exact ⟨rfl, HF.out⟩
      · have h60I : (n5 : Int) ≤ 64 := by omega
        obtain rfl : l5.length = n5 := hn5
        have W1 := TWrite tw (k + 1) _ _ l5 (tw.arg hs5w) (by omega) (by omega) hdd (by omega)
        rw [show ((k + 1 : Nat) : Int) = (k : Int) + 1 by omega] at W1
        have hcw := Lib.hid fun (W : World) (hbel : Below w.heap.size w W) => (hbel.cell (p := ⟨b5, o5 + k, none⟩) hb5).trans hd5
        have HS := Lib.hid hs5w
        have HI := Lib.hid (And.intro hlf (And.intro hdd hwl))
        replace W1 := Lib.hid W1
        clear tw hs5w hd5 hl5 hlf hdd hwl
        go_wp2_with fail
        refine W1.out.mono ?_
        rintro e y1 ⟨rfl, tw1, _⟩
        have hc6 := hcw.out y1 tw1.bel
        have W2 := TRWrite tw1 (k + 1) _ _ l5 (tw1.arg HS.out) (by omega) (by omega) HI.out.2.1 (by have := HI.out.2.2; omega)
        rw [show ((k + 1 : Nat) : Int) = (k : Int) + 1 by omega] at W2
        replace W2 := Lib.hid W2
        clear tw1 W1
        go_wp2_with fail
        refine W2.out.mono ?_
        rintro e y2 ⟨rfl, tw2, _⟩
        have HF := Lib.hid tw2
        clear tw2 W2
        go_wp2_with fail
        go_roundw
        case rel => exact ⟨k + 1, _, by omega, by go_num, HF.out, wrote_left0 _ _ _ HI.out.1, wrote_alive _ _ _ HI.out.2.1 (code_left0 _ HI.out.1), by rw [wrote_wl, HI.out.2.2]⟩
        case measure => (simp [intOf] <;> omega)
    · have hkI : ¬ (k : Int) < nl := by omega
      have hmk : (Instr.makeSlice 34 (.int .i64 16) (.int .i64 16)).run Try.prog Y = .ok (.slice (some ⟨Y.heap.size, 0, none⟩) 16 16) (Y.alloc (.cells (bvs (zeros 16)).toArray 5)) := run_make_u8 16 (by omega) Y
      obtain ⟨Y2, hY2⟩ : ∃ Y2, Y2 = Y.alloc (.cells (bvs (zeros 16)).toArray 5) := ⟨_, rfl⟩
      have bz := Blk.new Y (bvs (zeros 16)) 5
      rw [← hY2] at hmk bz
      have t2 : Turns [] Y Y2 := by rw [hY2]; exact (Turns.refl _ _).alloc _
      have hyz : Y2.heap.size = Y.heap.size + 1 := by rw [hY2]; simp
      have tw2 := tw.more t2 (Nat.le_refl _) (by omega)
      obtain ⟨yb, hyb⟩ : ∃ yb, yb = Y.heap.size := ⟨_, rfl⟩
      rw [← hyb] at hmk bz tw2
      have HI := Lib.hid (And.intro hlf (And.intro hdd hwl))
      have H2 := Lib.hid (And.intro tw2 bz)
      clear hlf hdd hwl tw tw2 bz hY2 hyz t2 hyb
      go_wp2_with fail
      clear hmk
      go_loopw [13] (fun i wr => HdB w g xg yb st zn zk i wr) (fun i _ => 8 - (intOf i).toNat)
      case atStart => exact ⟨0, by omega, rfl, H2.out.1, H2.out.2⟩
      case round =>
        obtain ⟨j, hj, rfl, tw, bz⟩ := hrel
        obtain ⟨Z, hZ⟩ : ∃ Z, Z = wr := ⟨_, rfl⟩
        subst hZ
        by_cases hj8 : j < 8
        · have hjI : (j : Int) < 8 := by omega
          have hlc := hc_len zn zk j hj
          obtain ⟨x1, hx1⟩ : ∃ x, (bvs (HC zn zk j))[j]? = some x := ⟨_, List.getElem?_eq_getElem (by rw [bvs_length, hlc]; omega)⟩
          obtain ⟨x2, hx2⟩ : ∃ x, (bvs (HC zn zk j))[8 + j]? = some x := ⟨_, List.getElem?_eq_getElem (by rw [bvs_length, hlc]; omega)⟩
          have q1 := bz.cell j
          have q2 := bz.cell (8 + j)
          rw [hx1] at q1
          rw [hx2] at q2
          have f1 := bz.free j
          have f2 := bz.free (8 + j)
          have HZ := Lib.hid (And.intro tw bz)
          clear tw bz hx1 hx2 hlc
          have b2 := ((HZ.out.2.set j (u8v (byteAt zn j))).set (8 + j) (u8v (byteAt zk j)))
          rw [hc_step zn zk j hj8, ← u8v_byteAt, ← u8v_byteAt] at b2
          have T2 : Turns [yb] Z ((Z.setCell ⟨yb, j, none⟩ (.int .u8 (IntKind.u64.wrap zn / 2 ^ (8 * j) % 256))).setCell ⟨yb, 8 + j, none⟩ (.int .u8 (IntKind.u64.wrap zk / 2 ^ (8 * j) % 256))) := ((Turns.refl [yb] Z).setCell (p := ⟨yb, j, none⟩) (.inl (by simp)) _).setCell (p := ⟨yb, 8 + j, none⟩) (.inl (by simp)) _
          have HF := Lib.hid (And.intro (HZ.out.1.turn T2 (by simp)) b2)
          clear b2 T2
          go_wp2_with fail
          go_roundw
          case rel => exact ⟨j + 1, by omega, by go_num, HF.out.1, HF.out.2⟩
          case measure => (simp [intOf] <;> omega)
        · have hjI : ¬ (j : Int) < 8 := by omega
          obtain rfl : j = 8 := by omega
          rw [hc_end] at bz
          obtain ⟨hb, hhb⟩ : ∃ h, h = le8 zn ++ le8 zk := ⟨_, rfl⟩
          have hbl : hb.length = 16 := by rw [hhb, List.length_append, le8_length, le8_length]
          rw [← hhb] at bz
          clear hhb
          have hsl : ∀ W, Blk W yb (bvs hb) 5 → Sl W W.heap.size 1 (.slice (some ⟨yb, 0, none⟩) hb.length 16) hb.length (bvs hb) := fun W b => by
            have h := b.slice 0 16 16 (by rw [bvs_length, hbl]; omega) (Nat.le_refl _) (by simp [maxLen])
            rw [List.drop_zero, List.take_of_length_le (by rw [bvs_length, hbl]; omega)] at h
            rw [hbl]; exact h
          have W1 := TWrite tw 0 _ _ hb (hsl Z bz) (by omega) (by omega) HI.out.2.1 (by have := HI.out.2.2; omega)
          rw [hbl] at W1
          have HS := Lib.hid hsl
          have HBZ := Lib.hid bz
          replace W1 := Lib.hid W1
          clear hsl tw bz
          go_wp2_with fail
          refine W1.out.mono ?_
          rintro e y1 ⟨rfl, tw1, sm1⟩
          have W2 := TRWrite tw1 0 _ _ hb (HS.out y1 (sm1.blk (x := yb) (by simp) HBZ.out)) (by omega) (by omega) HI.out.2.1 (by have := HI.out.2.2; omega)
          rw [hbl] at W2
          replace W2 := Lib.hid W2
          clear tw1 sm1 W1
          go_wp2_with fail
          refine W2.out.mono ?_
          rintro e y2 ⟨rfl, tw2, _⟩
          have SM := Lib.hid (Tsame tw2)
          have HF := Lib.hid tw2
          clear tw2 W2
          go_wp2_with fail
          refine SM.out.mono ?_
          rintro e y3 ⟨rfl, t3⟩
          have HF3 := Lib.hid (HF.out.turn t3 (by simp)).bel
          clear t3 SM
          go_wp2_with fail
          go_ret
          exact ⟨rfl, HF3.out⟩
end Go.Proofs.Ytdhbaepmbgoobaa
