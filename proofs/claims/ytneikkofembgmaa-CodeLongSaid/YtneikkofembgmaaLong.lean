/- A text has two bytes that say how long it is, and as many as it has: the law CodeLong. -/
import Derived.Test.YtneikkofembgmaaLess
namespace Go.Proofs.Ytneikkofembgmaa
open Go.RowKit
set_option linter.unusedVariables false
set_option linter.unusedSimpArgs false
set_option linter.unnecessarySimpa false

theorem zeros_bvs (n : Nat) : (madeCells #[Value.int .u8 0] (n * 1)).toList = bvs (List.replicate n (0 : UInt8)) := by
  apply List.ext_getElem?
  intro i
  by_cases h : i < n
  · simp [madeCells, bvs, u8v, List.getElem?_replicate, h, Nat.mod_one]
  · simp [madeCells, bvs, u8v, List.getElem?_replicate, h]

/-- 'make([]byte, n)'. -/
theorem run_make_bytes {P : Program} {t e : TypeId} (T : SliceTy P t e (.int .u8 0) 1 1) (n : Nat) (hn : n ≤ 140737488355328) (w : World) :
    (Instr.makeSlice t (.int .i64 (n : Int)) (.int .i64 (n : Int))).run P w = .ok (.slice (some ⟨w.heap.size, 0, none⟩) n n) (w.alloc (.cells (bvs (List.replicate n 0)).toArray e)) := by
  obtain ⟨i, hi, hz, hsz, hby⟩ := info_parts T.info
  have hr := run_make (P := P) w t e i (.int .u8 0) T.und hi hz .i64 .i64 n n (by omega) (by omega) (by rw [hby]; omega) (by omega)
  simp only [Int.toNat_natCast] at hr
  have hz1 : (Value.int IntKind.u8 0).cells = #[Value.int .u8 0] := rfl
  rw [hr, hsz, hz1, ← zeros_bvs]

set_option maxHeartbeats 4000000 in
theorem CodeLong_walk (n : Int) (y : Int) (w : World) (hn1 : -9223372036854775808 ≤ n) (hn2 : n ≤ 9223372036854775807) (hy1 : 0 ≤ y) (hy2 : y ≤ 255) :
    Calls Try.prog 6 #[.int .i64 n, .int .u8 y] w fun e w' => e = .returned (.bool true) ∧ Below w.heap.size w w' := by
  have n3 := Int.emod_nonneg n (show (5 : Int) ≠ 0 by omega)
  have n4 := Int.emod_lt_of_pos n (show (0 : Int) < 5 by omega)
  have WN := Lib.hid (fun w => within_any n 5 w hn1 hn2 (by omega) (by omega))
  generalize n % 5 = nn at *
  obtain ⟨N, rfl⟩ : ∃ N : Nat, nn = (N : Int) := ⟨nn.toNat, by omega⟩
  have hmk := fun W : World => run_make_bytes T8 (65533 + N) (by omega) W
  rw [show ((65533 + N : Nat) : Int) = 65533 + (N : Int) by omega] at hmk
  obtain ⟨cs, hcs⟩ : ∃ cs, cs = (bvs (List.replicate (65533 + N) 0)).toArray := ⟨_, rfl⟩
  rw [← hcs] at hmk
  have hl0 : bvs (List.replicate (65533 + N) 0) = u8v 0 :: bvs (List.replicate (65532 + N) 0) := by
    rw [show 65533 + N = (65532 + N) + 1 by omega, List.replicate_succ]; rfl
  have h0 : cs[0]? = some (.int .u8 0) := by rw [hcs, hl0]; rfl
  have hsz : cs.size = 65533 + N := by rw [hcs, List.size_toArray, bvs_length, List.length_replicate]
  obtain ⟨L, hL⟩ : ∃ L, L = UInt8.ofNat y.toNat :: List.replicate (65532 + N) (0 : UInt8) := ⟨_, rfl⟩
  have hy : u8v (UInt8.ofNat y.toNat) = .int .u8 y := u8v_ofNat y hy1 (by omega)
  have hcs1 : cs.setIfInBounds 0 (.int .u8 y) = (bvs L).toArray := by
    rw [hcs, hl0, hL, ← hy]
    simp [bvs]
  have hLl : L.length = 65533 + N := by rw [hL, List.length_cons, List.length_replicate]; omega
  obtain ⟨K, hK⟩ : ∃ K : Nat, K = min (65533 + N) 65535 := ⟨_, rfl⟩
  have hcl : (cutText L).length = K := by rw [cutText, List.length_take, hLl, hK]; omega
  have htb : textBytes L = [byte1 K, byte1 ((K : Int) / 256)] ++ cutText L := by rw [textBytes, hcl]
  have hidx : ∀ W : World, (Instr.index 9 (.string (strOf (cutText L))) (.int .i64 0)).run Try.prog W = .ok (.int .u8 y) W := by
    intro W
    have e1 : cutText L = UInt8.ofNat y.toNat :: (List.replicate (65532 + N) 0).take 65534 := by
      rw [cutText, hL]
      exact List.take_succ_cons
    have hu : ((UInt8.ofNat y.toNat).toNat : Int) = y := by rw [UInt8.toNat_ofNat', Nat.mod_eq_of_lt (by omega)]; omega
    rw [e1]
    generalize (List.replicate (65532 + N) (0 : UInt8)).take 65534 = r
    rw [run_index_string W _ _ _ _ Try.underlying9, dif_pos ⟨by omega, by rw [strOf_size]; simp⟩]
    have hi : (strOf (UInt8.ofNat y.toNat :: r))[(0 : Int).toNat]'(by rw [strOf_size]; simp) = UInt8.ofNat y.toNat := rfl
    rw [hi, hu]
  have q1 : RS.readText ⟨textBytes L, 0⟩ = (cutText L, ⟨[], 0⟩) := by
    rw [htb]
    unfold RS.readText RS.number
    rw [ok_take _ 2 rfl (by simp)]
    show RS.take ⟨cutText L, 0⟩ (leInt [byte1 K, byte1 ((K : Int) / 256)]).toNat = _
    rw [two_bytes K (by omega) (by omega), Int.toNat_natCast, ok_take _ K rfl (by rw [hcl]; exact Nat.le_refl _)]
    simp only [List.take_of_length_le (Nat.le_of_eq hcl), List.drop_eq_nil_of_le (Nat.le_of_eq hcl)]
  have Q1 := Lib.hid q1
  have HCS := Lib.hid hcs1
  have HTB := Lib.hid htb
  have HCL := Lib.hid hcl
  have htl : (textBytes L).length = K + 2 := by rw [htb]; simp [hcl]
  have HTL := Lib.hid htl
  have HLL := Lib.hid hLl
  clear hcs hl0 hL hy hcs1 hLl htb hcl q1 htl
  have hK2 : K ≤ 65535 := by omega
  rcases (show (2 < N ∧ K = 65535) ∨ (N ≤ 2 ∧ K = 65533 + N) by omega) with ⟨h2, rfl⟩ | ⟨h2, rfl⟩
  all_goals
    clear hK
    go_enter Try.func6, Try.ntmps6
    go_wp2_with fail
    refine (known_any _).mono ?_
    rintro e' w1 ⟨rfl, bel1⟩
    go_wp2_with fail
    refine (WN.out _).mono ?_
    rintro e' ww ⟨rfl, rfl⟩
    have hc0 : (w1.alloc (.cells cs 5)).cell? ⟨w1.heap.size, 0, none⟩ = some (.int .u8 0) := by rw [heap_cell (heap_alloc_new _ _)]; exact h0
    have s2 := Sl.new w1 (cs.setIfInBounds 0 (.int .u8 y)) 5 (65533 + N) 1 (by simp [hsz]) (by simp only [maxLen]; omega)
    have cv := conv_str (P := Try.prog) (s2.cast (ys := bvs L) (by rw [HCS.out])) Try.underlying22 Try.underlying5 Try.underlying9
    have b2 : Below w.heap.size w (w1.alloc (.cells (cs.setIfInBounds 0 (.int .u8 y)) 5)) := bel1.alloc bel1.size _
    clear s2
    go_wp2_with fail
    refine (Text_any (.slice none 0 0) [] (strOf L) _ Sl.nil (by simp) (by rw [strOf_size, HLL.out]; simp only [maxLen]; omega)).mono ?_
    rintro e' w3 ⟨v3, rfl, own3, bel3⟩
    have hd : (strOf L).data.toList = L := rfl
    rw [hd, List.nil_append, HTL.out] at own3
    have bel3' := b2.trans (bel3.mono b2.size)
    obtain ⟨g3, c3, rfl, hg3, hg4, hc3, hm3, hcell⟩ := own_shape own3 (by omega)
    have x0 := hcell 0 _ (by rw [HTB.out]; rfl)
    have x1 := hcell 1 _ (by rw [HTB.out]; rfl)
    clear hcell cv b2 bel3 bel1 hc0 hd hc3
    go_wp2_with fail
    refine (New_any _ (textBytes L) _ (sl_bs (Sl.of_own own3)) (by rw [HTL.out]; omega)).mono ?_
    rintro e' w4 ⟨g, rfl, hg, r4, bel4⟩
    have y0 := (bel4.cell (p := ⟨g3, 0, none⟩) hg4).trans x0
    have y1 := (bel4.cell (p := ⟨g3, 1, none⟩) hg4).trans x1
    have hg0 : w.heap.size ≤ g := Nat.le_trans bel3'.size hg
    have bel5 := bel3'.trans (bel4.mono bel3'.size)
    have hgg : g3 ≠ g := by omega
    clear x0 x1 bel4 bel3' own3
    go_wp2_with fail
    refine (RText_read g g _ _ r4).mono ?_
    rintro e' w5 ⟨rfl, d5⟩
    have bel6 := d5.below bel5 hg0 bel5.size
    have z0 := d5.only.cell y0 (by simpa using hgg)
    have z1 := d5.only.cell y1 (by simpa using hgg)
    have is5 := d5.is
    rw [Q1.out] at is5 ⊢
    have E1 := End_any g g _ _ is5
    have qe : RS.endErr ⟨[], 0⟩ = 0 := rfl
    rw [qe] at E1
    have E1' := Lib.hid E1
    have hss := strOf_size (cutText L)
    rw [HCL.out] at hss
    simp only [← u8v_byte1] at z0 z1
    clear E1 qe is5 d5 y0 y1 bel5 r4 hg HCS
    go_wp2_with fail
    refine E1'.out.mono ?_
    rintro e' ww ⟨rfl, rfl⟩
    go_wp2_with fail
    go_ret
    exact ⟨rfl, bel6⟩
end Go.Proofs.Ytneikkofembgmaa
