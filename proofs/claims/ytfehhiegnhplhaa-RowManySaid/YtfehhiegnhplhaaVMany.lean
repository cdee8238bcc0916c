/- The law RowMany: how many values may be read; kinds that are none. -/
import Derived.Test.YtfehhiegnhplhaaVGe
namespace Go.Proofs.Ytfehhiegnhplhaa
open Go.RowKit
set_option linter.unusedVariables false
set_option maxRecDepth 10000
set_option linter.unusedSimpArgs false
set_option linter.unnecessarySimpa false

theorem zeroCells_u8 (n : Nat) : Builtin.zeroCells (Value.int .u8 0).cells n = (bvs (zeros n)).toArray := by
  apply Array.ext
  · rw [size_zeroCells]; simp [zeros, bvs, Value.cells]
  · intro i h1 h2
    rw [size_zeroCells] at h1
    simp [Builtin.zeroCells, zeros, bvs, u8v, Value.cells, Nat.mod_one]
/-- 'append([]byte{x}, make([]byte, n)...)', n at least one. -/
theorem run_append_one_zeros (w : World) (b : UInt8) (n : Nat) (h0 : 0 < n) (hn : n ≤ 1000) (g : Nat) (hg : Blk w g [u8v b] 5) (ty : TypeId) :
    ∃ v' w', (Builtin.append_ #[29, 3] ty #[.slice (some ⟨g, 0, none⟩) 1 1, .int .i64 (n : Int)]).run Try.prog w = .ok v' w' ∧ Sl w' w'.heap.size 1 v' (1 + n) (bvs (b :: zeros n)) ∧ Turns [] w w' := by
  obtain ⟨i, hi, hz, hsz, hby⟩ := info_parts T8.info
  have hsz1 : i.size = 1 := hsz
  have hf : (Builtin.firstCells i.size 1 (.slice (some ⟨g, 0, none⟩) 1 1)).run Try.prog w.drew = .ok #[u8v b] w.drew := by
    rw [hsz1]
    exact run_firstCells_some (P := Try.prog) w.drew 1 1 ⟨g, 0, none⟩ 1 1 [u8v b] rfl (by intro j v hv; rw [Addr.add_lit, Nat.zero_add]; rw [← hv]; exact hg.cell j)
  have hns : ¬ (n * i.size = 0) := by rw [hsz1]; omega
  have hw : IntKind.i64.wrap (n : Int) = n := by rw [IntKind.wrap_i64]; omega
  have hneg : ¬ ((n : Int) < 0) := by omega
  have hcap : ¬ (1 + n ≤ 1) := by omega
  have h63 : ¬ (9223372036854775807 < (1 + (n : Int))) := by omega
  have hfit : Builtin.nextslicecap (1 + n) 1 * i.bytes ≤ 281474976710656 := by rw [hby]; exact growslice_fits (by omega) (by omega)
  have h48' : ¬ (281474976710656 < Builtin.nextslicecap (1 + n) 1 * i.bytes) := by omega
  have h48i : ¬ (281474976710656 < (n : Int) * (i.bytes : Int)) := by rw [hby]; omega
  have hr : (Builtin.append_ #[29, 3] ty #[.slice (some ⟨g, 0, none⟩) 1 1, .int .i64 (n : Int)]).run Try.prog w = .ok (.slice (some ⟨w.heap.size, 0, none⟩) (1 + n) (grownCap w (1 + n) 1 5)) (w.drew.alloc (.cells ((bvs (b :: zeros n)).toArray ++ Builtin.zeroCells (Value.int .u8 0).cells (grownCap w (1 + n) 1 5 - (1 + n))) 5)) := by
    simp only [Builtin.append_, run_underlying T8.und, run_underlying Try.underlying3, sizeOf, typeInfo, zeroValue, hi, hz, asInt, asIntOf]
    simp [Builtin.append_, run_underlying T8.und, run_underlying Try.underlying3, sizeOf, typeInfo, zeroValue, hi, hz, asInt, asIntOf, hw, hneg, hcap, h63, h48', h48i, Question.forced, hf, newRow, grownCap, hns]
    congr 2
    rw [zeroCells_u8, ← Array.append_assoc]
    congr 1
    simp [bvs]
  have hge := grownCap_ge w (1 + n) 1 5
  have hle := grownCap_le_maxLen w (1 + n) 1 5 (by simp only [maxLen]; omega)
  refine ⟨_, _, hr, ?_, ((Turns.refl [] w).drew).alloc _⟩
  have hlen : ((bvs (b :: zeros n)).toArray ++ Builtin.zeroCells (Value.int .u8 0).cells (grownCap w (1 + n) 1 5 - (1 + n))).size = grownCap w (1 + n) 1 5 * 1 := by
    rw [Array.size_append, size_zeroCells]
    simp [bvs_length, zeros_length, Value.cells]
    omega
  have s := (Sl.new w.drew _ 5 _ 1 hlen hle).to hge
  have e : ((bvs (b :: zeros n)).toArray ++ Builtin.zeroCells (Value.int .u8 0).cells (grownCap w (1 + n) 1 5 - (1 + n))).toList.take (1 + n) = bvs (b :: zeros n) := by
    rw [Array.toList_append]
    exact List.take_left' (by simp [bvs_length, zeros_length]; omega)
  rw [e] at s
  exact s.more (by simp)
theorem run_append_zeros (w : World) (b : UInt8) (n : Nat) (hn : n ≤ 1000) (g : Nat) (hg : Blk w g [u8v b] 5) (ty : TypeId) :
    ∃ v' w', (Builtin.append_ #[29, 3] ty #[.slice (some ⟨g, 0, none⟩) 1 1, .int .i64 (n : Int)]).run Try.prog w = .ok v' w' ∧ Sl w' w'.heap.size 1 v' (1 + n) (bvs (b :: zeros n)) ∧ Turns [] w w' := by
  rcases Nat.eq_zero_or_pos n with h | h
  · subst h
    obtain ⟨i, hi, hz, hsz, hby⟩ := info_parts T8.info
    have hsz1 : i.size = 1 := hsz
    refine ⟨.slice (some ⟨g, 0, none⟩) 1 1, w, ?_, ?_, Turns.refl _ _⟩
    · have hw : IntKind.i64.wrap 0 = 0 := by rw [IntKind.wrap_i64]; omega
      simp [Builtin.append_, run_underlying T8.und, run_underlying Try.underlying3, sizeOf, typeInfo, zeroValue, hi, hz, asInt, asIntOf, storeCells, hw]
    · refine ⟨by simp [bvs, zeros], _, 1, rfl, by omega, by simp [maxLen], (fun h => by cases h), fun _ => ⟨g, 0, rfl, hg.lt, fun j u hu => ?_⟩⟩
      rw [Nat.zero_add, hg.cell]
      exact hu
  · exact run_append_one_zeros w b n h hn g hg ty

theorem byte1_zero : byte1 0 = 0 := by decide
theorem many_bytes (m : Nat) : byte1 (m : Int) :: zeros m = rowBytes (List.replicate m noV) := by
  have h : ∀ m, valsBytes (List.replicate m noV) = zeros m := by
    intro m
    induction m with
    | zero => rfl
    | succ m ih =>
      unfold valsBytes zeros at *
      rw [List.replicate_succ, List.flatMap_cons, ih, List.replicate_succ]
      rfl
  unfold rowBytes
  rw [h, List.length_replicate]
theorem noV_good : vcheck noV = 0 ∧ noV.fits := ⟨rfl, ⟨by simp [noV], by simp [noV], none_fits⟩⟩
theorem many_few (m : Nat) (h : m ≤ 6) : rowRes (byte1 (m : Int) :: zeros m) = (List.replicate m noV, 0) := by
  rw [many_bytes]
  exact row_good _ (fun c hc => by rw [(List.mem_replicate.1 hc).2]; exact noV_good) (by simpa using h)
theorem many_much (m : Nat) (h : 6 < m) (h2 : m ≤ 255) : rowRes (byte1 (m : Int) :: zeros m) = ([], 4) := by
  rw [many_bytes]
  exact row_many _ (by simpa using h) (by simpa using h2)
theorem one_head (q : Int) (h0 : 0 ≤ q) (h1 : q ≤ 255) : RS.headR ⟨[1, byte1 q, 0], 0⟩ = (1, ⟨[byte1 q, 0], 0⟩) := by
  have h := read_byte 1 [byte1 q, 0]
  have e : byte1 1 = 1 := by decide
  rw [e] at h
  unfold RS.headR
  rw [h]
  rfl
theorem one_val (q : Int) (h0 : 0 ≤ q) (h1 : q ≤ 255) : rowRes [1, byte1 q, 0] = finR [(RS.readVal ⟨[byte1 q, 0], 0⟩).1] (RS.readVal ⟨[byte1 q, 0], 0⟩).2.endErr := by
  unfold rowRes RS.row
  rw [one_head q h0 h1]
  rfl
theorem one_kind (q : Int) (h0 : 0 ≤ q) (h1 : q ≤ 255) : RS.readByte ⟨[byte1 q, 0], 0⟩ = (q, ⟨[0], 0⟩) := by
  rw [read_byte, Int.emod_eq_of_lt h0 (by omega)]
theorem one_0 : rowRes [1, byte1 0, 0] = ([], 9) := by
  rw [one_val 0 (by omega) (by omega)]
  unfold RS.readVal
  rw [one_kind 0 (by omega) (by omega)]
  rfl
theorem one_1 : rowRes [1, byte1 1, 0] = ([⟨1, 0, ⟨#[]⟩⟩], 0) := by
  have e : ([1, byte1 1, 0] : List UInt8) = rowBytes [⟨1, 0, ⟨#[]⟩⟩] := by decide
  rw [e]
  exact row_good _ (fun c hc => by rw [List.mem_singleton.1 hc]; exact ⟨rfl, ⟨by simp, by simp, none_fits⟩⟩) (by simp)
theorem one_2 : rowRes [1, byte1 2, 0] = ([], 8) := by
  rw [one_val 2 (by omega) (by omega)]
  unfold RS.readVal
  rw [one_kind 2 (by omega) (by omega)]
  rfl
theorem one_3 : rowRes [1, byte1 3, 0] = ([], 8) := by
  rw [one_val 3 (by omega) (by omega)]
  unfold RS.readVal
  rw [one_kind 3 (by omega) (by omega)]
  rfl
theorem one_4 (q : Int) (h0 : 3 < q) (h1 : q ≤ 255) : rowRes [1, byte1 q, 0] = ([], 3) := by
  rw [one_val q (by omega) (by omega)]
  unfold RS.readVal
  rw [one_kind q (by omega) (by omega)]
  dsimp only
  rw [if_neg (by omega), if_neg (by omega), if_neg (by omega), if_neg (by omega)]
  rfl

set_option maxRecDepth 100000 in
set_option maxHeartbeats 8000000 in
theorem RowMany_walk (n k : Int) (w : World) (h1 : -9223372036854775808 ≤ n ∧ n ≤ 9223372036854775807) (h2 : -9223372036854775808 ≤ k ∧ k ≤ 9223372036854775807) :
    Calls Try.prog 4 #[.int .i64 n, .int .i64 k] w fun e w' => e = .returned (.bool true) ∧ Below w.heap.size w w' := by
  have KN := Lib.hid (known5_any w)
  obtain ⟨m, hm⟩ : ∃ m : Nat, n % 256 = m := ⟨(n % 256).toNat, by omega⟩
  obtain ⟨q, hq⟩ : ∃ q, q = k % 256 := ⟨_, rfl⟩
  have hm255 : m ≤ 255 := by omega
  have hq0 : 0 ≤ q := by omega
  have hq1 : q ≤ 255 := by omega
  have WN := fun W => within_any n 256 W h1.1 h1.2 (by omega) (by omega)
  have WK := fun W => within_any k 256 W h2.1 h2.2 (by omega) (by omega)
  rw [hm] at WN
  rw [← hq] at WK
  replace WN := Lib.hid WN
  replace WK := Lib.hid WK
  clear hm hq h1 h2
  have b1 : Value.int .u8 (m : Int) = u8v (byte1 (m : Int)) := by rw [← u8v_byte1, Int.emod_eq_of_lt (by omega) (by omega)]
  have b2 : Value.int .u8 q = u8v (byte1 q) := by rw [← u8v_byte1, Int.emod_eq_of_lt (by omega) (by omega)]
  have HB := Lib.hid (And.intro b1 b2)
  clear b1 b2
  go_enter Try.func4, Try.ntmps4
  go_wp2_with fail
  refine KN.out.mono ?_
  rintro e w1 ⟨rfl, t1⟩
  have HT := Lib.hid t1
  clear t1 KN
  go_wp2_with fail
  refine (WN.out _).mono ?_
  rintro e w1 ⟨rfl, rfl⟩
  go_wp2_with fail
  refine (WK.out _).mono ?_
  rintro e w1 ⟨rfl, rfl⟩
  have hg := Blk.new w1 [.int .u8 (m : Int)] 5
  rw [HB.out.1] at hg
  obtain ⟨v2, w2, hr, sl, t2⟩ := run_append_zeros (w1.alloc (.cells #[u8v (byte1 (m : Int))] 5)) (byte1 (m : Int)) m (by omega) w1.heap.size hg 29
  rw [← HB.out.1] at hr t2
  have t02 := HT.out.trans (((Turns.refl [] w1).alloc _).trans t2 (by simp)) (by simp)
  have hl : (byte1 (m : Int) :: zeros m).length = 1 + m := by rw [List.length_cons, zeros_length]; omega
  rw [← hl] at sl
  have RP := Lib.hid (RowParse_any v2 _ w2 sl (by rw [hl]; omega))
  have HT2 := Lib.hid t02
  clear hg sl t2 t02 HT WN WK hl
  go_wp2_with (at_builtin; refine wpList_append_at rfl (.tmp 18) (.tmp 19) rfl hr rfl rfl ?_)
  refine RP.out.mono ?_
  rintro e w3 ⟨A3, n3, c3, rfl, o3, t3⟩
  have hl3 := o3.1
  have HT3 := Lib.hid (HT2.out.trans t3 (by simp))
  clear RP hr t3 o3 HT2
  have hs2 : Sl (w3.alloc (.cells #[.int .u8 1, .int .u8 q, .int .u8 0] 5)) (w3.alloc (.cells #[.int .u8 1, .int .u8 q, .int .u8 0] 5)).heap.size 1 (.slice (some ⟨w3.heap.size, 0, none⟩) 3 3) ([1, byte1 q, 0] : List UInt8).length (bvs [1, byte1 q, 0]) := by
    have h := Sl.new w3 #[.int .u8 1, .int .u8 q, .int .u8 0] 5 3 1 rfl (by simp [maxLen])
    have e : (#[.int .u8 1, .int .u8 q, .int .u8 0] : Array Value).toList = bvs [1, byte1 q, 0] := by rw [HB.out.2]; rfl
    rw [e] at h
    exact h.more (by simp)
  have RP := Lib.hid (RowParse_any _ _ _ hs2 (by simp))
  clear hs2
  go_wp2_with fail
  refine RP.out.mono ?_
  rintro e w4 ⟨A4, n4, c4, rfl, o4, t4⟩
  have HT4 := Lib.hid (HT3.out.trans (((Turns.refl [] w3).alloc _).trans t4 (by simp)) (by simp))
  clear RP t4 HT3
  have hx : (m ≤ 6 ∧ rowRes (byte1 (m : Int) :: zeros m) = (List.replicate m noV, 0) ∧ n3 = m) ∨ (6 < m ∧ rowRes (byte1 (m : Int) :: zeros m) = ([], 4) ∧ n3 = 0) := by
    by_cases h6 : m ≤ 6
    · have e := many_few m h6
      rw [e] at hl3
      refine .inl ⟨h6, e, ?_⟩
      rw [valCells_length, List.length_replicate] at hl3
      omega
    · have e := many_much m (by omega) hm255
      rw [e] at hl3
      refine .inr ⟨by omega, e, ?_⟩
      simp [valCells] at hl3
      omega
  have hz4 : n4 = (rowRes [1, byte1 q, 0]).1.length := by
    have := o4.1
    rw [valCells_length] at this
    omega
  have hqc : q = 0 ∨ q = 1 ∨ q = 2 ∨ q = 3 ∨ 3 < q := by omega
  rcases hx with ⟨h6, hres, rfl⟩ | ⟨h6, hres, rfl⟩
  all_goals
    rw [hres]
    clear hl3 hres HB
  · have h6i : (n3 : Int) ≤ 6 := by omega
    rcases hqc with rfl | rfl | rfl | rfl | hq3
    · rw [one_0] at hz4 o4 ⊢
      clear o4
      obtain rfl : n4 = 0 := hz4
      go_wp2_with fail
      go_ret
      exact ⟨rfl, HT4.out.below (Nat.le_refl _) (by simp)⟩
    · rw [one_1] at hz4 o4 ⊢
      obtain rfl : n4 = 1 := hz4
      obtain ⟨b, off, rfl, rg⟩ := val_range (Sl.of_own o4) 0 (by simp)
      replace rg : w4.rangeAt b (off + 0 * 3) [.int .i64 1, .int .i64 0, .string ⟨#[]⟩] := rg
      rw [Nat.zero_mul, Nat.add_zero] at rg
      have hsz := size_val 1 0 ⟨#[]⟩
      have eqv := eqlV ⟨1, 0, ⟨#[]⟩⟩ ⟨1, 0, ⟨#[]⟩⟩
      rw [show eqV ⟨1, 0, ⟨#[]⟩⟩ ⟨1, 0, ⟨#[]⟩⟩ = true from (eqV_iff _ _).2 rfl] at eqv
      clear o4
      go_wp2_with (first
        | (refine wpList_load_g rfl 28 (.tmp 70) rfl b off rfl _ _ rg Try.underlying28 rfl hsz ?_)
        | fail)
      go_ret
      exact ⟨rfl, HT4.out.below (Nat.le_refl _) (by simp)⟩
    · rw [one_2] at hz4 o4 ⊢
      clear o4
      obtain rfl : n4 = 0 := hz4
      go_wp2_with fail
      go_ret
      exact ⟨rfl, HT4.out.below (Nat.le_refl _) (by simp)⟩
    · rw [one_3] at hz4 o4 ⊢
      clear o4
      obtain rfl : n4 = 0 := hz4
      go_wp2_with fail
      go_ret
      exact ⟨rfl, HT4.out.below (Nat.le_refl _) (by simp)⟩
    · have e0 : (q == 0) = false := by simp; omega
      have e1 : (q == 1) = false := by simp; omega
      have e2 : (q == 2) = false := by simp; omega
      have e3 : (q == 3) = false := by simp; omega
      rw [one_4 q hq3 hq1] at hz4 o4 ⊢
      clear o4
      obtain rfl : n4 = 0 := hz4
      go_wp2_with fail
      go_ret
      exact ⟨rfl, HT4.out.below (Nat.le_refl _) (by simp)⟩
  · have h6i : (6 : Int) < (m : Int) := by omega
    rcases hqc with rfl | rfl | rfl | rfl | hq3
    · rw [one_0] at hz4 o4 ⊢
      clear o4
      obtain rfl : n4 = 0 := hz4
      go_wp2_with fail
      go_ret
      exact ⟨rfl, HT4.out.below (Nat.le_refl _) (by simp)⟩
    · rw [one_1] at hz4 o4 ⊢
      obtain rfl : n4 = 1 := hz4
      obtain ⟨b, off, rfl, rg⟩ := val_range (Sl.of_own o4) 0 (by simp)
      replace rg : w4.rangeAt b (off + 0 * 3) [.int .i64 1, .int .i64 0, .string ⟨#[]⟩] := rg
      rw [Nat.zero_mul, Nat.add_zero] at rg
      have hsz := size_val 1 0 ⟨#[]⟩
      have eqv := eqlV ⟨1, 0, ⟨#[]⟩⟩ ⟨1, 0, ⟨#[]⟩⟩
      rw [show eqV ⟨1, 0, ⟨#[]⟩⟩ ⟨1, 0, ⟨#[]⟩⟩ = true from (eqV_iff _ _).2 rfl] at eqv
      clear o4
      go_wp2_with (first
        | (refine wpList_load_g rfl 28 (.tmp 70) rfl b off rfl _ _ rg Try.underlying28 rfl hsz ?_)
        | fail)
      go_ret
      exact ⟨rfl, HT4.out.below (Nat.le_refl _) (by simp)⟩
    · rw [one_2] at hz4 o4 ⊢
      clear o4
      obtain rfl : n4 = 0 := hz4
      go_wp2_with fail
      go_ret
      exact ⟨rfl, HT4.out.below (Nat.le_refl _) (by simp)⟩
    · rw [one_3] at hz4 o4 ⊢
      clear o4
      obtain rfl : n4 = 0 := hz4
      go_wp2_with fail
      go_ret
      exact ⟨rfl, HT4.out.below (Nat.le_refl _) (by simp)⟩
    · have e0 : (q == 0) = false := by simp; omega
      have e1 : (q == 1) = false := by simp; omega
      have e2 : (q == 2) = false := by simp; omega
      have e3 : (q == 3) = false := by simp; omega
      rw [one_4 q hq3 hq1] at hz4 o4 ⊢
      clear o4
      obtain rfl : n4 = 0 := hz4
      go_wp2_with fail
      go_ret
      exact ⟨rfl, HT4.out.below (Nat.le_refl _) (by simp)⟩
end Go.Proofs.Ytfehhiegnhplhaa
