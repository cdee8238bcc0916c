/- The law DiskHalves, walked. -/
import Derived.Test.YtemhlnjnbccpgaaDLaw
import Derived.Test.YtemhlnjnbccpgaaWithinL
namespace Go.Proofs.Ytemhlnjnbccpgaa
open Go.RowKit
set_option linter.unusedVariables false
set_option linter.unusedSimpArgs false
set_option linter.unnecessarySimpa false

/-- The first k of 64 bytes are written. -/
def upto (a : UInt8) (k : Nat) : List UInt8 := List.replicate k a ++ List.replicate (64 - k) 0
def full (a : UInt8) : List UInt8 := List.replicate 64 a
theorem full_length (a : UInt8) : (full a).length = 64 := by simp [full]
theorem upto_all (a : UInt8) : upto a 64 = full a := by simp [upto, full]
theorem upto_cell (a : UInt8) (k : Nat) (hk : k < 64) : (bvs (upto a k))[k]? = some (.int .u8 0) := by
  unfold upto bvs
  rw [List.getElem?_map, List.getElem?_append_right (by simp), List.length_replicate, Nat.sub_self, List.getElem?_replicate, if_pos (by omega)]
  rfl
theorem upto_set (a : UInt8) (k : Nat) (hk : k < 64) : (bvs (upto a k)).set k (.int .u8 (a.toNat : Int)) = bvs (upto a (k + 1)) := by
  show (bvs (upto a k)).set k (u8v a) = _
  unfold bvs
  rw [← List.map_set]
  congr 1
  unfold upto
  apply List.ext_getElem?
  intro j
  rw [List.getElem?_set]
  by_cases h1 : k = j
  · subst h1
    rw [if_pos rfl, if_pos (by simp; omega), List.getElem?_append_left (by simp), List.getElem?_replicate, if_pos (by omega)]
  · rw [if_neg h1]
    by_cases h2 : j < k
    · rw [List.getElem?_append_left (by simpa using h2), List.getElem?_append_left (by simp; omega), List.getElem?_replicate, List.getElem?_replicate, if_pos h2, if_pos (by omega)]
    · rw [List.getElem?_append_right (by simp; omega), List.getElem?_append_right (by simp; omega), List.getElem?_replicate, List.getElem?_replicate]
      simp only [List.length_replicate]
      by_cases h3 : j < 64
      · rw [if_pos (by omega), if_pos (by omega)]
      · rw [if_neg (by omega), if_neg (by omega)]

/-- The state behind the law's operations. -/
def hvs (a b : UInt8) (pick : Int) : DS := (((fresh 3).wrote 2 (pageOf (full a))).sync.wrote 2 (pageOf (full b))).crash [pick]
theorem pageOf_full (a : UInt8) : pageOf (full a) = full a := by simp [pageOf, full]
theorem hvs_dead (a b : UInt8) (pick : Int) : (hvs a b pick).dead = false := rfl
theorem hvs_now (a b : UInt8) (pick : Int) : pageAt (hvs a b pick).now 2 = (if pick % 4 = 1 ∨ pick % 4 = 3 then List.replicate 32 b else List.replicate 32 a) ++ (if pick % 4 = 2 ∨ pick % 4 = 3 then List.replicate 32 b else List.replicate 32 a) := by
  have e : (hvs a b pick).now = crash1 (pick4 [pick] 0) (spl (fresh 3).now (2 * 64) (pageOf (full a))) (2, pageOf (full b)) := by
    unfold hvs
    rw [wrote_ok (fresh 3) 2 _ rfl rfl, sync_ok _ rfl rfl, wrote_ok _ 2 _ rfl rfl]
    unfold DS.crash
    simp only [List.nil_append, crashS]
  have hp4 : pick4 [pick] 0 = pick % 4 := rfl
  have hl : (spl (fresh 3).now (2 * 64) (pageOf (full a))).length = 3 * 64 := by rw [spl_length]; exact fresh_len 3
  have h0 : pageAt (spl (fresh 3).now (2 * 64) (pageOf (full a))) 2 = full a := by rw [pageOf_full]; exact pageAt_spl _ 2 3 _ (fresh_len 3) (by omega) (full_length a)
  rw [e, hp4, pageOf_full b]
  generalize spl (fresh 3).now (2 * 64) (pageOf (full a)) = S at *
  generalize pick % 4 = r
  unfold crash1
  have h1 : (half1 r S (2, full b)).length = 3 * 64 := by rw [half1_length]; exact hl
  have h2 : pageAt (half1 r S (2, full b)) 2 = (if r = 1 ∨ r = 3 then List.replicate 32 b else List.replicate 32 a) ++ List.replicate 32 a := by
    unfold half1
    split
    · rw [page_first S 2 3 _ hl (by omega) (by simp [full]), h0]; simp [full]
    · rw [h0]; simp [full, List.replicate_append_replicate]
  generalize half1 r S (2, full b) = S' at *
  unfold half2
  split
  · rw [page_second S' 2 3 _ h1 (by omega) (by simp [full]), h2]
    split <;> simp [full]
  · rw [h2]
theorem hvs_0 (a b : UInt8) (pick : Int) : (pageAt (hvs a b pick).now 2)[0]? = some (if pick % 4 = 1 ∨ pick % 4 = 3 then b else a) := by rw [hvs_now]; split <;> rfl
theorem hvs_31 (a b : UInt8) (pick : Int) : (pageAt (hvs a b pick).now 2)[31]? = some (if pick % 4 = 1 ∨ pick % 4 = 3 then b else a) := by rw [hvs_now]; split <;> rfl
theorem hvs_32 (a b : UInt8) (pick : Int) : (pageAt (hvs a b pick).now 2)[32]? = some (if pick % 4 = 2 ∨ pick % 4 = 3 then b else a) := by
  rw [hvs_now, List.getElem?_append_right (by split <;> simp)]
  by_cases h : pick % 4 = 1 ∨ pick % 4 = 3 <;> by_cases h' : pick % 4 = 2 ∨ pick % 4 = 3 <;> simp [h, h', List.getElem?_replicate]
theorem hvs_63 (a b : UInt8) (pick : Int) : (pageAt (hvs a b pick).now 2)[63]? = some (if pick % 4 = 2 ∨ pick % 4 = 3 then b else a) := by
  rw [hvs_now, List.getElem?_append_right (by split <;> simp)]
  by_cases h : pick % 4 = 1 ∨ pick % 4 = 3 <;> by_cases h' : pick % 4 = 2 ∨ pick % 4 = 3 <;> simp [h, h', List.getElem?_replicate]

set_option maxRecDepth 100000 in
set_option maxHeartbeats 2000000 in
theorem DiskHalves_walk (a b : UInt8) (pick : Int) (w : World) (hp : -9223372036854775808 ≤ pick ∧ pick ≤ 9223372036854775807) :
    Calls Try.prog 6 #[.int .u8 (a.toNat : Int), .int .u8 (b.toNat : Int), .int .i64 pick] w fun e w' => e = .returned (.bool true) ∧ Below w.heap.size w w' := by
  have KN := Lib.hid (known_any w)
  go_enter Try.func6, Try.ntmps6
  go_wp2_with fail
  refine KN.out.mono ?_
  rintro e w1 ⟨rfl, bel1⟩
  clear KN
  have NW := Lib.hid (New_at 3 (by omega) (by omega) bel1)
  go_wp2_with fail
  refine NW.out.mono ?_
  rintro e w2 ⟨B, g, rfl, hA, -⟩
  clear NW bel1
  have hA0 := (((hA.alloc (.cells (bvs (zeros 64)).toArray 5)).alloc (.cells (bvs (zeros 64)).toArray 5)).drew)
  rw [show (w2.alloc (.cells (bvs (zeros 64)).toArray 5)).heap.size = w2.heap.size + 1 by simp] at hA0
  have b1 := ((Blk.new w2 (bvs (zeros 64)) 5).alloc (.cells (bvs (zeros 64)).toArray 5)).drew
  have b2 := (Blk.new (w2.alloc (.cells (bvs (zeros 64)).toArray 5)) (bvs (zeros 64)) 5).drew
  rw [show (w2.alloc (.cells (bvs (zeros 64)).toArray 5)).heap.size = w2.heap.size + 1 by simp] at b2
  have mk := run_make64
  clear hA
  go_wp2_with fail
  go_region
  · have bX : Blk ((w2.alloc (.cells (bvs (zeros 64)).toArray 5)).alloc (.cells (bvs (zeros 64)).toArray 5)).drew (w2.heap.size) (bvs (zeros 64)) 5 := by simpa using b1
    have bY : Blk ((w2.alloc (.cells (bvs (zeros 64)).toArray 5)).alloc (.cells (bvs (zeros 64)).toArray 5)).drew (w2.heap.size + 1) (bvs (zeros 64)) 5 := by simpa using b2
    have hne : w2.heap.size ≠ w2.heap.size + 1 := by omega
    clear b1 b2 mk
    have hX : ∀ x ∈ [w2.heap.size, w2.heap.size + 1], x ∈ [w2.heap.size + 1, w2.heap.size] := by intro x hx; simp at hx ⊢; omega
    have hA := hA0.sub hX
    clear hX hA0
    generalize ((w2.alloc (.cells (bvs (zeros 64)).toArray 5)).alloc (.cells (bvs (zeros 64)).toArray 5)).drew = w3 at *
    generalize w2.heap.size + 1 = s1 at *
    generalize w2.heap.size = s0 at *
    go_wp2_with fail
    go_loopw [11] (fun i wr => ∃ k : Nat, k ≤ 64 ∧ i = .int .i64 k ∧ At w wr B g 3 (fresh 3) [s0, s1] ∧ Blk wr s0 (bvs (upto a k)) 5 ∧ Blk wr s1 (bvs (upto b k)) 5) (fun i _ => 64 - (intOf i).toNat)
    case atStart => exact ⟨0, by omega, rfl, hA, bX, bY⟩
    case round =>
      clear hA bX bY
      obtain ⟨k, hk, rfl, hA, bX, bY⟩ := hrel
      by_cases hlt : k < 64
      · have cX := (bX.cell k).trans (upto_cell a k hlt)
        have cY := (bY.cell k).trans (upto_cell b k hlt)
        have fX := bX.free k
        have fY := bY.free k
        have bX' := (bX.set k (.int .u8 (a.toNat : Int))).other (p := ⟨s1, k, none⟩) (Ne.symm hne) (.int .u8 (b.toNat : Int))
        have bY' := (bY.other (p := ⟨s0, k, none⟩) hne (.int .u8 (a.toNat : Int))).set k (.int .u8 (b.toNat : Int))
        rw [upto_set _ _ hlt] at bX' bY'
        have hA' := hA.turn (((Turns.refl [s0, s1] wr).setCell (p := ⟨s0, k, none⟩) (.inl (by simp)) (.int .u8 (a.toNat : Int))).setCell (p := ⟨s1, k, none⟩) (.inl (by simp)) (.int .u8 (b.toNat : Int))) (by simp)
        clear hA bX bY
        go_wp2_with fail
        go_roundw
        case rel => exact ⟨k + 1, by omega, by go_num, hA', bX', bY'⟩
        case measure => (simp [intOf] <;> omega)
      · obtain rfl : k = 64 := by omega
        rw [upto_all] at bX bY
        have lX := bX.sl 0 64 64 1 (by rw [bvs_length, full_length]; omega) (Nat.le_refl _) (by simp [maxLen])
        rw [List.drop_zero, List.take_of_length_le (by rw [bvs_length, full_length]; omega)] at lX
        have WR := Write_at hA 2 _ 64 (full a) lX (by omega) (by rw [full_length]; omega) rfl (by show 0 ≤ _; omega)
        have WR' := Lib.hid WR
        clear WR lX hlt hk
        go_wp2_with fail
        refine WR'.out.mono ?_
        rintro e w4 ⟨rfl, hA4, sm4⟩
        have bY4 := sm4.blk (by simp) bY
        clear WR' bX bY sm4 hA
        have SY := Lib.hid (Sync_at hA4)
        go_wp2_with fail
        refine SY.out.mono ?_
        rintro e w5 ⟨rfl, hA5, sm5⟩
        have bY5 := sm5.blk (by simp) bY4
        clear SY sm5 bY4 hA4
        have lY := bY5.sl 0 64 64 1 (by rw [bvs_length, full_length]; omega) (Nat.le_refl _) (by simp [maxLen])
        rw [List.drop_zero, List.take_of_length_le (by rw [bvs_length, full_length]; omega)] at lY
        have WR := Lib.hid (Write_at hA5 2 _ 64 (full b) lY (by omega) (by rw [full_length]; omega) rfl (by show 0 ≤ _; omega))
        clear lY bY5
        go_wp2_with fail
        refine WR.out.mono ?_
        rintro e w6 ⟨rfl, hA6, sm6⟩
        clear WR sm6 hA5
        have hA7 := hA6.alloc (.cells #[.int .i64 pick] 3)
        have CR := Lib.hid (Crash_at hA7 (some ⟨w6.heap.size, 0, none⟩) 1 [pick] (by intro x hx; rcases List.mem_singleton.1 hx with rfl; exact ⟨by show 2 < 3; omega, pageOf_length _ (by rw [full_length]; omega)⟩) (by show 1 ≤ _; omega) ((Sl.new w6 #[.int .i64 pick] 3 1 1 rfl (by simp [maxLen])).more (by simp)) (by simpa using hp) (by intro y hy; injection hy with hy; subst hy; exact .inl (by simp)))
        clear hA6
        go_wp2_with fail
        refine CR.out.mono ?_
        rintro e w8 ⟨rfl, hA8, sm8⟩
        clear CR sm8 hA7
        have hA9 : At w w8 B g 3 (hvs a b pick) [] := hA8.sub (by simp)
        have RD := Lib.hid (Read_at hA9 2 (by omega) (hvs_dead a b pick))
        clear hA8 hA9
        go_wp2_with fail
        refine RD.out.mono ?_
        rintro e w9 ⟨x, c, rfl, hsl, hc1, hc2, hcell, hA10, sm10⟩
        clear RD sm10
        have bel := hA10.bel
        have c0 := (hcell 0 _ (hvs_0 a b pick)).1
        have c31 := (hcell 31 _ (hvs_31 a b pick)).1
        have c32 := (hcell 32 _ (hvs_32 a b pick)).1
        have c63 := (hcell 63 _ (hvs_63 a b pick)).1
        clear hcell hA10 hsl
        have WI := Lib.hid (within_any pick 4 w9 hp.1 hp.2 (by omega) (by omega))
        have hr : pick % 4 = 0 ∨ pick % 4 = 1 ∨ pick % 4 = 2 ∨ pick % 4 = 3 := by omega
        rcases hr with hr | hr | hr | hr
        all_goals
          rw [hr] at WI
          simp only [hr, or_self, or_true, true_or, if_true, if_false, reduceCtorEq, Int.reduceEq] at c0 c31 c32 c63
          clear hr
          go_wp2_with fail
          refine WI.out.mono ?_
          rintro e ww ⟨rfl, rfl⟩
          go_wp2_with fail
          go_ret
          exact ⟨rfl, bel⟩
  · have bX : Blk ((w2.alloc (.cells (bvs (zeros 64)).toArray 5)).alloc (.cells (bvs (zeros 64)).toArray 5)).drew (w2.heap.size + 1) (bvs (zeros 64)) 5 := by simpa using b2
    have bY : Blk ((w2.alloc (.cells (bvs (zeros 64)).toArray 5)).alloc (.cells (bvs (zeros 64)).toArray 5)).drew (w2.heap.size) (bvs (zeros 64)) 5 := by simpa using b1
    have hne : w2.heap.size + 1 ≠ w2.heap.size := by omega
    clear b1 b2 mk
    have hX : ∀ x ∈ [w2.heap.size + 1, w2.heap.size], x ∈ [w2.heap.size + 1, w2.heap.size] := by intro x hx; simp at hx ⊢; omega
    have hA := hA0.sub hX
    clear hX hA0
    generalize ((w2.alloc (.cells (bvs (zeros 64)).toArray 5)).alloc (.cells (bvs (zeros 64)).toArray 5)).drew = w3 at *
    generalize w2.heap.size + 1 = s1 at *
    generalize w2.heap.size = s0 at *
    go_wp2_with fail
    go_loopw [11] (fun i wr => ∃ k : Nat, k ≤ 64 ∧ i = .int .i64 k ∧ At w wr B g 3 (fresh 3) [s1, s0] ∧ Blk wr s1 (bvs (upto a k)) 5 ∧ Blk wr s0 (bvs (upto b k)) 5) (fun i _ => 64 - (intOf i).toNat)
    case atStart => exact ⟨0, by omega, rfl, hA, bX, bY⟩
    case round =>
      clear hA bX bY
      obtain ⟨k, hk, rfl, hA, bX, bY⟩ := hrel
      by_cases hlt : k < 64
      · have cX := (bX.cell k).trans (upto_cell a k hlt)
        have cY := (bY.cell k).trans (upto_cell b k hlt)
        have fX := bX.free k
        have fY := bY.free k
        have bX' := (bX.set k (.int .u8 (a.toNat : Int))).other (p := ⟨s0, k, none⟩) (Ne.symm hne) (.int .u8 (b.toNat : Int))
        have bY' := (bY.other (p := ⟨s1, k, none⟩) hne (.int .u8 (a.toNat : Int))).set k (.int .u8 (b.toNat : Int))
        rw [upto_set _ _ hlt] at bX' bY'
        have hA' := hA.turn (((Turns.refl [s1, s0] wr).setCell (p := ⟨s1, k, none⟩) (.inl (by simp)) (.int .u8 (a.toNat : Int))).setCell (p := ⟨s0, k, none⟩) (.inl (by simp)) (.int .u8 (b.toNat : Int))) (by simp)
        clear hA bX bY
        go_wp2_with fail
        go_roundw
        case rel => exact ⟨k + 1, by omega, by go_num, hA', bX', bY'⟩
        case measure => (simp [intOf] <;> omega)
      · obtain rfl : k = 64 := by omega
        rw [upto_all] at bX bY
        have lX := bX.sl 0 64 64 1 (by rw [bvs_length, full_length]; omega) (Nat.le_refl _) (by simp [maxLen])
        rw [List.drop_zero, List.take_of_length_le (by rw [bvs_length, full_length]; omega)] at lX
        have WR := Write_at hA 2 _ 64 (full a) lX (by omega) (by rw [full_length]; omega) rfl (by show 0 ≤ _; omega)
        have WR' := Lib.hid WR
        clear WR lX hlt hk
        go_wp2_with fail
        refine WR'.out.mono ?_
        rintro e w4 ⟨rfl, hA4, sm4⟩
        have bY4 := sm4.blk (by simp) bY
        clear WR' bX bY sm4 hA
        have SY := Lib.hid (Sync_at hA4)
        go_wp2_with fail
        refine SY.out.mono ?_
        rintro e w5 ⟨rfl, hA5, sm5⟩
        have bY5 := sm5.blk (by simp) bY4
        clear SY sm5 bY4 hA4
        have lY := bY5.sl 0 64 64 1 (by rw [bvs_length, full_length]; omega) (Nat.le_refl _) (by simp [maxLen])
        rw [List.drop_zero, List.take_of_length_le (by rw [bvs_length, full_length]; omega)] at lY
        have WR := Lib.hid (Write_at hA5 2 _ 64 (full b) lY (by omega) (by rw [full_length]; omega) rfl (by show 0 ≤ _; omega))
        clear lY bY5
        go_wp2_with fail
        refine WR.out.mono ?_
        rintro e w6 ⟨rfl, hA6, sm6⟩
        clear WR sm6 hA5
        have hA7 := hA6.alloc (.cells #[.int .i64 pick] 3)
        have CR := Lib.hid (Crash_at hA7 (some ⟨w6.heap.size, 0, none⟩) 1 [pick] (by intro x hx; rcases List.mem_singleton.1 hx with rfl; exact ⟨by show 2 < 3; omega, pageOf_length _ (by rw [full_length]; omega)⟩) (by show 1 ≤ _; omega) ((Sl.new w6 #[.int .i64 pick] 3 1 1 rfl (by simp [maxLen])).more (by simp)) (by simpa using hp) (by intro y hy; injection hy with hy; subst hy; exact .inl (by simp)))
        clear hA6
        go_wp2_with fail
        refine CR.out.mono ?_
        rintro e w8 ⟨rfl, hA8, sm8⟩
        clear CR sm8 hA7
        have hA9 : At w w8 B g 3 (hvs a b pick) [] := hA8.sub (by simp)
        have RD := Lib.hid (Read_at hA9 2 (by omega) (hvs_dead a b pick))
        clear hA8 hA9
        go_wp2_with fail
        refine RD.out.mono ?_
        rintro e w9 ⟨x, c, rfl, hsl, hc1, hc2, hcell, hA10, sm10⟩
        clear RD sm10
        have bel := hA10.bel
        have c0 := (hcell 0 _ (hvs_0 a b pick)).1
        have c31 := (hcell 31 _ (hvs_31 a b pick)).1
        have c32 := (hcell 32 _ (hvs_32 a b pick)).1
        have c63 := (hcell 63 _ (hvs_63 a b pick)).1
        clear hcell hA10 hsl
        have WI := Lib.hid (within_any pick 4 w9 hp.1 hp.2 (by omega) (by omega))
        have hr : pick % 4 = 0 ∨ pick % 4 = 1 ∨ pick % 4 = 2 ∨ pick % 4 = 3 := by omega
        rcases hr with hr | hr | hr | hr
        all_goals
          rw [hr] at WI
          simp only [hr, or_self, or_true, true_or, if_true, if_false, reduceCtorEq, Int.reduceEq] at c0 c31 c32 c63
          clear hr
          go_wp2_with fail
          refine WI.out.mono ?_
          rintro e ww ⟨rfl, rfl⟩
          go_wp2_with fail
          go_ret
          exact ⟨rfl, bel⟩
end Go.Proofs.Ytemhlnjnbccpgaa
