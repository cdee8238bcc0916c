/- The law SchemaRows, walked: too many columns. -/
import Derived.Test.YtdllgnccjejhiaaKnown9
import Derived.Test.YtdllgnccjejhiaaWithinL
import Derived.Deep.LoopGhost
namespace Go.Proofs.Ytdllgnccjejhiaa
open Go.RowKit
set_option linter.unusedVariables false
set_option maxRecDepth 10000
set_option linter.unusedSimpArgs false
set_option linter.unnecessarySimpa false

theorem own_form' {w : World} {base : Nat} {e : TypeId} {size n : Nat} {v : Value} {xs : List Value} (h : w.ownsRow base e size v n xs) : ∃ A c, v = .slice A n c := by
  rcases h.2 with ⟨rfl, rfl⟩ | ⟨g, cap, cur, rfl, _⟩
  · exact ⟨_, _, rfl⟩
  · exact ⟨_, _, rfl⟩
theorem World.ownsRow_made' (w : World) (cs : Array Value) (n : Nat) {e : TypeId} (h : cs.size = n * 3) (hm : n ≤ maxLen := by simp [maxLen]) : (w.alloc (.cells cs e)).ownsRow w.heap.size e 3 (.slice (some ⟨w.heap.size, 0, none⟩) n n) n cs.toList :=
  ⟨by simpa using h, .inr ⟨w.heap.size, n, cs, rfl, Nat.le_refl _, heap_alloc_new w _, Nat.le_refl _, hm, h, by rw [List.take_of_length_le (by simp [h])]⟩⟩

/-- A text of one byte. -/
theorem conv_byte (W : World) (x : Int) (b : UInt8) (h : x = (b.toNat : Int)) : (convert 35 9 (.slice (some ⟨W.heap.size, 0, none⟩) 1 1)).run Try.prog (W.alloc (.cells #[.int .u8 x] 5)) = .ok (.string (strOf [b])) (W.alloc (.cells #[.int .u8 x] 5)) := by
  subst h
  have hs : Sl (W.alloc (.cells #[.int .u8 (b.toNat : Int)] 5)) (W.heap.size + 1) 1 (.slice (some ⟨W.heap.size, 0, none⟩) 1 1) 1 (bvs [b]) := Sl.new W #[.int .u8 (b.toNat : Int)] 5 1 1 rfl (by simp [maxLen])
  exact conv_str hs Try.underlying35 Try.underlying5 Try.underlying9
/-- Behind an append another block stands. -/
theorem apd_blk' {base : Nat} {e : TypeId} {size n m : Nat} {w w' : World} {v v' : Value} {xs ys : List Value} (ap : Apd base e size w v n xs w' v' m ys) {g : Nat} {cs : List Value} {t : TypeId} (hb : Blk w g cs t) (hg : v.ownBlock ≠ some g) : Blk w' g cs t := by
  unfold Blk; rw [ap.grown.block g hb.lt (fun e => hg e.symm)]; exact hb

def byteOf (n : Nat) : UInt8 := UInt8.ofNat n
theorem byteOf_toNat (n : Nat) (h : n < 256) : (byteOf n).toNat = n := by unfold byteOf; rw [UInt8.toNat_ofNat', Nat.mod_eq_of_lt (by omega)]
/-- The columns behind j rounds. -/
def more (j : Nat) : List Col := [⟨⟨#[97]⟩, 2, false⟩, ⟨⟨#[98]⟩, 3, false⟩] ++ (List.range j).map fun i => ⟨strOf [byteOf (99 + i)], 1, false⟩
theorem more_succ (j : Nat) : colCells (more (j + 1)) = colCells (more j) ++ [.string (strOf [byteOf (99 + j)]), .int .i64 1, .bool false] := by
  unfold more colCells
  rw [List.range_succ, List.map_append, ← List.append_assoc, List.flatMap_append]
  rfl
theorem more_len (j : Nat) : (more j).length = 2 + j := by simp [more]; omega
theorem more_4 : checkS ⟨⟨#[97, 98, 99]⟩, more 4, 0, false⟩ = 0 := by decide +kernel
theorem more_5 : checkS ⟨⟨#[97, 98, 99]⟩, more 5, 0, false⟩ = 4 := by decide +kernel
theorem more_fits (j : Nat) : (⟨⟨#[97, 98, 99]⟩, more j, 0, false⟩ : Sch).fits := by
  refine ⟨by show 3 ≤ _; omega, fun c hc => ?_⟩
  replace hc : c ∈ more j := hc
  unfold more at hc
  rcases List.mem_append.1 hc with h | h
  · simp at h
    rcases h with rfl | rfl <;> (show 1 ≤ _; omega)
  · obtain ⟨i, _, rfl⟩ := List.mem_map.1 h
    show 1 ≤ _; omega

set_option maxRecDepth 100000 in
set_option maxHeartbeats 2000000 in
theorem Rows_1_0 (z : Int) (w : World) (hz : -9223372036854775808 ≤ z ∧ z ≤ 9223372036854775807) (hr : z % 7 = 1) :
    Calls Try.prog 4 #[.int .i64 z, .bool false] w fun e w' => e = .returned (.bool true) ∧ Below w.heap.size w w' := by
  have KN := Lib.hid (known_any w)
  have WI := fun W => within_any z 7 W hz.1 hz.2 (by omega) (by omega)
  rw [hr] at WI
  replace WI := Lib.hid WI
  clear hr
  go_enter Try.func4, Try.ntmps4
  go_wp2_with fail
  refine KN.out.mono ?_
  rintro e w1 ⟨rfl, bel1⟩
  clear KN
  go_wp2_with fail
  refine (WI.out _).mono ?_
  rintro e ww ⟨rfl, rfl⟩
  go_wp2_with fail
  have bl1 := Blk.new (w1.alloc (.cells (colCells (more 0)).toArray 27)) [.string ⟨#[97, 98, 99]⟩, .slice (some ⟨w1.heap.size, 0, none⟩) 2 2, .int .i64 0, .bool false] 30
  rw [show (w1.alloc (.cells (colCells (more 0)).toArray 27)).heap.size = w1.heap.size + 1 by simp] at bl1
  have own1 : ((w1.alloc (.cells (colCells (more 0)).toArray 27)).alloc (.cells #[.string ⟨#[97, 98, 99]⟩, .slice (some ⟨w1.heap.size, 0, none⟩) 2 2, .int .i64 0, .bool false] 30)).ownsRow w1.heap.size 27 3 (.slice (some ⟨w1.heap.size, 0, none⟩) 2 2) (2 + 0) (colCells (more 0)) :=
    ((World.ownsRow_made' w1 (colCells (more 0)).toArray 2 rfl).alloc _)
  have bel2 := (bel1.alloc bel1.size (.cells (colCells (more 0)).toArray 27)).alloc (Nat.le_trans bel1.size (by simp)) (.cells #[.string ⟨#[97, 98, 99]⟩, .slice (some ⟨w1.heap.size, 0, none⟩) 2 2, .int .i64 0, .bool false] 30)
  have b1s := bel1.size
  go_loopg [] (6 - 2) (fun g wr => ∃ (j : Nat) (v : Value), 2 + j ≤ 6 ∧ g = 6 - (2 + j) ∧ Blk wr (w1.heap.size + 1) [.string ⟨#[97, 98, 99]⟩, v, .int .i64 0, .bool false] 30 ∧ wr.ownsRow w1.heap.size 27 3 v (2 + j) (colCells (more j)) ∧ v.ownBlock ≠ some (w1.heap.size + 1) ∧ Below w.heap.size w wr)
  case atStart => exact ⟨0, _, by omega, rfl, bl1, own1, by simp [Value.ownBlock], bel2⟩
  case round =>
    clear bl1 own1 bel2
    obtain ⟨j, v, hj, rfl, hbl, own, hne, bel⟩ := hrel
    obtain ⟨A, c, rfl⟩ := own_form' own
    have c1 : wr.cell? ⟨w1.heap.size + 1, 1, none⟩ = some (.slice A (2 + j) c) := hbl.cell 1
    by_cases hlt : 2 + j < 6
    · have hlt' : (2 : Int) + (j : Int) < 6 := by omega
      have hcv := conv_byte wr (97 + (2 + (j : Int))) (byteOf (99 + j)) (by rw [byteOf_toNat _ (by omega)]; omega)
      have f1 := hbl.free 1
      have hbs := bel.size
      have hblt := hbl.lt
      obtain ⟨v7, w7, hr7, ap⟩ := run_append_rd (P := Try.prog) _ T28 28 ((own.alloc (.cells #[.int .u8 (97 + (2 + (j : Int)))] 5)).alloc (.cells #[.string (strOf [byteOf (99 + j)]), .int .i64 1, .bool false] 27)) (Sl.new (wr.alloc (.cells #[.int .u8 (97 + (2 + (j : Int)))] 5)) #[.string (strOf [byteOf (99 + j)]), .int .i64 1, .bool false] 27 1 3 rfl (by simp [maxLen])) (by intro u hu; simp at hu; rcases hu with rfl | rfl | rfl <;> rfl) (by simp only [maxLen]; omega) (by omega) (by simp; omega)
      rw [show (wr.alloc (.cells #[.int .u8 (97 + (2 + (j : Int)))] 5)).heap.size = wr.heap.size + 1 by simp] at hr7
      obtain ⟨A7, c7, rfl⟩ := own_form' ap.own
      have hb7 := apd_blk' ap ((hbl.alloc _).alloc _) hne
      have c7' : w7.cell? ⟨w1.heap.size + 1, 1, none⟩ = some _ := hb7.cell 1
      have f7 := hb7.free 1
      have hb8 := hb7.set 1 (.slice A7 (2 + j + 1) c7)
      have hne7 : (Value.slice A7 (2 + j + 1) c7).ownBlock ≠ some (w1.heap.size + 1) := by
        rcases ap.lies with h | ⟨g, h, hg⟩
        · rw [h]; exact hne
        · rw [h]; intro e; injection e with e; have := hbl.lt; simp at hg; omega
      have own8 := ap.own
      have HM := Lib.hid (more_succ j)
      have hbl8 := hb7.set 1 (.slice A7 (2 + j + 1) c7)
      have bel8 : Below w.heap.size w (w7.setCell ⟨w1.heap.size + 1, 1, none⟩ (.slice A7 (2 + j + 1) c7)) :=
        ((((bel.alloc bel.size _).alloc (by simp; omega) _).grown ap.grown (by simp; omega) (fun k hk => by have := (own.lt k (by simpa using hk)).1; omega)).setCell (p := ⟨w1.heap.size + 1, 1, none⟩) (by simp; omega) _)
      have own9 := ownsRow_setCell_other own8 (a := ⟨w1.heap.size + 1, 1, none⟩) hne7 (.slice A7 (2 + j + 1) c7)
      clear ap hb7 hb8 hbl own own8 bel hne
      go_wp2_with (at_builtin; refine wpList_append_at rfl (.tmp 33) (.tmp 42) rfl hr7 rfl rfl ?_)
      go_roundg (6 - (2 + (j + 1)))
      case rel => exact ⟨j + 1, _, by omega, rfl, hbl8, by rw [HM.out]; exact own9, hne7, bel8⟩
      case measure => omega
    · obtain rfl : j = 4 := by omega
      rw [show 2 + 4 = 6 from rfl] at own hbl c1
      have r := hbl.range 0 4
      have hsz30 : (Try.prog.info? 30).map (·.size) = some ([.string ⟨#[97, 98, 99]⟩, .slice A 6 c, .int .i64 0, .bool false] : List Value).length := by kernel_rfl
      have CK := Check_any ⟨⟨#[97, 98, 99]⟩, more 4, 0, false⟩ A 6 c _ wr (more_fits 4) (Sl.of_own own) (Nat.le_refl _)
      rw [more_4] at CK
      replace CK := Lib.hid CK
      clear own hne hlt hbl
      go_wp2_with (refine wpList_load_mid rfl 30 (.tmp 6) rfl (w1.heap.size + 1) 0 rfl _ _ r Try.underlying30 rfl hsz30 ?_)
      refine CK.out.mono ?_
      rintro e w5 ⟨rfl, t5⟩
      have bel5 := bel.trans ((t5.below (Nat.le_refl _) (by simp)).mono bel.size)
      clear t5 bel
      go_wp2_with fail
      go_ret
      exact ⟨rfl, bel5⟩

set_option maxRecDepth 100000 in
set_option maxHeartbeats 2000000 in
theorem Rows_1_1 (z : Int) (w : World) (hz : -9223372036854775808 ≤ z ∧ z ≤ 9223372036854775807) (hr : z % 7 = 1) :
    Calls Try.prog 4 #[.int .i64 z, .bool true] w fun e w' => e = .returned (.bool true) ∧ Below w.heap.size w w' := by
  have KN := Lib.hid (known_any w)
  have WI := fun W => within_any z 7 W hz.1 hz.2 (by omega) (by omega)
  rw [hr] at WI
  replace WI := Lib.hid WI
  clear hr
  go_enter Try.func4, Try.ntmps4
  go_wp2_with fail
  refine KN.out.mono ?_
  rintro e w1 ⟨rfl, bel1⟩
  clear KN
  go_wp2_with fail
  refine (WI.out _).mono ?_
  rintro e ww ⟨rfl, rfl⟩
  go_wp2_with fail
  have bl1 := Blk.new (w1.alloc (.cells (colCells (more 0)).toArray 27)) [.string ⟨#[97, 98, 99]⟩, .slice (some ⟨w1.heap.size, 0, none⟩) 2 2, .int .i64 0, .bool false] 30
  rw [show (w1.alloc (.cells (colCells (more 0)).toArray 27)).heap.size = w1.heap.size + 1 by simp] at bl1
  have own1 : ((w1.alloc (.cells (colCells (more 0)).toArray 27)).alloc (.cells #[.string ⟨#[97, 98, 99]⟩, .slice (some ⟨w1.heap.size, 0, none⟩) 2 2, .int .i64 0, .bool false] 30)).ownsRow w1.heap.size 27 3 (.slice (some ⟨w1.heap.size, 0, none⟩) 2 2) (2 + 0) (colCells (more 0)) :=
    ((World.ownsRow_made' w1 (colCells (more 0)).toArray 2 rfl).alloc _)
  have bel2 := (bel1.alloc bel1.size (.cells (colCells (more 0)).toArray 27)).alloc (Nat.le_trans bel1.size (by simp)) (.cells #[.string ⟨#[97, 98, 99]⟩, .slice (some ⟨w1.heap.size, 0, none⟩) 2 2, .int .i64 0, .bool false] 30)
  have b1s := bel1.size
  go_loopg [] (7 - 2) (fun g wr => ∃ (j : Nat) (v : Value), 2 + j ≤ 7 ∧ g = 7 - (2 + j) ∧ Blk wr (w1.heap.size + 1) [.string ⟨#[97, 98, 99]⟩, v, .int .i64 0, .bool false] 30 ∧ wr.ownsRow w1.heap.size 27 3 v (2 + j) (colCells (more j)) ∧ v.ownBlock ≠ some (w1.heap.size + 1) ∧ Below w.heap.size w wr)
  case atStart => exact ⟨0, _, by omega, rfl, bl1, own1, by simp [Value.ownBlock], bel2⟩
  case round =>
    clear bl1 own1 bel2
    obtain ⟨j, v, hj, rfl, hbl, own, hne, bel⟩ := hrel
    obtain ⟨A, c, rfl⟩ := own_form' own
    have c1 : wr.cell? ⟨w1.heap.size + 1, 1, none⟩ = some (.slice A (2 + j) c) := hbl.cell 1
    by_cases hlt : 2 + j < 7
    · have hlt' : (2 : Int) + (j : Int) < 7 := by omega
      have hcv := conv_byte wr (97 + (2 + (j : Int))) (byteOf (99 + j)) (by rw [byteOf_toNat _ (by omega)]; omega)
      have f1 := hbl.free 1
      have hbs := bel.size
      have hblt := hbl.lt
      obtain ⟨v7, w7, hr7, ap⟩ := run_append_rd (P := Try.prog) _ T28 28 ((own.alloc (.cells #[.int .u8 (97 + (2 + (j : Int)))] 5)).alloc (.cells #[.string (strOf [byteOf (99 + j)]), .int .i64 1, .bool false] 27)) (Sl.new (wr.alloc (.cells #[.int .u8 (97 + (2 + (j : Int)))] 5)) #[.string (strOf [byteOf (99 + j)]), .int .i64 1, .bool false] 27 1 3 rfl (by simp [maxLen])) (by intro u hu; simp at hu; rcases hu with rfl | rfl | rfl <;> rfl) (by simp only [maxLen]; omega) (by omega) (by simp; omega)
      rw [show (wr.alloc (.cells #[.int .u8 (97 + (2 + (j : Int)))] 5)).heap.size = wr.heap.size + 1 by simp] at hr7
      obtain ⟨A7, c7, rfl⟩ := own_form' ap.own
      have hb7 := apd_blk' ap ((hbl.alloc _).alloc _) hne
      have c7' : w7.cell? ⟨w1.heap.size + 1, 1, none⟩ = some _ := hb7.cell 1
      have f7 := hb7.free 1
      have hb8 := hb7.set 1 (.slice A7 (2 + j + 1) c7)
      have hne7 : (Value.slice A7 (2 + j + 1) c7).ownBlock ≠ some (w1.heap.size + 1) := by
        rcases ap.lies with h | ⟨g, h, hg⟩
        · rw [h]; exact hne
        · rw [h]; intro e; injection e with e; have := hbl.lt; simp at hg; omega
      have own8 := ap.own
      have HM := Lib.hid (more_succ j)
      have hbl8 := hb7.set 1 (.slice A7 (2 + j + 1) c7)
      have bel8 : Below w.heap.size w (w7.setCell ⟨w1.heap.size + 1, 1, none⟩ (.slice A7 (2 + j + 1) c7)) :=
        ((((bel.alloc bel.size _).alloc (by simp; omega) _).grown ap.grown (by simp; omega) (fun k hk => by have := (own.lt k (by simpa using hk)).1; omega)).setCell (p := ⟨w1.heap.size + 1, 1, none⟩) (by simp; omega) _)
      have own9 := ownsRow_setCell_other own8 (a := ⟨w1.heap.size + 1, 1, none⟩) hne7 (.slice A7 (2 + j + 1) c7)
      clear ap hb7 hb8 hbl own own8 bel hne
      go_wp2_with (at_builtin; refine wpList_append_at rfl (.tmp 33) (.tmp 42) rfl hr7 rfl rfl ?_)
      go_roundg (7 - (2 + (j + 1)))
      case rel => exact ⟨j + 1, _, by omega, rfl, hbl8, by rw [HM.out]; exact own9, hne7, bel8⟩
      case measure => omega
    · obtain rfl : j = 5 := by omega
      rw [show 2 + 5 = 7 from rfl] at own hbl c1
      have r := hbl.range 0 4
      have hsz30 : (Try.prog.info? 30).map (·.size) = some ([.string ⟨#[97, 98, 99]⟩, .slice A 7 c, .int .i64 0, .bool false] : List Value).length := by kernel_rfl
      have CK := Check_any ⟨⟨#[97, 98, 99]⟩, more 5, 0, false⟩ A 7 c _ wr (more_fits 5) (Sl.of_own own) (Nat.le_refl _)
      rw [more_5] at CK
      replace CK := Lib.hid CK
      clear own hne hlt hbl
      go_wp2_with (refine wpList_load_mid rfl 30 (.tmp 6) rfl (w1.heap.size + 1) 0 rfl _ _ r Try.underlying30 rfl hsz30 ?_)
      refine CK.out.mono ?_
      rintro e w5 ⟨rfl, t5⟩
      have bel5 := bel.trans ((t5.below (Nat.le_refl _) (by simp)).mono bel.size)
      clear t5 bel
      go_wp2_with fail
      go_ret
      exact ⟨rfl, bel5⟩

end Go.Proofs.Ytdllgnccjejhiaa
