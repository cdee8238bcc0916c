/- sha.Sum, walked. -/
import Derived.Test.YtibolcekhdapaaaSha7
namespace Go.Proofs.Ytibolcekhdapaaa
open Go.RowKit
set_option linter.unusedVariables false
set_option maxRecDepth 10000
set_option linter.unusedSimpArgs false
set_option linter.unnecessarySimpa false

theorem zero_hash : (Try.prog.info? 24).bind (·.zero) = some (.agg (bvs (zeros 32)).toArray) := by kernel_rfl
theorem size_hash : (Try.prog.info? 24).map (·.size) = some 32 := by kernel_rfl
theorem zeros32_len : (bvs (zeros 32)).length = 32 := by rw [bvs_length, zeros_length]
/-- What the sum leaves. -/
def RSum (g : Nat) (v : Value) (x : List UInt8) (W0 w' : World) : Prop := Blk w' g ([v, .int .u32 0, .int .i32 1, .int .u32 0] ++ bvs x) 53 ∧ Turns [] W0 w'

set_option maxRecDepth 100000 in
set_option maxHeartbeats 2000000 in
theorem Sum_any (v : Value) (ls : List (Value × List UInt8)) (w : World) (hv : Sl w w.heap.size 1 v ls.length (ls.map (·.1)))
    (h : ∀ p ∈ ls, Sl w w.heap.size 1 p.1 p.2.length (bvs p.2)) (hn : (flat ls).length ≤ 1000000000) (hl : ls.length ≤ 1000000) :
    Calls Try.prog 10 #[v] w fun e w' => e = .returned (.agg (bvs (sha (flat ls))).toArray) ∧ Turns [] w w' := by
  obtain ⟨res, hres⟩ : ∃ r, r = bvs (sha (flat ls)) := ⟨_, rfl⟩
  rw [← hres]
  have HRES := Lib.hid hres
  have hz := zero_hash
  have hzl := zeros32_len
  have b0 := Blk.new w (bvs (zeros 32)) 24
  have t0 := (Turns.refl [] w).alloc (.cells (bvs (zeros 32)).toArray 24)
  generalize hzz : bvs (zeros 32) = zz at hz hzl b0 t0
  have HZ := Lib.hid hzz
  obtain ⟨w1, hw1⟩ : ∃ x, x = w.alloc (.cells zz.toArray 24) := ⟨_, rfl⟩
  have hs1 : w1.heap.size = w.heap.size + 1 := by rw [hw1]; simp
  have CC := Concat_any v ls w1 (by rw [hw1]; exact (hv.alloc (Nat.le_refl _) _).more (by simp)) (fun p hp => by rw [hw1]; exact ((h p hp).alloc (Nat.le_refl _) _).more (by simp)) (by omega) hl
  rw [← hw1] at b0 t0
  have HC := Lib.hid CC
  have H0 := Lib.hid (And.intro b0 t0)
  have HW := Lib.hid hw1
  have HN := Lib.hid hn
  have HS1 := Lib.hid hs1
  clear hres hzz CC hv h b0 t0 hw1 hl hs1 hn
  go_enter Try.func10, Try.ntmps10
  go_wp2_with (first
    | (refine wpList_alloc_arr rfl 24 rfl zz.toArray hz ?_)
    | fail)
  rw [← HW.out]
  refine HC.out.mono ?_
  rintro e w2 ⟨v2, rfl, own2, bel2⟩
  clear HC
  have m2 := mine_new (Turns.refl [] w1) own2 bel2
  obtain ⟨A, c, rfl, hc⟩ := m2.len
  have H2 := Lib.hid m2
  have hx := H0.out.1.lt
  have hx2 := m2.turns.size
  clear own2 bel2 hc m2
  have bh := Blk.new w2 ([Value.slice A (flat ls).length c, .int .u32 0, .int .i32 0, .int .u32 0] ++ bvs (zeros 32)) 53
  have th := (Turns.refl [] w2).alloc (.cells ([Value.slice A (flat ls).length c, .int .u32 0, .int .i32 0, .int .u32 0] ++ bvs (zeros 32)).toArray 53)
  have hlit : ([Value.slice A (flat ls).length c, .int .u32 0, .int .i32 0, .int .u32 0] ++ bvs (zeros 32)).toArray = #[Value.slice A (flat ls).length c, .int .u32 0, .int .i32 0, .int .u32 0, .int .u8 0, .int .u8 0, .int .u8 0, .int .u8 0, .int .u8 0, .int .u8 0, .int .u8 0, .int .u8 0, .int .u8 0, .int .u8 0, .int .u8 0, .int .u8 0, .int .u8 0, .int .u8 0, .int .u8 0, .int .u8 0, .int .u8 0, .int .u8 0, .int .u8 0, .int .u8 0, .int .u8 0, .int .u8 0, .int .u8 0, .int .u8 0, .int .u8 0, .int .u8 0, .int .u8 0, .int .u8 0, .int .u8 0, .int .u8 0, .int .u8 0, .int .u8 0] := rfl
  have HLIT := Lib.hid hlit
  clear hlit
  obtain ⟨g, hg⟩ : ∃ g, g = w2.heap.size := ⟨_, rfl⟩
  rw [← hg] at bh
  obtain ⟨w3, hw3⟩ : ∃ x, x = w2.alloc (.cells ([Value.slice A (flat ls).length c, .int .u32 0, .int .i32 0, .int .u32 0] ++ bvs (zeros 32)).toArray 53) := ⟨_, rfl⟩
  rw [← hw3] at bh th
  have t4 := ((Turns.refl [g] w3).setCell (p := ⟨g, 2, none⟩) (.inl (by simp)) (.int .i32 1))
  have b4 : Blk (w3.setCell ⟨g, 2, none⟩ (.int .i32 1)) g ([.slice A (flat ls).length c, .int .u32 0, .int .i32 1, .int .u32 0] ++ bvs (zeros 32)) 53 := bh.set 2 (.int .i32 1)
  have hAg : (Value.slice A (flat ls).length c).ownBlock ≠ some g := by
    intro hh
    have := H2.out.own.lt g (by rw [hh])
    omega
  have t24 : Turns [] w2 (w3.setCell ⟨g, 2, none⟩ (.int .i32 1)) := th.trans t4 (by intro x hx; simp at hx; subst hx; exact .inr (by omega))
  have SU := sum_any g (.int .u32 0) (.int .i32 1) (.int .u32 0) (zeros 32) (H2.out.on t24) HN.out b4 (zeros_length 32) (by omega) hAg
  have hF : Calls Try.prog 16 (#[] ++ #[.pointer (some ⟨g, 0, none⟩)]) (w3.setCell ⟨g, 2, none⟩ (.int .i32 1)) fun e w' => e = .returned (.tuple #[]) ∧ RSum g (.slice A (flat ls).length c) (sha (flat ls)) w1 w' ∧ Once.Held g 1 w' :=
    SU.mono fun e w' ⟨he, hb, ht⟩ => ⟨he, ⟨hb, ht⟩, ⟨⟨_, hb.cell 1⟩, hb.free 1, hb.cell 2, hb.free 2⟩⟩
  have DO := Lib.hid (Once.do_first g 1 16 #[.pointer (some ⟨g, 0, none⟩)] #[] (RSum g (.slice A (flat ls).length c) (sha (flat ls)) w1) w3 (fun W => by rfl) (bh.cell 1) (bh.cell 2) (bh.free 1) (bh.free 2) hF)
  have hg1 : w1.heap.size ≤ g := by omega
  have HG := Lib.hid hg
  have HW3 := Lib.hid hw3
  clear hg hw3 bh th t4 b4 hAg t24 SU hF
  go_wp2_with fail
  rw [← HLIT.out, ← HG.out, ← HW3.out]
  refine DO.out.mono ?_
  rintro e w5 ⟨rfl, w4, ⟨b4, t4⟩, rfl⟩
  have b5 := (b4.drew.set 1 (.int .u32 1)).set 2 (.int .i32 0)
  have t5 : Turns [] w1 ((w4.drew.setCell ⟨g, 1, none⟩ (.int .u32 1)).setCell ⟨g, 2, none⟩ (.int .i32 0)) := (t4.drew.setCell (p := ⟨g, 1, none⟩) (.inr hg1) _).setCell (p := ⟨g, 2, none⟩) (.inr hg1) _
  generalize (w4.drew.setCell ⟨g, 1, none⟩ (.int .u32 1)).setCell ⟨g, 2, none⟩ (.int .i32 0) = w5 at *
  have b2 := H0.out.1.turns t5 (by simp)
  have hsl := sha_len (flat ls)
  have r5 := b5.range 4 32
  have e5 : ((([Value.slice A (flat ls).length c, .int .u32 0, .int .i32 1, .int .u32 0] ++ bvs (sha (flat ls))).set 1 (.int .u32 1)).set 2 (.int .i32 0)).drop 4 = bvs (sha (flat ls)) := rfl
  rw [e5, List.take_of_length_le (by rw [bvs_length, hsl]; omega)] at r5
  have hrl : (bvs (sha (flat ls))).length = 32 := by rw [bvs_length, hsl]
  have h1 := bvs_one (sha (flat ls))
  rw [← HRES.out] at r5 hrl h1
  have R5 := Lib.hid r5
  have Q_b2 := Lib.hid b2
  have Q_l := Lib.hid (show zz.length = res.length by rw [hzl, hrl])
  have Q_sz := Lib.hid (show (Try.prog.info? 24).map (·.size) = some res.length by rw [size_hash, hrl])
  have Q_1 := Lib.hid h1
  have Q_t := Lib.hid t5
  clear b4 t4 b5 t5 b2 hsl r5 e5 hrl h1 DO
  go_wp2_with (first
    | (refine wpList_load_mid rfl 24 (.tmp 16) rfl g 4 rfl res _ R5.out Try.underlying24 rfl Q_sz.out ?_)
    | (refine wpList_store_blk rfl 24 (.tmp 2) (.tmp 17) rfl w.heap.size rfl res zz 24 rfl Q_b2.out Q_l.out Q_sz.out Q_1.out (fun w6 hb6 ht6 hs6 => ?_); have HQ := Lib.hid (And.intro hb6 ht6); clear hb6 ht6 hs6)
    | fail)
  refine bodyPost_ret (results_cell_row rfl _ _ w.heap.size _ _ _ _ rfl HQ.out.1 Try.underlying24 rfl (by rw [List.size_toArray]; exact Q_sz.out)) rfl ?_
  exact ⟨rfl, (H0.out.2.trans Q_t.out (by simp)).trans HQ.out.2 (by simp)⟩
end Go.Proofs.Ytibolcekhdapaaa
