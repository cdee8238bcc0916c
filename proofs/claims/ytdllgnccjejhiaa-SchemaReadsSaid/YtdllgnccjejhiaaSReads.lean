/- The law SchemaReads, walked. -/
import Derived.Test.YtdllgnccjejhiaaRParse
import Derived.Test.YtdllgnccjejhiaaPGood
import Derived.Test.YtdllgnccjejhiaaArgI
import Derived.Test.YtdllgnccjejhiaaGrd
import Derived.Laws.BitsLemmas
import Derived.Deep.CutBlock
namespace Go.Proofs.Ytdllgnccjejhiaa
open Go.RowKit
set_option linter.unusedVariables false
set_option maxRecDepth 10000
set_option linter.unusedSimpArgs false
set_option linter.unnecessarySimpa false

theorem schBytes_len (s : Sch) (h : s.cols.length ≤ 9) : (schBytes s).length ≤ 900000 := by
  have h1 := headBytes_len s
  have h2 := colsBytes_len s.cols
  unfold schBytes
  simp only [List.length_append, List.length_cons, List.length_nil, le8_length]
  omega
/-- Four slices of bytes in a row. -/
def Rows4 (w w' : World) (u : Value) : Prop := ∃ (q : Nat) (B : Nat) (vs : List Value), u = .slice (some ⟨q, 0, none⟩) 4 4 ∧ vs.length = 4 ∧ Blk w' q vs 35 ∧
  (∀ j, j < 4 → ∃ (A : Option Addr) (m c : Nat) (l : List UInt8), vs[j]? = some (.slice A m c) ∧ l.length = m ∧ m ≤ 1000000 ∧ Sl w' w'.heap.size 1 (.slice A m c) m (bvs l)) ∧ Turns [] w w'
/-- A row of bytes of its own, so many. -/
def DIs (y : World) (N : Nat) (v : Value) (w : World) : Prop := ∃ ds : List UInt8, ds.length = N ∧ w.ownsRow y.heap.size 5 1 v N (bvs ds) ∧ Turns [] y w
theorem tdiv_bounds (a n : Int) (h1 : -9223372036854775808 ≤ a) (h2 : a ≤ 9223372036854775807) (hn : 0 < n) : -9223372036854775808 ≤ a.tdiv n ∧ a.tdiv n ≤ 9223372036854775807 := by
  have := Int.natAbs_tdiv_le_natAbs a n
  by_cases h : 0 ≤ a
  · have := Int.tdiv_nonneg h (by omega : 0 ≤ n)
    omega
  · have : 0 ≤ (-a).tdiv n := Int.tdiv_nonneg (by omega) (by omega)
    rw [Int.neg_tdiv] at this
    omega
theorem u8_add (a b : UInt8) : Value.int .u8 (IntKind.u8.wrap ((a.toNat : Int) + (b.toNat : Int))) = u8v (a + b) := by
  rw [IntKind.wrap_u8]
  unfold u8v
  rw [UInt8.toNat_add]
  congr 1
theorem bvs_set (l : List UInt8) (k : Nat) (b : UInt8) : bvs (l.set k b) = (bvs l).set k (u8v b) := by unfold bvs; rw [List.map_set]

set_option maxRecDepth 100000 in
set_option maxHeartbeats 8000000 in
theorem SchemaReads_walk (v : Value) (s : Sch) (z cut : Int) (av yv rv : Value) (la ly lr : Nat) (zs : List Int) (ys raw : List UInt8) (w : World) (h : SchArg w v s) (hz : -9223372036854775808 ≤ z ∧ z ≤ 9223372036854775807)
    (ha : Sl w w.heap.size 1 av la (zs.map (Value.int .i64))) (hza : ∀ z ∈ zs, -9223372036854775808 ≤ z ∧ z ≤ 9223372036854775807) (hy : Sl w w.heap.size 1 yv ly (bvs ys)) (hcut : -9223372036854775808 ≤ cut ∧ cut ≤ 9223372036854775807) (hr : Sl w w.heap.size 1 rv lr (bvs raw)) :
    Calls Try.prog 9 #[v, .int .i64 z, av, yv, .int .i64 cut, rv] w fun e w' => e = .returned (.bool true) ∧ Below w.heap.size w w' := by
  obtain rfl : raw.length = lr := by have := hr.1; rw [bvs_length] at this; omega
  obtain rfl : ys.length = ly := by have := hy.1; rw [bvs_length] at this; omega
  obtain rfl : zs.length = la := by have := ha.1; rw [List.length_map] at this; omega
  have har := ha
  have hyr := hy
  have hrr := hr
  obtain ⟨-, Aa, ca, rfl, hla, hla2, -, -⟩ := ha
  obtain ⟨-, Ay, cy, rfl, hly, hly2, -, -⟩ := hy
  obtain ⟨-, Ar, cr, rfl, hlr, hlr2, -, -⟩ := hr
  unfold maxLen at hla2 hly2 hlr2
  obtain ⟨A, n, c, rfl, hs, hf, hky, hkd⟩ := h
  have hs0 := hs.alloc (Nat.le_refl _) (.cells #[.string s.name, .slice A n c, .int .i64 s.key, .bool s.only] 30)
  have b0 := Blk.new w [.string s.name, .slice A n c, .int .i64 s.key, .bool s.only] 30
  have t0 := (Turns.refl [] w).alloc (.cells #[.string s.name, .slice A n c, .int .i64 s.key, .bool s.only] 30)
  have KN := Lib.hid (fun W => known_any W)
  go_enter Try.func9, Try.ntmps9
  go_wp2_with fail
  refine (KN.out _).mono ?_
  rintro e w1 ⟨rfl, bel1⟩
  have t1 := t0.trans (Turns.of_below (L := []) bel1) (by simp)
  have b1 := b0.turns (Turns.of_below (L := []) bel1) (by simp)
  have s1 := hs0.below_le bel1 (by simp)
  have r1 := b1.range 0 4
  rw [List.drop_zero, List.take_of_length_le (by simp)] at r1
  have z1 := t1.size
  have FW := Lib.hid (Few_any s A n c _ w1 hf s1 z1)
  have GD := fun W hB => Good_any s A n c z w.heap.size W hz hf hky hkd hB
  have hsz : (Try.prog.info? 30).map (·.size) = some ([.string s.name, .slice A n c, .int .i64 s.key, .bool s.only] : List Value).length := by kernel_rfl
  have B1 := Lib.hid (And.intro b1 (And.intro t1 s1))
  clear hs hs0 b0 t0 bel1 b1 t1 s1 KN
  go_wp2_with (first
    | (refine wpList_load_mid rfl 30 (.tmp 6) rfl w.heap.size 0 rfl _ _ r1 Try.underlying30 rfl hsz ?_)
    | fail)
  refine FW.out.mono ?_
  rintro e w2 ⟨rfl, t2⟩
  have b2 := B1.out.1.turns t2 (by simp)
  have t02 := B1.out.2.1.trans t2 (by simp)
  have s2 := t2.slice B1.out.2.2 z1 (by simp)
  have r2 := b2.range 0 4
  rw [List.drop_zero, List.take_of_length_le (by simp)] at r2
  cases hfw : fewS s
  · have bel := t02.below (Nat.le_refl _) (by simp)
    clear b2 t02 s2 r2 GD
    go_wp2_with fail
    go_ret
    exact ⟨rfl, bel⟩
  have GD' := Lib.hid (GD w2 s2 t02.size)
  have B2 := Lib.hid t02
  by_cases hr2 : 200 < raw.length
  · have x1 : 200 < (raw.length : Int) := by omega
    have bel := t02.below (Nat.le_refl _) (by simp)
    clear b2 t02 s2 r2 GD GD' FW B1 r1 t2
    go_wp2_with fail
    go_ret
    exact ⟨rfl, bel⟩
  have x1 : (raw.length : Int) ≤ 200 := by omega
  have S2 := Lib.hid s2
  have R2 := Lib.hid r2
  have z2 := t02.size
  clear GD t2 b2 t02 s2 FW B1 r1
  go_wp2_with (first
    | (refine wpList_load_mid rfl 30 (.tmp 6) rfl w.heap.size 0 rfl _ _ r2 Try.underlying30 rfl hsz ?_)
    | fail)
  refine GD'.out.mono ?_
  rintro e w3 ⟨g, cg, rfl, own3, t3⟩
  have t03 := B2.out.trans t3 (by simp)
  have T3 := Lib.hid t3
  have gl := goodL_le s
  have gp := goodL_pos s
  have gk := goodKey_lt s
  have hfit := goodS_name_size s z
  have hfc := goodS_fits s z
  have hpg := parse_good s z
  have hgn := goodS_len s z
  have hgo : (goodS s z).only = s.only ∧ (goodS s z).key = (goodKey s : Nat) := ⟨rfl, rfl⟩
  generalize goodS s z = G at own3 hgn hgo hfit hfc hpg
  obtain ⟨w4, hw4⟩ : ∃ w4, w4 = w3.alloc (.cells #[.string G.name, .slice (some ⟨g, 0, none⟩) (goodL s) cg, .int .i64 (goodKey s : Nat), .bool s.only] 30) := ⟨_, rfl⟩
  have t04 := t03.alloc (.cells #[.string G.name, .slice (some ⟨g, 0, none⟩) (goodL s) cg, .int .i64 (goodKey s : Nat), .bool s.only] 30)
  have b4 := Blk.new w3 [.string G.name, .slice (some ⟨g, 0, none⟩) (goodL s) cg, .int .i64 (goodKey s : Nat), .bool s.only] 30
  have own4 := own3.alloc (.cells #[.string G.name, .slice (some ⟨g, 0, none⟩) (goodL s) cg, .int .i64 (goodKey s : Nat), .bool s.only] 30)
  have own3lt := (own3.lt g rfl).2
  have hz4 : w3.heap.size ≤ w4.heap.size := by rw [hw4]; simp
  have hz3 := t3.size
  rw [← hw4] at t04 own4
  rw [show w3.alloc (.cells [.string G.name, .slice (some ⟨g, 0, none⟩) (goodL s) cg, .int .i64 (goodKey s : Nat), .bool s.only].toArray 30) = w4 from hw4.symm] at b4
  have s4 := Sl.of_own own4
  have c1 : w4.cell? ⟨w3.heap.size, 1, none⟩ = some (.slice (some ⟨g, 0, none⟩) (goodL s) cg) := b4.cell 1
  have HW := Lib.hid hw4
  clear hw4 own3 t03 GD' r2 t3
  obtain ⟨p9, hp9⟩ : ∃ p9, p9 = w3.heap.size := ⟨_, rfl⟩
  rw [← hp9] at b4 c1
  have r4 := b4.range 0 4
  rw [List.drop_zero, List.take_of_length_le (by simp)] at r4
  have hsz4 : (Try.prog.info? 30).map (·.size) = some ([.string G.name, .slice (some ⟨g, 0, none⟩) (goodL s) cg, .int .i64 (goodKey s : Nat), .bool s.only] : List Value).length := by kernel_rfl
  have hft : G.fits := ⟨by omega, fun c hc => by obtain ⟨j, hj, rfl⟩ := List.mem_iff_getElem.1 hc; rw [hfc j hj]; omega⟩
  have BY := Bytes_any G (some ⟨g, 0, none⟩) (goodL s) cg w4.heap.size w4 hft s4 (Nat.le_refl _) (by omega)
  rw [hgo.1, hgo.2] at BY
  replace BY := Lib.hid BY
  have HP9 := Lib.hid hp9
  have H4 := Lib.hid (And.intro b4 (And.intro own4 (And.intro t04 (And.intro hgo (And.intro hpg s4)))))
  have h9 : (schBytes G).length ≤ 900000 := schBytes_len G (by omega)
  clear b4 own4 t04 hgo hpg s4 hp9 own3lt c1 hfc hft hfit
  go_upto_region 6 with (first
    | (refine wpList_load_mid rfl 30 (.tmp 6) rfl w.heap.size 0 rfl _ _ r2 Try.underlying30 rfl hsz ?_)
    | fail)
  rw [← HW.out, ← HP9.out]
  go_wp2_with (first
    | (refine wpList_load_mid rfl 30 (.tmp 13) rfl p9 0 rfl _ _ r4 Try.underlying30 rfl hsz4 ?_)
    | fail)
  refine BY.out.mono ?_
  rintro e y1 ⟨vb, rfl, m1⟩
  have PA := Parse_any vb (schBytes G) y1 m1.sl (by omega)
  rw [H4.out.2.2.2.2.1] at PA
  have tb := H4.out.2.2.1.trans m1.turns (by simp)
  have slb := m1.sl
  obtain ⟨-, Ab, cb, rfl, hlb, hlb2, -, -⟩ := m1.sl
  unfold maxLen at hlb2
  replace PA := Lib.hid PA
  have t24 : Turns [] w2 w4 := by rw [HW.out]; exact T3.out.alloc _
  have H5 := Lib.hid (And.intro tb (And.intro slb m1.turns))
  have T21 := Lib.hid (t24.trans m1.turns (by simp))
  clear tb slb m1 BY t24
  go_wp2_with fail
  refine PA.out.mono ?_
  rintro e y2 ⟨A1, n1, k1, rfl, sl1, t1⟩
  dsimp only
  dsimp only at sl1
  rw [H4.out.2.2.2.1.1, H4.out.2.2.2.1.2]
  obtain ⟨hn1, hm1⟩ := sl_cols sl1
  obtain rfl : n1 = goodL s := by omega
  obtain ⟨p15, hp15⟩ : ∃ p15, p15 = y2.heap.size := ⟨_, rfl⟩
  obtain ⟨y3, hy3⟩ : ∃ y3, y3 = y2.alloc (.cells #[.string G.name, .slice A1 (goodL s) k1, .int .i64 (goodKey s : Nat), .bool s.only] 30) := ⟨_, rfl⟩
  have v15 := Blk.new y2 [.string G.name, .slice A1 (goodL s) k1, .int .i64 (goodKey s : Nat), .bool s.only] 30
  rw [show y2.alloc (.cells [.string G.name, .slice A1 (goodL s) k1, .int .i64 (goodKey s : Nat), .bool s.only].toArray 30) = y3 from hy3.symm, ← hp15] at v15
  have ta : Turns [] y2 y3 := by rw [hy3]; exact (Turns.refl _ _).alloc _
  have t13 := t1.trans ta (by simp)
  have r9 := rangeT t13 (rangeT H5.out.2.2 r4)
  have r15 := v15.range 0 4
  rw [List.drop_zero, List.take_of_length_le (by simp)] at r15
  have hsz15 : (Try.prog.info? 30).map (·.size) = some ([.string G.name, .slice A1 (goodL s) k1, .int .i64 (goodKey s : Nat), .bool s.only] : List Value).length := by kernel_rfl
  have sl1' : Sl y3 y3.heap.size 3 (.slice A1 (goodL s) k1) (goodL s) (colCells G.cols) := (ta.slice sl1 (Nat.le_refl _) (by simp)).more ta.size
  have sl4' : Sl y3 y3.heap.size 3 (.slice (some ⟨g, 0, none⟩) (goodL s) cg) (goodL s) (colCells G.cols) := ((H5.out.2.2.trans t13 (by simp)).slice H4.out.2.2.2.2.2 (Nat.le_refl _) (by simp)).more (H5.out.2.2.trans t13 (by simp)).size
  have SM := Same_any G G A1 (some ⟨g, 0, none⟩) (goodL s) k1 (goodL s) cg y3.heap.size y3 sl1' sl4' (Nat.le_refl _)
  rw [(sameS_iff G G).2 rfl, H4.out.2.2.2.1.1, H4.out.2.2.2.1.2] at SM
  have t03 := H5.out.1.trans t13 (by simp)
  have slb := t13.slice H5.out.2.1 (Nat.le_refl _) (by simp)
  replace SM := Lib.hid SM
  have HY3 := Lib.hid hy3
  have HP15 := Lib.hid hp15
  have H6 := Lib.hid (And.intro t03 (And.intro slb t13.size))
  have T23 := Lib.hid (T21.out.trans t13 (by simp))
  clear hy3 hp15 hn1 ta v15 sl1 sl1' sl4' t1 t13 t03 slb PA r4 hm1
  go_upto_region 8 with fail
  rw [← HY3.out, ← HP15.out]
  go_wp2_with (first
    | (refine wpList_load_g (by rfl) 30 (.tmp 15) rfl p15 0 rfl _ _ r15 Try.underlying30 rfl hsz15 ?_)
    | (refine wpList_load_g (by rfl) 30 (.tmp 13) rfl p9 0 rfl _ _ r9 Try.underlying30 rfl hsz4 ?_)
    | fail)
  refine SM.out.mono ?_
  rintro e y4 ⟨rfl, tt⟩
  have t04 := H6.out.1.trans tt (by simp)
  have slb := tt.slice H6.out.2.1 (Nat.le_trans H6.out.2.2 (Nat.le_refl _)) (by simp)
  have hyy := Nat.le_trans H6.out.2.2 tt.size
  obtain ⟨vd, y5, hrd, ownd, tcd⟩ := run_fresh_copy y4 slb (by omega) (by omega) 35
  have HRD := Lib.hid hrd
  have H7 := Lib.hid (And.intro t04 (And.intro slb (And.intro ownd tcd)))
  have T2y := Lib.hid (T23.out.trans tt (by simp))
  obtain ⟨Ad, cd, rfl⟩ := own_form' ownd
  clear SM r9 r15 hsz15 hsz4 tt t04 slb ownd tcd hrd
  go_upto_region 10 with fail
  have hrd := HRD.out
  go_upto_block 0 with (at_builtin; refine wpList_append_at rfl (.tmp 53) (.tmp 54) rfl hrd rfl rfl ?_)
  clear hrd
  have hN9 : 0 < (schBytes G).length := by
    unfold schBytes
    simp only [List.length_append, List.length_cons, List.length_nil]
    omega
  obtain ⟨N, hN⟩ : ∃ N, N = (schBytes G).length := ⟨_, rfl⟩
  rw [← hN] at H7 hN9 h9 hlb ⊢
  have HN := Lib.hid hN
  clear hN
  go_cut [] (fun wx => DIs y4 N (.slice Ad N cd) wx)
  case first =>
    go_wp2_with fail
    go_loopw [18] (fun i wr => ∃ k : Nat, k ≤ 3 ∧ i = .int .i64 k ∧ DIs y4 N (.slice Ad N cd) wr) (fun i _ => 3 - (intOf i).toNat)
    case atStart => exact ⟨0, by omega, rfl, schBytes G, HN.out.symm, H7.out.2.2.1, H7.out.2.2.2⟩
    case round =>
      obtain ⟨k, hk3, rfl, ds, hdl, od, td⟩ := hrel
      have HOD := Lib.hid (And.intro od td)
      by_cases hla1 : k < zs.length
      · by_cases hly1 : k < ys.length
        · by_cases hk4 : k < 3
          · have xa : (k : Int) < (zs.length : Int) := by omega
            have xy : (k : Int) < (ys.length : Int) := by omega
            have xda : decide (k < zs.length) = true := decide_eq_true hla1
            have xdy : decide (k < ys.length) = true := decide_eq_true hly1
            have tw := H7.out.1.trans td (by simp)
            obtain ⟨_, _, _, ee, _, _, _, hrd⟩ := har
            injection ee with e1 _ _
            subst e1
            obtain ⟨ba, oa, rfl, _, qa⟩ := hrd.at_ (k := k) (by rw [List.length_map]; exact hla1)
            rw [List.getElem_map] at qa
            have qa := cellT tw qa
            obtain ⟨_, _, _, ee, _, _, _, hrd⟩ := hyr
            injection ee with e1 _ _
            subst e1
            obtain ⟨bb, ob, rfl, _, qy⟩ := hrd.at_ (k := k) (by rw [bvs_length]; exact hly1)
            have qy := cellT tw qy
            obtain ⟨gd, cc, ee, hnc, hcm, hgb, hgl, hcell⟩ := own_cells od hN9
            injection ee with e1 e2 e3
            subst e1 e3
            obtain ⟨zk, hzk⟩ : ∃ zk, zk = zs[k] := ⟨_, rfl⟩
            have hzb := hza zk (by rw [hzk]; exact List.getElem_mem hla1)
            obtain ⟨j, hj⟩ : ∃ j : Nat, zk % (N : Int) = j := ⟨(zk % (N : Int)).toNat, by have := Int.emod_nonneg zk (show (N : Int) ≠ 0 by omega); omega⟩
            have hjN : j < N := by have := Int.emod_lt_of_pos zk (show (0 : Int) < (N : Int) by omega); omega
            have WI := fun W => within_any zk N W hzb.1 hzb.2 (by omega) (by omega)
            rw [hj] at WI
            replace WI := Lib.hid WI
            rw [← hzk] at qa
            have hjb : j < (bvs ds).length := by rw [bvs_length]; omega
            obtain ⟨qd, fd⟩ := hcell j (bvs ds)[j] (List.getElem?_eq_getElem hjb)
            have hjd : j < ds.length := by omega
            rw [show (bvs ds)[j]'(by rw [bvs_length]; omega) = u8v ds[j] by simp [bvs]] at qd
            rw [show (bvs ys)[k]'(by rw [bvs_length]; omega) = u8v ys[k] by simp [bvs]] at qy
            unfold u8v at qd qy
            have hji : (j : Int) < (N : Int) := by omega
            have hS0 : Turns [] wr wr.drew := (Turns.refl _ _).drew
            clear hzk hj hcell tw hrd td od
            go_upto_region 14 with fail
            refine reg_begin (fun _ => True) (fun W => Turns [] wr W) 16 17 #[false, false, false, false, false, false, false, false, false, false, false, false, false, false, false, false, false] (by kernel_rfl) (by kernel_rfl) (by kernel_rfl) ?_
            refine reg_take 0 72 16 #[true, false, false, false, false, false, false, false, false, false, false, false, false, false, false, false, false] (by rfl) (v := ?_) rfl rfl (by kernel_rfl) (by kernel_rfl) (by kernel_rfl) (by kernel_rfl) (fun _ _ _ h => h) (by rfl) ?_ (Till.mk' trivial hS0) ?_
            rotate_left
            · intro W hS; go_simp; all_goals with_reducible rfl
            try simp only [List.setIfInBounds_toArray, List.set_cons_succ, List.set_cons_zero]
            refine reg_take 1 73 15 #[true, true, false, false, false, false, false, false, false, false, false, false, false, false, false, false, false] (by rfl) (v := ?_) rfl rfl (by kernel_rfl) (by kernel_rfl) (by kernel_rfl) (by kernel_rfl) (fun _ _ _ h => h) (by rfl) ?_ (Till.mk' trivial hS0) ?_
            rotate_left
            · intro W hS; go_simp; all_goals with_reducible rfl
            try simp only [List.setIfInBounds_toArray, List.set_cons_succ, List.set_cons_zero]
            refine reg_take 2 74 14 #[true, true, true, false, false, false, false, false, false, false, false, false, false, false, false, false, false] (by rfl) (v := ?_) rfl rfl (by kernel_rfl) (by kernel_rfl) (by kernel_rfl) (by kernel_rfl) (fun _ _ _ h => h) (by rfl) ?_ (Till.mk' trivial hS0) ?_
            rotate_left
            · intro W hS; go_simp; all_goals with_reducible rfl
            try simp only [List.setIfInBounds_toArray, List.set_cons_succ, List.set_cons_zero]
            refine reg_take 3 75 13 #[true, true, true, true, false, false, false, false, false, false, false, false, false, false, false, false, false] (by rfl) (v := ?_) rfl rfl (by kernel_rfl) (by kernel_rfl) (by kernel_rfl) (by kernel_rfl) (fun _ _ _ h => h) (by rfl) ?_ (Till.mk' trivial hS0) ?_
            rotate_left
            · intro W hS; go_simp; all_goals with_reducible rfl
            try simp only [List.setIfInBounds_toArray, List.set_cons_succ, List.set_cons_zero]
            refine reg_take_t 4 76 12 #[true, true, true, true, true, false, false, false, false, false, false, false, false, false, false, false, false] (by rfl) (v := ?_) rfl rfl (by kernel_rfl) (by kernel_rfl) (by kernel_rfl) (by kernel_rfl) (fun _ _ _ h => h) (by rfl) (by kernel_rfl) (by kernel_rfl) ?_ (Till.mk' trivial hS0) ?_
            rotate_left
            · rintro W ⟨-, hS⟩; have c2 := cellT hS qa; go_simp; all_goals with_reducible rfl
            try simp only [List.setIfInBounds_toArray, List.set_cons_succ, List.set_cons_zero]
            refine reg_take 5 77 11 #[true, true, true, true, true, true, false, false, false, false, false, false, false, false, false, false, false] (by rfl) (v := ?_) rfl rfl (by kernel_rfl) (by kernel_rfl) (by kernel_rfl) (by kernel_rfl) (fun _ _ _ h => h) (by rfl) ?_ (Till.mk' trivial hS0) ?_
            rotate_left
            · intro W hS; go_simp; all_goals with_reducible rfl
            try simp only [List.setIfInBounds_toArray, List.set_cons_succ, List.set_cons_zero]
            refine reg_take 6 78 10 #[true, true, true, true, true, true, true, false, false, false, false, false, false, false, false, false, false] (by rfl) (v := ?_) rfl rfl (by kernel_rfl) (by kernel_rfl) (by kernel_rfl) (by kernel_rfl) (fun _ _ _ h => h) (by rfl) ?_ (Till.mk' trivial hS0) ?_
            rotate_left
            · intro W hS; go_simp; all_goals with_reducible rfl
            try simp only [List.setIfInBounds_toArray, List.set_cons_succ, List.set_cons_zero]
            refine reg_take 10 82 9 #[true, true, true, true, true, true, true, false, false, false, true, false, false, false, false, false, false] (by rfl) (v := ?_) rfl rfl (by kernel_rfl) (by kernel_rfl) (by kernel_rfl) (by kernel_rfl) (fun _ _ _ h => h) (by rfl) ?_ (Till.mk' trivial hS0) ?_
            rotate_left
            · intro W hS; go_simp; all_goals with_reducible rfl
            try simp only [List.setIfInBounds_toArray, List.set_cons_succ, List.set_cons_zero]
            refine reg_take 11 83 8 #[true, true, true, true, true, true, true, false, false, false, true, true, false, false, false, false, false] (by rfl) (v := ?_) rfl rfl (by kernel_rfl) (by kernel_rfl) (by kernel_rfl) (by kernel_rfl) (fun _ _ _ h => h) (by rfl) ?_ (Till.mk' trivial hS0) ?_
            rotate_left
            · intro W hS; go_simp; all_goals with_reducible rfl
            try simp only [List.setIfInBounds_toArray, List.set_cons_succ, List.set_cons_zero]
            refine reg_take 12 84 7 #[true, true, true, true, true, true, true, false, false, false, true, true, true, false, false, false, false] (by rfl) (v := ?_) rfl rfl (by kernel_rfl) (by kernel_rfl) (by kernel_rfl) (by kernel_rfl) (fun _ _ _ h => h) (by rfl) ?_ (Till.mk' trivial hS0) ?_
            rotate_left
            · intro W hS; go_simp; all_goals with_reducible rfl
            try simp only [List.setIfInBounds_toArray, List.set_cons_succ, List.set_cons_zero]
            refine reg_take_t 13 85 6 #[true, true, true, true, true, true, true, false, false, false, true, true, true, true, false, false, false] (by rfl) (v := ?_) rfl rfl (by kernel_rfl) (by kernel_rfl) (by kernel_rfl) (by kernel_rfl) (fun _ _ _ h => h) (by rfl) (by kernel_rfl) (by kernel_rfl) ?_ (Till.mk' trivial hS0) ?_
            rotate_left
            · rintro W ⟨-, hS⟩; have c2 := cellT hS qy; go_simp; all_goals with_reducible rfl
            try simp only [List.setIfInBounds_toArray, List.set_cons_succ, List.set_cons_zero]
            refine reg_one 7 5 #[true, true, true, true, true, true, true, true, false, false, true, true, true, true, false, false, false] (by kernel_rfl) rfl (by rfl) (by kernel_rfl) (fun K hK => ?_)
            go_simp
            refine (WI.out _).mono ?_
            rintro e ww ⟨rfl, rfl⟩
            refine hK _ _ (Till.mk' trivial hS0) ?_
            clear hK K
            try simp only [List.setIfInBounds_toArray, List.set_cons_succ, List.set_cons_zero]
            refine reg_take 8 80 4 #[true, true, true, true, true, true, true, true, true, false, true, true, true, true, false, false, false] (by rfl) (v := ?_) rfl rfl (by kernel_rfl) (by kernel_rfl) (by kernel_rfl) (by kernel_rfl) (fun _ _ _ h => h) (by rfl) ?_ (Till.mk' trivial hS0) ?_
            rotate_left
            · intro W hS; go_simp; all_goals with_reducible rfl
            try simp only [List.setIfInBounds_toArray, List.set_cons_succ, List.set_cons_zero]
            refine reg_take_t 9 81 3 #[true, true, true, true, true, true, true, true, true, true, true, true, true, true, false, false, false] (by rfl) (v := ?_) rfl rfl (by kernel_rfl) (by kernel_rfl) (by kernel_rfl) (by kernel_rfl) (fun _ _ _ h => h) (by rfl) (by kernel_rfl) (by kernel_rfl) ?_ (Till.mk' trivial hS0) ?_
            rotate_left
            · rintro W ⟨-, hS⟩; have c2 := cellT hS qd; go_simp; all_goals with_reducible rfl
            try simp only [List.setIfInBounds_toArray, List.set_cons_succ, List.set_cons_zero]
            refine reg_take 14 86 2 #[true, true, true, true, true, true, true, true, true, true, true, true, true, true, true, false, false] (by rfl) (v := ?_) rfl rfl (by kernel_rfl) (by kernel_rfl) (by kernel_rfl) (by kernel_rfl) (fun _ _ _ h => h) (by rfl) ?_ (Till.mk' trivial hS0) ?_
            rotate_left
            · intro W hS; go_simp; all_goals with_reducible rfl
            try simp only [List.setIfInBounds_toArray, List.set_cons_succ, List.set_cons_zero]
            refine reg_take 15 87 1 #[true, true, true, true, true, true, true, true, true, true, true, true, true, true, true, true, false] (by rfl) (v := ?_) rfl rfl (by kernel_rfl) (by kernel_rfl) (by kernel_rfl) (by kernel_rfl) (fun _ _ _ h => h) (by rfl) ?_ (Till.mk' trivial hS0) ?_
            rotate_left
            · intro W hS; go_simp; all_goals with_reducible rfl
            try simp only [List.setIfInBounds_toArray, List.set_cons_succ, List.set_cons_zero]
            refine reg_one 16 0 #[true, true, true, true, true, true, true, true, true, true, true, true, true, true, true, true, true] (by kernel_rfl) rfl (by rfl) (by kernel_rfl) (fun K hK => ?_)
            go_simp
            refine hK _ _ (Till.past trivial (by kernel_rfl)) ?_
            clear hK K
            try simp only [List.setIfInBounds_toArray, List.set_cons_succ, List.set_cons_zero]
            refine reg_done (by kernel_rfl) ?_ _
            rw [u8_add]
            have hoo : wr.ownsRow y4.heap.size 5 1 (.slice (some ⟨gd, 0, none⟩) N cd) N (bvs ds) := HOD.out.1
            have o2 := (hoo.stored j (u8v (ds[j] + ys[k]))).1.drew
            rw [← bvs_set] at o2
            have t2 := (HOD.out.2.setCell (p := ⟨gd, j, none⟩) (.inr hgb) (u8v (ds[j] + ys[k]))).drew
            have hfin := Lib.hid (And.intro o2 t2)
            clear hoo o2 t2 WI hS0 qa qy qd fd
            go_wp2_with fail
            go_roundw
            case rel => exact ⟨k + 1, by omega, by go_num, ds.set j (ds[j] + ys[k]), by rw [List.length_set]; exact hdl, hfin.out.1, hfin.out.2⟩
            case measure => (simp [intOf] <;> omega)
          · have xk : ¬ (k : Int) < 3 := by omega
            have xa : (k : Int) < (zs.length : Int) := by omega
            have xy : (k : Int) < (ys.length : Int) := by omega
            have xda : decide (k < zs.length) = true := decide_eq_true hla1
            have xdy : decide (k < ys.length) = true := decide_eq_true hly1
            have xk' : (3 : Int) ≤ (k : Int) := by omega
            clear od td
            go_wp2_with fail
            go_meet
            exact ⟨ds, hdl, HOD.out.1, HOD.out.2⟩
        · have xa : (k : Int) < (zs.length : Int) := by omega
          have xda : decide (k < zs.length) = true := decide_eq_true hla1
          have xdy : decide (k < ys.length) = false := decide_eq_false hly1
          have xy : (ys.length : Int) ≤ (k : Int) := by omega
          clear od td
          go_wp2_with fail
          go_meet
          exact ⟨ds, hdl, HOD.out.1, HOD.out.2⟩
      · have xda : decide (k < zs.length) = false := decide_eq_false hla1
        have xa : (zs.length : Int) ≤ (k : Int) := by omega
        clear od td
        go_wp2_with fail
        go_meet
        exact ⟨ds, hdl, HOD.out.1, HOD.out.2⟩
  case rest =>
    obtain ⟨ds, hdl, od, td⟩ := hcut
    have hcdN : N ≤ cd ∧ cd ≤ 9223372036854775807 := by
      obtain ⟨_, _, _, ee, h1, h2, _⟩ := Sl.of_own od
      injection ee with _ _ e3
      subst e3
      unfold maxLen at h2
      omega
    have HD := Lib.hid (And.intro od td)
    clear od td
    go_upto_if 90 with fail
    go_cut [17] (fun u wx => ∃ m : Nat, m ≤ N ∧ u = .slice Ad m cd ∧ wx = wc)
    case first =>
      have hq := tdiv_bounds cut 2 hcut.1 hcut.2 (by omega)
      obtain ⟨m, hm⟩ : ∃ m : Nat, cut.tdiv 2 % ((N : Int) + 1) = m := ⟨(cut.tdiv 2 % ((N : Int) + 1)).toNat, by have := Int.emod_nonneg (cut.tdiv 2) (show ((N : Int) + 1) ≠ 0 by omega); omega⟩
      have hmN : m ≤ N := by have := Int.emod_lt_of_pos (cut.tdiv 2) (show (0 : Int) < (N : Int) + 1 by omega); omega
      have WI := fun W => within_any (cut.tdiv 2) ((N : Int) + 1) W hq.1 hq.2 (by omega) (by omega)
      rw [hm] at WI
      replace WI := Lib.hid WI
      have hmi : (m : Int) ≤ (cd : Int) := by omega
      clear hm
      cases hc : (cut.tmod 2 == 1)
      · go_wp2_with fail
        go_meet
        exact ⟨N, Nat.le_refl _, rfl, rfl⟩
      · go_wp2_with fail
        refine (WI.out _).mono ?_
        rintro e ww ⟨rfl, rfl⟩
        go_wp2_with fail
        go_meet
        exact ⟨m, hmN, rfl, rfl⟩
    case rest =>
      obtain ⟨m, hmN, rfl, rfl⟩ := hcut
      obtain ⟨x0, hx0⟩ : ∃ x0, x0 = wc.drew := ⟨_, rfl⟩
      have tx : Turns [] wc x0 := by rw [hx0]; exact (Turns.refl _ _).drew
      have td := HD.out.2.trans tx (by simp)
      have od := own_t0 HD.out.1 tx
      have sd0 := Sl.of_own od
      have sd : Sl x0 x0.heap.size 1 (.slice Ad m cd) m (bvs (ds.take m)) := by rw [← bvs_take]; exact sd0.to hmN
      have tw := H7.out.1.trans td (by simp)
      have slb : Sl x0 x0.heap.size 1 (.slice Ab N cb) N (bvs (schBytes G)) := (td.slice (H7.out.2.1.more (Nat.le_refl _)) hyy (by simp)).more (Nat.le_trans hyy td.size)
      have slr := (tw.slice hrr (Nat.le_refl _) (by simp)).more tw.size
      have t20 := T2y.out.trans td (by simp)
      have ss : Sl x0 w.heap.size 3 (.slice A n c) n (colCells s.cols) := t20.slice S2.out z2 (by simp)
      have zs' := tw.size
      have rs := rangeT t20 R2.out
      obtain ⟨hf9, -, -⟩ := fewS_names hfw
      have hs9 := schBytes_len s hf9
      have RB := fun W hB hl => refBytes_any s A n c w.heap.size W hf hB hl hf9
      have hS : Turns [] x0 x0 := Turns.refl _ _
      have TX0 := Lib.hid tw
      have HX0 := Lib.hid hx0
      clear hx0 tx td od sd0 tw t20
      go_upto_region 17 with fail
      go_cut [19] (fun u wx => Rows4 w wx u)
      case first =>
        refine reg_begin (fun W => Turns [] x0 W) (fun _ => True) 11 11 #[false, false, false, false, false, false, false, false, false, false, false] (by kernel_rfl) (by kernel_rfl) (by kernel_rfl) ?_
        rw [← HX0.out]
        refine reg_take 0 99 10 #[true, false, false, false, false, false, false, false, false, false, false] (by rfl) (v := ?_) rfl rfl (by kernel_rfl) (by kernel_rfl) (by kernel_rfl) (by kernel_rfl) (fun _ _ _ h => h) (by rfl) ?_ (Till.mk' hS trivial) ?_
        rotate_left
        · intro W hS; go_simp; all_goals with_reducible rfl
        try simp only [List.setIfInBounds_toArray, List.set_cons_succ, List.set_cons_zero]
        refine reg_take 2 101 9 #[true, false, true, false, false, false, false, false, false, false, false] (by rfl) (v := ?_) rfl rfl (by kernel_rfl) (by kernel_rfl) (by kernel_rfl) (by kernel_rfl) (fun _ _ _ h => h) (by rfl) ?_ (Till.mk' hS trivial) ?_
        rotate_left
        · intro W hS; go_simp; all_goals with_reducible rfl
        try simp only [List.setIfInBounds_toArray, List.set_cons_succ, List.set_cons_zero]
        refine reg_take 4 103 8 #[true, false, true, false, true, false, false, false, false, false, false] (by rfl) (v := ?_) rfl rfl (by kernel_rfl) (by kernel_rfl) (by kernel_rfl) (by kernel_rfl) (fun _ _ _ h => h) (by rfl) ?_ (Till.mk' hS trivial) ?_
        rotate_left
        · intro W hS; go_simp; all_goals with_reducible rfl
        try simp only [List.setIfInBounds_toArray, List.set_cons_succ, List.set_cons_zero]
        refine reg_take 6 105 7 #[true, false, true, false, true, false, true, false, false, false, false] (by rfl) (v := ?_) rfl rfl (by kernel_rfl) (by kernel_rfl) (by kernel_rfl) (by kernel_rfl) (fun _ _ _ h => h) (by rfl) ?_ (Till.mk' hS trivial) ?_
        rotate_left
        · intro W hS; go_simp; all_goals with_reducible rfl
        try simp only [List.setIfInBounds_toArray, List.set_cons_succ, List.set_cons_zero]
        refine reg_take_y 7 106 6 #[true, false, true, false, true, false, true, true, false, false, false] (by rfl) rfl rfl (by kernel_rfl) (by kernel_rfl) (by kernel_rfl) (by kernel_rfl) (fun _ _ _ h => h) (yieldsIf_load_mid (by rfl) _ _ rfl w.heap.size 0 (by rfl) _ _ (fun W hS => rangeT hS rs) Try.underlying30 rfl hsz) (Till.mk' hS trivial) ?_
        try simp only [List.setIfInBounds_toArray, List.set_cons_succ, List.set_cons_zero]
        refine reg_one 1 5 #[true, true, true, false, true, false, true, true, false, false, false] (by kernel_rfl) rfl (by rfl) (by kernel_rfl) (fun K hK => ?_)
        go_simp
        obtain ⟨x1, hx1⟩ : ∃ x1, x1 = x0.alloc (.cells #[] 5) := ⟨_, rfl⟩
        obtain ⟨va, x2, hra, owna, tca⟩ := run_fresh_copy x0 slb (by omega) (by omega) 35
        rw [← hx1] at hra ⊢
        have hS := hS.alloc (.cells #[] 5)
        rw [← hx1] at hS
        obtain ⟨Aa', ca', rfl⟩ := own_form' owna
        have HX1 := Lib.hid hx1
        clear hx1
        refine hK _ _ (Till.mk' hS trivial) ?_
        clear hK K
        try simp only [List.setIfInBounds_toArray, List.set_cons_succ, List.set_cons_zero]
        refine reg_one 3 4 #[true, true, true, true, true, false, true, true, false, false, false] (by kernel_rfl) rfl (by rfl) (by kernel_rfl) (fun K hK => ?_)
        refine wp_append_run _ (.tmp 100) (.tmp 101) rfl (by rfl) (by rfl) (R := fun v w' => .slice Aa' N ca' = v ∧ x2 = w') ⟨_, _, hra, rfl, rfl⟩ ?_
        rintro _ _ ⟨rfl, rfl⟩
        have hS := tca
        clear hra
        obtain ⟨vb, x3, hrb, apb⟩ := run_append_rd (P := Try.prog) _ T8 35 owna (hS.slice slr (by omega) (by simp)) (bvs_one _) (by simp only [maxLen]; omega) (by omega) hS.size
        obtain ⟨Ab', cb', rfl⟩ := own_form' apb.own
        refine hK _ _ (Till.mk' hS trivial) ?_
        clear hK K
        try simp only [List.setIfInBounds_toArray, List.set_cons_succ, List.set_cons_zero]
        refine reg_one 5 3 #[true, true, true, true, true, true, true, true, false, false, false] (by kernel_rfl) rfl (by rfl) (by kernel_rfl) (fun K hK => ?_)
        refine wp_append_run _ (.tmp 102) (.tmp 103) rfl (by rfl) (by rfl) (R := fun v w' => .slice Ab' (N + raw.length) cb' = v ∧ x3 = w') ⟨_, _, hrb, rfl, rfl⟩ ?_
        rintro _ _ ⟨rfl, rfl⟩
        have tb := Turns.of_grown (L := (Value.slice Aa' N ca').ownBlock.toList) apb.grown (by intro x hx; exact .inl (by simpa using hx))
        have hS := hS.trans tb (by intro x hx; exact .inr (owna.lt x (by simpa using hx)).1)
        clear hrb tb
        have sap := Sl.of_own apb.own
        refine hK _ _ (Till.mk' hS trivial) ?_
        clear hK K
        try simp only [List.setIfInBounds_toArray, List.set_cons_succ, List.set_cons_zero]
        refine reg_one 8 2 #[true, true, true, true, true, true, true, true, true, false, false] (by kernel_rfl) rfl (by rfl) (by kernel_rfl) (fun K hK => ?_)
        go_simp
        refine (RB _ (by exact hS.slice ss zs' (by simp)) (Nat.le_trans zs' hS.size)).mono ?_
        rintro e x4 ⟨vr, rfl, m4⟩
        have sap := (m4.turns.slice sap (Nat.le_refl _) (by simp)).more m4.turns.size
        have hS := hS.trans m4.turns (by simp)
        have svr := m4.sl
        obtain ⟨-, Ar', cr', rfl, hlr', hlr2', -, -⟩ := m4.sl
        clear m4
        refine hK _ _ (Till.mk' hS trivial) ?_
        clear hK K
        try simp only [List.setIfInBounds_toArray, List.set_cons_succ, List.set_cons_zero]
        refine reg_one 9 1 #[true, true, true, true, true, true, true, true, true, true, false] (by kernel_rfl) rfl (by rfl) (by kernel_rfl) (fun K hK => ?_)
        go_simp
        obtain ⟨q, hq⟩ : ∃ q, q = x4.heap.size := ⟨_, rfl⟩
        have vq := Blk.new x4 [.slice Ad m cd, .slice Ab' (N + raw.length) cb', .slice Ar raw.length cr, .slice Ar' (schBytes s).length cr'] 35
        rw [← hq] at vq
        have tq : Turns [] x4 (x4.alloc (.cells #[.slice Ad m cd, .slice Ab' (N + raw.length) cb', .slice Ar raw.length cr, .slice Ar' (schBytes s).length cr'] 35)) := (Turns.refl _ _).alloc _
        have sdq := (hS.trans tq (by simp)).slice sd (Nat.le_refl _) (by simp)
        have saq := tq.slice sap (Nat.le_refl _) (by simp)
        have srq := (hS.trans tq (by simp)).slice slr (by omega) (by simp)
        have svq := tq.slice svr (Nat.le_refl _) (by simp)
        have hS4 := hS.size
        have hS := hS.trans tq (by simp)
        refine hK _ _ (Till.mk' hS trivial) ?_
        clear hK K
        try simp only [List.setIfInBounds_toArray, List.set_cons_succ, List.set_cons_zero]
        refine reg_take 10 19 0 #[true, true, true, true, true, true, true, true, true, true, true] (by rfl) (v := ?_) rfl rfl (by kernel_rfl) (by kernel_rfl) (by kernel_rfl) (by kernel_rfl) (fun _ _ _ h => h) (by rfl) ?_ (Till.mk' hS trivial) ?_
        rotate_left
        · intro W hS; go_simp; all_goals with_reducible rfl
        try simp only [List.setIfInBounds_toArray, List.set_cons_succ, List.set_cons_zero]
        refine reg_done (by kernel_rfl) ?_ _
        go_wp2_with fail
        go_meet
        refine ⟨q, 0, [_, _, _, _], by rw [hq], rfl, vq, ?_, (TX0.out).trans hS (by simp)⟩
        intro j hj
        match j, hj with
        | 0, _ => exact ⟨_, _, _, ds.take m, rfl, by rw [List.length_take]; omega, by omega, sdq.more hS.size⟩
        | 1, _ => exact ⟨_, _, _, schBytes G ++ raw, rfl, by rw [List.length_append, ← HN.out], by omega, (saq.more (by have := tq.size; omega)).cast (by rw [bvs_append])⟩
        | 2, _ => exact ⟨_, _, _, raw, rfl, rfl, by omega, srq.more hS.size⟩
        | 3, _ => exact ⟨_, _, _, schBytes s, rfl, rfl, by omega, svq.more tq.size⟩
      case rest =>
        clear RB sd slb slr ss rs hS
        obtain ⟨q, X1, vs, rfl, hvl, vq, hrow, t1⟩ := hcut
        have HQ := Lib.hid (And.intro vq (And.intro hrow t1))
        have hwl := t1.size
        clear vq hrow t1
        go_wp2_with fail
        go_loopw [20] (fun i wr => ∃ k : Nat, k ≤ 4 ∧ i = .int .i64 k ∧ Turns [] wc wr) (fun i _ => 4 - (intOf i).toNat)
        case atStart => exact ⟨0, by omega, rfl, Turns.refl _ _⟩
        case round =>
          obtain ⟨k, hk4, rfl, td⟩ := hrel
          by_cases hlt : k < 4
          · obtain ⟨A4, m4, c4, l, hvs, hll, hml, hsl⟩ := HQ.out.2.1 k hlt
            have xk : (k : Int) < 4 := by omega
            have vq := HQ.out.1.turns td (by simp)
            have qk : wr.cell? ⟨q, k, none⟩ = some (.slice A4 m4 c4) := by rw [vq.cell, hvs]
            have sl := (td.slice hsl (Nat.le_refl _) (by simp)).more td.size
            subst hll
            obtain ⟨va, z1, hra, owna, tca⟩ := run_fresh_copy wr sl (Nat.le_refl _) (by omega) 35
            have qk1 := cellT tca qk
            have sl1 := (tca.slice sl (Nat.le_refl _) (by simp)).more tca.size
            have sla := Sl.of_own owna
            obtain ⟨Av, cv, rfl⟩ := own_form' owna
            have PA := Parse_any _ l z1 sla (by omega)
            have RP := fun W hW => refParse_any (.slice A4 l.length c4) l W hW (by omega)
            generalize parseRes l = res at PA RP
            obtain ⟨S, er⟩ := res
            have HPA := Lib.hid PA
            have HRP := Lib.hid RP
            have HT := Lib.hid (And.intro (td.trans tca (by simp)) (And.intro qk1 sl1))
            have hra' := Lib.hid hra
            have qka := cellT ((Turns.refl [] wr).alloc (.cells #[] 5)) qk
            clear PA RP td tca qk1 sl1 sla owna sl vq hvs hml hsl hra
            go_upto_region 21 with fail
            have hra := hra'.out
            go_wp2_with (at_builtin; refine wpList_append_at rfl (.tmp 114) (.tmp 118) rfl hra rfl rfl ?_)
            clear hra hra' qk qka
            refine HPA.out.mono ?_
            rintro e z2 ⟨B1, n1, k1, rfl, sp1, tt⟩
            dsimp only at sp1 ⊢
            obtain ⟨hn1, hm1⟩ := sl_cols sp1
            subst hn1
            obtain ⟨p21, hp21⟩ : ∃ p21, p21 = z2.heap.size := ⟨_, rfl⟩
            obtain ⟨z3, hz3⟩ : ∃ z3, z3 = z2.alloc (.cells #[.string S.name, .slice B1 S.cols.length k1, .int .i64 S.key, .bool S.only] 30) := ⟨_, rfl⟩
            have v21 := Blk.new z2 [.string S.name, .slice B1 S.cols.length k1, .int .i64 S.key, .bool S.only] 30
            rw [show z2.alloc (.cells [.string S.name, .slice B1 S.cols.length k1, .int .i64 S.key, .bool S.only].toArray 30) = z3 from hz3.symm, ← hp21] at v21
            have ta : Turns [] z2 z3 := by rw [hz3]; exact (Turns.refl _ _).alloc _
            have t13 := tt.trans ta (by simp)
            have qk3 := cellT t13 HT.out.2.1
            have sl3 := (t13.slice HT.out.2.2 (Nat.le_refl _) (by simp)).more t13.size
            have sp3 := (ta.slice sp1 (Nat.le_refl _) (by simp)).more ta.size
            have RP3 := Lib.hid (HRP.out z3 sl3)
            have t03 := HT.out.1.trans t13 (by simp)
            have HZ3 := Lib.hid hz3
            have HP21 := Lib.hid hp21
            have H8 := Lib.hid (And.intro v21 (And.intro sp3 t03))
            clear hp21 hz3 v21 ta t13 sl3 sp3 t03 tt sp1 HPA HRP HT hm1
            go_upto_region 22 with fail
            rw [← HZ3.out, ← HP21.out]
            go_wp2_with fail
            refine RP3.out.mono ?_
            rintro e z4 ⟨B2, n2, k2, rfl, sp2, tt⟩
            dsimp only at sp2 ⊢
            obtain ⟨hn2, hm2⟩ := sl_cols sp2
            subst hn2
            obtain ⟨p23, hp23⟩ : ∃ p23, p23 = z4.heap.size := ⟨_, rfl⟩
            obtain ⟨z5, hz5⟩ : ∃ z5, z5 = z4.alloc (.cells #[.string S.name, .slice B2 S.cols.length k2, .int .i64 S.key, .bool S.only] 30) := ⟨_, rfl⟩
            have v23 := Blk.new z4 [.string S.name, .slice B2 S.cols.length k2, .int .i64 S.key, .bool S.only] 30
            rw [show z4.alloc (.cells [.string S.name, .slice B2 S.cols.length k2, .int .i64 S.key, .bool S.only].toArray 30) = z5 from hz5.symm, ← hp23] at v23
            have ta : Turns [] z4 z5 := by rw [hz5]; exact (Turns.refl _ _).alloc _
            have t35 := tt.trans ta (by simp)
            have v21 := H8.out.1.turns t35 (by simp)
            have sp3 := (t35.slice H8.out.2.1 (Nat.le_refl _) (by simp)).more t35.size
            have sp4 := (ta.slice sp2 (Nat.le_refl _) (by simp)).more ta.size
            have t05 := H8.out.2.2.trans t35 (by simp)
            have SM := Same_any S S B1 B2 S.cols.length k1 S.cols.length k2 z5.heap.size z5 sp3 sp4 (Nat.le_refl _)
            rw [(sameS_iff S S).2 rfl] at SM
            replace SM := Lib.hid SM
            have r21 := v21.range 0 4
            rw [List.drop_zero, List.take_of_length_le (by simp)] at r21
            have r23 := v23.range 0 4
            rw [List.drop_zero, List.take_of_length_le (by simp)] at r23
            have hs21 : (Try.prog.info? 30).map (·.size) = some ([.string S.name, .slice B1 S.cols.length k1, .int .i64 S.key, .bool S.only] : List Value).length := by kernel_rfl
            have hs23 : (Try.prog.info? 30).map (·.size) = some ([.string S.name, .slice B2 S.cols.length k2, .int .i64 S.key, .bool S.only] : List Value).length := by kernel_rfl
            have HZ5 := Lib.hid hz5
            have HP23 := Lib.hid hp23
            have T5 := Lib.hid t05
            clear hp23 hz5 v21 v23 ta t35 sp3 sp4 t05 tt sp2 H8 qk3 hm2 RP3
            go_upto_region 23 with fail
            rw [← HZ5.out, ← HP23.out]
            go_wp2_with (first
              | (refine wpList_load_g (by rfl) 30 (.tmp 21) rfl p21 0 rfl _ _ r21 Try.underlying30 rfl hs21 ?_)
              | (refine wpList_load_g (by rfl) 30 (.tmp 23) rfl p23 0 rfl _ _ r23 Try.underlying30 rfl hs23 ?_)
              | fail)
            refine SM.out.mono ?_
            rintro e z6 ⟨rfl, tt⟩
            have tfin := T5.out.trans tt (by simp)
            clear tt SM r21 r23 hs21 hs23
            go_wp2_with fail
            go_roundw
            case rel => exact ⟨k + 1, by omega, by go_num, tfin⟩
            case measure => (simp [intOf] <;> omega)
          · have hk : k = 4 := by omega
            subst hk
            have bel := (HQ.out.2.2.trans td (by simp)).below (Nat.le_refl _) (by simp)
            clear td
            go_wp2_with fail
            go_ret
            exact ⟨rfl, bel⟩
end Go.Proofs.Ytdllgnccjejhiaa
