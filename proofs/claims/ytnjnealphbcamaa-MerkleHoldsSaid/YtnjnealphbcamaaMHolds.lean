/- MerkleHolds, walked. -/
import Derived.Test.YtnjnealphbcamaaMkW
import Derived.Test.YtnjnealphbcamaaMOrder
namespace Go.Proofs.Ytnjnealphbcamaa
open Go.RowKit
set_option linter.unusedVariables false
set_option maxRecDepth 10000
set_option linter.unusedSimpArgs false
set_option linter.unnecessarySimpa false

theorem hmine_append' {W0 w : World} {v : Value} {hs : List (List UInt8)} (h : HMine W0 w v hs) {B : Nat} {x : Value} {cs : List (List UInt8)} (hx : Hs w B x cs) (hm : hs.length + cs.length ≤ 1000000000) (ty : TypeId) :
    ∃ v' w', (Builtin.append_ #[23, 23] ty #[v, x]).run Try.prog w = .ok v' w' ∧ HMine W0 w' v' (hs ++ cs) ∧ Turns v.ownBlock.toList w w' := by
  obtain ⟨v1, w1, hr1, ap1⟩ := run_append_rd (P := Try.prog) w T23 ty h.own hx.sl (hcells_one _) (by simp only [maxLen]; omega) (by omega) h.turns.size
  have tg : Turns v.ownBlock.toList w w1 := Turns.of_grown ap1.grown (by intro k hk; exact .inl (by simpa using hk))
  refine ⟨v1, w1, hr1, ?_, tg⟩
  rw [← hcells_append] at ap1
  have hl : (hs ++ cs).length = hs.length + cs.length := List.length_append
  refine ⟨by rw [hl]; exact ap1.own, ?_, ?_⟩
  · exact h.turns.trans tg (by intro x hx; exact .inr (h.own.lt x (by simpa using hx)).1)
  · intro y hy
    rcases List.mem_append.1 hy with hy | hy
    · exact h.all y hy
    · exact hx.all y hy
theorem HRow.byte {w : World} {g : Nat} {L : List (List UInt8)} (h : HRow w g L) (t s : Nat) (x : List UInt8) (hx : L[t]? = some x) (ha : ∀ y ∈ L, y.length = 32) (hs : s < 32) (b : UInt8) : HRow (w.setCell ⟨g, t * 32 + s, none⟩ (u8v b)) g (L.set t (x.set s b)) := by
  intro j y hy
  have ht := (List.getElem?_eq_some_iff.1 hx).1
  have hx32 := ha x (List.mem_of_getElem? hx)
  by_cases e : t = j
  · subst e
    rw [List.getElem?_set_self ht] at hy
    injection hy with hy
    subst hy
    obtain ⟨h1, h2⟩ := h t x hx
    have key : ∀ q v, (bvs (x.set s b))[q]? = some v → (w.setCell ⟨g, t * 32 + s, none⟩ (u8v b)).cell? ⟨g, t * 32 + q, none⟩ = some v := by
      intro q v hv
      rw [show bvs (x.set s b) = (bvs x).set s (u8v b) by simp [bvs, List.map_set]] at hv
      by_cases es : s = q
      · subst es
        rw [List.getElem?_set_self (by rw [bvs_length]; omega)] at hv
        injection hv with hv
        subst hv
        obtain ⟨z, hz⟩ := Option.isSome_iff_exists.1 (h2 s hs).1
        exact World.cell?_setCell_same _ _ _ hz
      · rw [List.getElem?_set_ne es] at hv
        rw [World.cell?_setCell_other _ _ _ _ (by first | (simp; done) | (simp; omega))]
        exact h1 q v hv
    refine ⟨key, fun q hq => ⟨?_, by rw [World.frozen?_setCell]; exact (h2 q hq).2⟩⟩
    rw [key q _ (List.getElem?_eq_getElem (by rw [bvs_length, List.length_set]; omega))]; rfl
  · rw [List.getElem?_set_ne e] at hy
    obtain ⟨h1, h2⟩ := h j y hy
    have hy32 := ha y (List.mem_of_getElem? hy)
    refine ⟨fun q v hv => ?_, fun q hq => ⟨?_, by rw [World.frozen?_setCell]; exact (h2 q hq).2⟩⟩
    · have hq := (List.getElem?_eq_some_iff.1 hv).1
      rw [bvs_length, hy32] at hq
      rw [World.cell?_setCell_other _ _ _ _ (by first | (simp; done) | (simp; omega))]
      exact h1 q v hv
    · rw [World.cell?_setCell_other _ _ _ _ (by first | (simp; done) | (simp; omega))]
      exact (h2 q hq).1
theorem hxor (a b : Int) : 0 ≤ bits .xor .u8 a b ∧ bits .xor .u8 a b ≤ 255 := by
  have h : bits .xor .u8 a b = IntKind.u8.wrap ((BitVec.ofInt 8 a ^^^ BitVec.ofInt 8 b).toNat : Int) := rfl
  rw [h, IntKind.wrap_u8]
  omega
theorem mcheckZ_far (r x : List UInt8) (i n : Int) (p : List (List UInt8)) (h : i < 0 ∨ n ≤ i) : mcheckZ r x i n p = false := by
  unfold mcheckZ; rw [if_neg (by omega)]
theorem mcheckZ_len (r x : List UInt8) (i n : Nat) (p : List (List UInt8)) (h : (mway i n).length ≠ p.length) : mcheckZ r x i n p = false := by
  unfold mcheckZ mcheck
  split
  · simp [h]
  · rfl
theorem u8_ex (e : Int) (h0 : 0 ≤ e) (h1 : e ≤ 255) : ∃ b : UInt8, Value.int .u8 e = u8v b := by
  refine ⟨UInt8.ofNat e.toNat, ?_⟩
  unfold u8v
  congr 1
  rw [UInt8.toNat_ofNat']
  omega

set_option maxRecDepth 100000 in
set_option maxHeartbeats 4000000 in
theorem MerkleHolds_walk (n0 i0 j0 k0 : Int) (w : World) (hn1 : -9223372036854775808 ≤ n0 ∧ n0 ≤ 9223372036854775807) (hi1 : -9223372036854775808 ≤ i0 ∧ i0 ≤ 9223372036854775807) (hj1 : -9223372036854775808 ≤ j0 ∧ j0 ≤ 9223372036854775807) (hk1 : -9223372036854775808 ≤ k0 ∧ k0 ≤ 9223372036854775807) :
    Calls Try.prog 8 #[.int .i64 n0, .int .i64 i0, .int .i64 j0, .int .i64 k0] w fun e w' => e = .returned (.bool true) ∧ Below w.heap.size w w' := by
  obtain ⟨q, hq, hq40⟩ : ∃ q : Nat, (q : Int) = n0 % 40 ∧ q < 40 := ⟨(n0 % 40).toNat, by omega, by omega⟩
  have WI := fun w => within_any n0 40 w hn1.1 hn1.2 (by omega) (by omega)
  rw [← hq] at WI
  have HWI := Lib.hid WI
  have KN := Lib.hid (known_any w)
  have hqi : (q : Int) < 40 := by omega
  have HN := Lib.hid hq40
  have HI := Lib.hid (And.intro hi1 (And.intro hj1 hk1))
  have hz32 := zero_hash
  have hzl := zeros32_len
  generalize hzz : bvs (zeros 32) = zz at hz32 hzl
  have HZL := Lib.hid hzl
  clear hq WI hn1 hq40 hi1 hj1 hk1 hzz hzl
  go_enter Try.func8, Try.ntmps8
  go_wp2_with fail
  refine KN.out.mono ?_
  rintro e w1 ⟨rfl, t1⟩
  have HT1 := Lib.hid t1
  clear t1 KN
  go_wp2_with fail
  refine (HWI.out w1).mono ?_
  rintro e w2 ⟨rfl, rfl⟩
  clear HWI
  go_wp2_with fail
  obtain ⟨n, hn⟩ : ∃ n, n = q + 1 := ⟨_, rfl⟩
  rw [show (1 : Int) + (q : Int) = ((n : Nat) : Int) by omega]
  have hni : (n : Int) ≤ 40 := by omega
  have hn0 : 0 < (n : Int) := by omega
  have HN2 := Lib.hid (show 0 < n ∧ n ≤ 40 by have := HN.out; omega)
  clear hn hqi HN
  refine (within_any i0 n w1 HI.out.1.1 HI.out.1.2 (by have := HN2.out; omega) (by have := HN2.out; omega)).mono ?_
  rintro e w2 ⟨rfl, rfl⟩
  obtain ⟨i, hi⟩ : ∃ x : Nat, (x : Int) = i0 % (n : Int) := ⟨(i0 % (n : Int)).toNat, by have := Int.emod_nonneg i0 (show (n : Int) ≠ 0 by omega); omega⟩
  have hin : i < n := by have := Int.emod_lt_of_pos i0 hn0; omega
  rw [← hi]
  clear hi
  go_wp2_with fail
  refine (within_any j0 n w1 HI.out.2.1.1 HI.out.2.1.2 (by have := HN2.out; omega) (by have := HN2.out; omega)).mono ?_
  rintro e w2 ⟨rfl, rfl⟩
  obtain ⟨j, hj⟩ : ∃ x : Nat, (x : Int) = j0 % (n : Int) := ⟨(j0 % (n : Int)).toNat, by have := Int.emod_nonneg j0 (show (n : Int) ≠ 0 by omega); omega⟩
  have hjn : j < n := by have := Int.emod_lt_of_pos j0 hn0; omega
  rw [← hj]
  have HIJ := Lib.hid (And.intro hin hjn)
  clear hj hin hjn
  go_wp2_with fail
  refine (Hashes_any n (by have := HN2.out; omega) w1).mono ?_
  rintro e w2 ⟨A3, c3, rfl, m3⟩
  have M3 := Lib.hid m3
  clear m3
  go_wp2_with fail
  refine (Root_any n (hashesL n) n (hashesL_len n) (Nat.le_refl _) (by have := HN2.out; omega) A3 c3 w2.heap.size w2 M3.out.hs (Nat.le_refl _)).mono ?_
  rintro e w3 ⟨rfl, t3⟩
  have hrl := mroot_len (hashesL n) (hashesL_all n)
  obtain ⟨r, hr⟩ : ∃ r, r = mroot (hashesL n) := ⟨_, rfl⟩
  rw [← hr] at hrl ⊢
  have b4 := Blk.new w3 zz 27
  have ta : Turns [] w3 (w3.alloc (.cells zz.toArray 27)) := (Turns.refl _ _).alloc _
  have HB := Lib.hid (And.intro b4 (And.intro ta (And.intro t3 (And.intro hr hrl))))
  have hsr := Lib.hid (show (Try.prog.info? 27).map (·.size) = some (bvs r).length by rw [size_hash, bvs_length, hrl])
  have hlr := Lib.hid (show zz.length = (bvs r).length by rw [HZL.out, bvs_length, hrl])
  clear b4 ta t3 hr hrl
  go_upto_region 7 with (first
    | (refine wpList_alloc_arr rfl 27 rfl zz.toArray hz32 ?_)
    | (refine wpList_store_blk rfl 27 (.tmp 10) (.tmp 28) rfl w3.heap.size (by kernel_rfl) (bvs r) zz 27 (by kernel_rfl) HB.out.1 hlr.out hsr.out (bvs_one _) (fun y1 hb1 ht1 hs1 => ?_); have HQ := Lib.hid (And.intro hb1 ht1); clear hb1 ht1 hs1)
    | fail)
  try simp only [Act.put, List.setIfInBounds_toArray, List.set_cons_succ, List.set_cons_zero]
  obtain ⟨p4, hp4⟩ : ∃ x, x = w3.heap.size := ⟨_, rfl⟩
  rw [← hp4] at HQ ⊢
  have ty : Turns [] w2 y1 := (HB.out.2.2.1.trans HB.out.2.1 (by simp)).trans HQ.out.2 (by intro x hx; simp at hx; subst hx; rw [hp4]; exact .inr HB.out.2.2.1.size)
  have hsl3 := M3.out.hs.turns ty (Nat.le_refl _) (by simp)
  have PR := Proof_in (hashesL n) n i (hashesL_len n) (by have := HN2.out; omega) HIJ.out.1 A3 c3 w2.heap.size y1 hsl3 ty.size
  have hpl := mproof_len (hashesL n).length (hashesL n) i (Nat.le_refl _) (by rw [hashesL_len]; exact HIJ.out.1)
  have hck := mcheck_proof (hashesL n) i (by rw [hashesL_len]; exact HIJ.out.1)
  have hp20 := mproof_le (hashesL n) i (by rw [hashesL_len]; exact HIJ.out.1) (by rw [hashesL_len]; have := HN2.out; omega)
  rw [hashesL_len] at hpl
  have hil : i < (hashesL n).length := by rw [hashesL_len]; exact HIJ.out.1
  have hjl : j < (hashesL n).length := by rw [hashesL_len]; exact HIJ.out.2
  have h0l : 0 < (hashesL n).length := by rw [hashesL_len]; exact HN2.out.1
  have hall := hashesL_all n
  obtain ⟨b0, off, rfl, hb0, rx⟩ := hsl3.at_ (i := i) hil
  obtain ⟨b0', off', e0, _, ry⟩ := hsl3.at_ (i := j) hjl
  injection e0 with e0
  injection e0 with e1 e2 _
  subst e1 e2
  obtain ⟨b0', off', e0, _, rz⟩ := hsl3.at_ (i := 0) h0l
  injection e0 with e0
  injection e0 with e1 e2 _
  subst e1 e2
  obtain ⟨x, hx⟩ : ∃ x, x = (hashesL n)[i] := ⟨_, rfl⟩
  have hx32 : x.length = 32 := by rw [hx]; exact hall _ (List.getElem_mem hil)
  obtain ⟨y, hy⟩ : ∃ x, x = (hashesL n)[j] := ⟨_, rfl⟩
  have hy32 : y.length = 32 := by rw [hy]; exact hall _ (List.getElem_mem hjl)
  obtain ⟨z, hz⟩ : ∃ x, x = (hashesL n)[0] := ⟨_, rfl⟩
  have hz32' : z.length = 32 := by rw [hz]; exact hall _ (List.getElem_mem h0l)
  rw [← HB.out.2.2.2.1, ← hx, hashesL_len] at hck
  rw [← hx] at rx
  rw [← hy] at ry
  rw [← hz, Nat.zero_mul, Nat.add_zero] at rz
  obtain ⟨P, hP⟩ : ∃ P, P = mproof (hashesL n) i := ⟨_, rfl⟩
  rw [← hP] at PR hpl hck hp20
  obtain ⟨m, hm⟩ : ∃ m, m = P.length := ⟨_, rfl⟩
  rw [← hm] at PR hpl hp20
  have hPR := Lib.hid PR
  have hckT : mcheckZ r x (i : Int) (n : Int) P = true := by
    unfold mcheckZ
    rw [if_pos (by have := HIJ.out; have := HN2.out; omega)]
    exact hck
  have HCT := Lib.hid hckT
  have HCF := Lib.hid (mcheckZ_far r x (n : Int) (n : Int) P (by omega))
  have HCM := Lib.hid (mcheckZ_far r x (-1) (n : Int) P (by omega))
  have HCL := Lib.hid (mcheckZ_len r x i n (P ++ [z]) (by rw [← hpl, List.length_append, ← hm]; simp))
  have HCS := Lib.hid (show 0 < m → mcheckZ r x (i : Int) (n : Int) (P.take (m - 1)) = false from fun h0 => mcheckZ_len r x i n (P.take (m - 1)) (by rw [← hpl, List.length_take, ← hm]; omega))
  have HPM := Lib.hid (And.intro hm.symm hp20)
  have HX := Lib.hid (And.intro HB.out.2.2.2.2 (And.intro hx32 (And.intro hy32 hz32')))
  have HY0 := Lib.hid (And.intro HQ.out.1 (And.intro ty (And.intro rx (And.intro ry rz))))
  have hsx := Lib.hid (show (Try.prog.info? 27).map (·.size) = some (bvs x).length by rw [size_hash, bvs_length, hx32])
  have hsy := Lib.hid (show (Try.prog.info? 27).map (·.size) = some (bvs y).length by rw [size_hash, bvs_length, hy32])
  have hsz := Lib.hid (show (Try.prog.info? 27).map (·.size) = some (bvs z).length by rw [size_hash, bvs_length, hz32'])
  have hnN : 0 < n := HN2.out.1
  have zi : (i : Int) < (n : Int) := by have := HIJ.out; omega
  have zj : (j : Int) < (n : Int) := by have := HIJ.out; omega
  clear ty HQ HB hp4 hsl3 PR hpl hck hp20 hil hjl h0l hall rx ry rz hx hx32 hy hy32 hz hz32' hP hm hckT hb0 hlr
  go_wp2_with fail
  refine hPR.out.mono ?_
  rintro e w5 ⟨A5, c5, rfl, m5⟩
  have T5 := Lib.hid (show Turns [] w2 w5 from HY0.out.2.1.trans m5.turns (by simp))
  have rr := (HY0.out.1.turns m5.turns (by simp)).range 0 32
  rw [List.drop_zero, List.take_of_length_le (by rw [bvs_length, HX.out.1]; omega)] at rr
  obtain ⟨Y, hY⟩ : ∃ q, q = w5.drew := ⟨_, rfl⟩
  have tYd : Turns [] w5 Y := by rw [hY]; exact (Turns.refl _ _).drew
  have mY := m5.on tYd
  have hpsY := mY.hs
  have pY := mY.own
  have HY := Lib.hid hY
  have S0 : Turns [] Y Y := Turns.refl _ _
  have HF := Lib.hid (And.intro (rangeT tYd rr (by simp)) (And.intro (rangeT (m5.turns.trans tYd (by simp)) HY0.out.2.2.1 (by simp)) (And.intro (rangeT (m5.turns.trans tYd (by simp)) HY0.out.2.2.2.1 (by simp)) (And.intro (rangeT (m5.turns.trans tYd (by simp)) HY0.out.2.2.2.2 (by simp)) (And.intro (T5.out.trans tYd (by simp)) mY)))))
  clear rr m5 hPR HY0 T5 hY tYd mY hpsY pY
  go_upto_region 8 with fail
  go_cut [87] (fun u wx => u = .bool false ∧ Turns [] Y wx)
  case first =>
    refine reg_begin (fun W => Turns [] Y W) (fun _ => True) 53 53 #[false, false, false, false, false, false, false, false, false, false, false, false, false, false, false, false, false, false, false, false, false, false, false, false, false, false, false, false, false, false, false, false, false, false, false, false, false, false, false, false, false, false, false, false, false, false, false, false, false, false, false, false, false] (by kernel_rfl) (by kernel_rfl) (by kernel_rfl) ?_
    rw [← HY.out]
    refine reg_take 0 35 52 #[true, false, false, false, false, false, false, false, false, false, false, false, false, false, false, false, false, false, false, false, false, false, false, false, false, false, false, false, false, false, false, false, false, false, false, false, false, false, false, false, false, false, false, false, false, false, false, false, false, false, false, false, false] (by rfl) (v := ?_) rfl rfl (by kernel_rfl) (by kernel_rfl) (by kernel_rfl) (by kernel_rfl) (fun _ _ _ h => h) (by rfl) ?_ (Till.mk' S0 trivial) ?_
    rotate_left
    · intro W hS; go_simp; all_goals with_reducible rfl
    try simp only [List.setIfInBounds_toArray, List.set_cons_succ, List.set_cons_zero]
    refine reg_take 1 36 51 #[true, true, false, false, false, false, false, false, false, false, false, false, false, false, false, false, false, false, false, false, false, false, false, false, false, false, false, false, false, false, false, false, false, false, false, false, false, false, false, false, false, false, false, false, false, false, false, false, false, false, false, false, false] (by rfl) (v := ?_) rfl rfl (by kernel_rfl) (by kernel_rfl) (by kernel_rfl) (by kernel_rfl) (fun _ _ _ h => h) (by rfl) ?_ (Till.mk' S0 trivial) ?_
    rotate_left
    · intro W hS; go_simp; all_goals with_reducible rfl
    try simp only [List.setIfInBounds_toArray, List.set_cons_succ, List.set_cons_zero]
    refine reg_take 2 37 50 #[true, true, true, false, false, false, false, false, false, false, false, false, false, false, false, false, false, false, false, false, false, false, false, false, false, false, false, false, false, false, false, false, false, false, false, false, false, false, false, false, false, false, false, false, false, false, false, false, false, false, false, false, false] (by rfl) (v := ?_) rfl rfl (by kernel_rfl) (by kernel_rfl) (by kernel_rfl) (by kernel_rfl) (fun _ _ _ h => h) (by rfl) ?_ (Till.mk' S0 trivial) ?_
    rotate_left
    · intro W hS; go_simp; all_goals with_reducible rfl
    try simp only [List.setIfInBounds_toArray, List.set_cons_succ, List.set_cons_zero]
    refine reg_take_y 3 38 49 #[true, true, true, true, false, false, false, false, false, false, false, false, false, false, false, false, false, false, false, false, false, false, false, false, false, false, false, false, false, false, false, false, false, false, false, false, false, false, false, false, false, false, false, false, false, false, false, false, false, false, false, false, false] (by rfl) rfl rfl (by kernel_rfl) (by kernel_rfl) (by kernel_rfl) (by kernel_rfl) (fun _ _ _ h => h) (yieldsIf_load_mid (by rfl) _ _ rfl p4 0 (by rfl) (bvs r) _ (fun W hS => rangeT hS HF.out.1 (by simp)) Try.underlying27 rfl hsr.out) (Till.mk' S0 trivial) ?_
    try simp only [List.setIfInBounds_toArray, List.set_cons_succ, List.set_cons_zero]
    refine reg_take 4 39 48 #[true, true, true, true, true, false, false, false, false, false, false, false, false, false, false, false, false, false, false, false, false, false, false, false, false, false, false, false, false, false, false, false, false, false, false, false, false, false, false, false, false, false, false, false, false, false, false, false, false, false, false, false, false] (by rfl) (v := ?_) rfl rfl (by kernel_rfl) (by kernel_rfl) (by kernel_rfl) (by kernel_rfl) (fun _ _ _ h => h) (by rfl) ?_ (Till.mk' S0 trivial) ?_
    rotate_left
    · intro W hS; go_simp; all_goals with_reducible rfl
    try simp only [List.setIfInBounds_toArray, List.set_cons_succ, List.set_cons_zero]
    refine reg_take 5 40 47 #[true, true, true, true, true, true, false, false, false, false, false, false, false, false, false, false, false, false, false, false, false, false, false, false, false, false, false, false, false, false, false, false, false, false, false, false, false, false, false, false, false, false, false, false, false, false, false, false, false, false, false, false, false] (by rfl) (v := ?_) rfl rfl (by kernel_rfl) (by kernel_rfl) (by kernel_rfl) (by kernel_rfl) (fun _ _ _ h => h) (by rfl) ?_ (Till.mk' S0 trivial) ?_
    rotate_left
    · intro W hS; go_simp; all_goals with_reducible rfl
    try simp only [List.setIfInBounds_toArray, List.set_cons_succ, List.set_cons_zero]
    refine reg_take 6 41 46 #[true, true, true, true, true, true, true, false, false, false, false, false, false, false, false, false, false, false, false, false, false, false, false, false, false, false, false, false, false, false, false, false, false, false, false, false, false, false, false, false, false, false, false, false, false, false, false, false, false, false, false, false, false] (by rfl) (v := ?_) rfl rfl (by kernel_rfl) (by kernel_rfl) (by kernel_rfl) (by kernel_rfl) (fun _ _ _ h => h) (by rfl) ?_ (Till.mk' S0 trivial) ?_
    rotate_left
    · intro W hS; go_simp; all_goals with_reducible rfl
    try simp only [List.setIfInBounds_toArray, List.set_cons_succ, List.set_cons_zero]
    refine reg_take_y 7 42 45 #[true, true, true, true, true, true, true, true, false, false, false, false, false, false, false, false, false, false, false, false, false, false, false, false, false, false, false, false, false, false, false, false, false, false, false, false, false, false, false, false, false, false, false, false, false, false, false, false, false, false, false, false, false] (by rfl) rfl rfl (by kernel_rfl) (by kernel_rfl) (by kernel_rfl) (by kernel_rfl) (fun _ _ _ h => h) (yieldsIf_load_mid (by rfl) _ _ rfl b0 (off + i * 32) (by rfl) (bvs x) _ (fun W hS => rangeT hS HF.out.2.1 (by simp)) Try.underlying27 rfl hsx.out) (Till.mk' S0 trivial) ?_
    try simp only [List.setIfInBounds_toArray, List.set_cons_succ, List.set_cons_zero]
    refine reg_take 8 43 44 #[true, true, true, true, true, true, true, true, true, false, false, false, false, false, false, false, false, false, false, false, false, false, false, false, false, false, false, false, false, false, false, false, false, false, false, false, false, false, false, false, false, false, false, false, false, false, false, false, false, false, false, false, false] (by rfl) (v := ?_) rfl rfl (by kernel_rfl) (by kernel_rfl) (by kernel_rfl) (by kernel_rfl) (fun _ _ _ h => h) (by rfl) ?_ (Till.mk' S0 trivial) ?_
    rotate_left
    · intro W hS; go_simp; all_goals with_reducible rfl
    try simp only [List.setIfInBounds_toArray, List.set_cons_succ, List.set_cons_zero]
    refine reg_take 9 44 43 #[true, true, true, true, true, true, true, true, true, true, false, false, false, false, false, false, false, false, false, false, false, false, false, false, false, false, false, false, false, false, false, false, false, false, false, false, false, false, false, false, false, false, false, false, false, false, false, false, false, false, false, false, false] (by rfl) (v := ?_) rfl rfl (by kernel_rfl) (by kernel_rfl) (by kernel_rfl) (by kernel_rfl) (fun _ _ _ h => h) (by rfl) ?_ (Till.mk' S0 trivial) ?_
    rotate_left
    · intro W hS; go_simp; all_goals with_reducible rfl
    try simp only [List.setIfInBounds_toArray, List.set_cons_succ, List.set_cons_zero]
    refine reg_take 10 45 42 #[true, true, true, true, true, true, true, true, true, true, true, false, false, false, false, false, false, false, false, false, false, false, false, false, false, false, false, false, false, false, false, false, false, false, false, false, false, false, false, false, false, false, false, false, false, false, false, false, false, false, false, false, false] (by rfl) (v := ?_) rfl rfl (by kernel_rfl) (by kernel_rfl) (by kernel_rfl) (by kernel_rfl) (fun _ _ _ h => h) (by rfl) ?_ (Till.mk' S0 trivial) ?_
    rotate_left
    · intro W hS; go_simp; all_goals with_reducible rfl
    try simp only [List.setIfInBounds_toArray, List.set_cons_succ, List.set_cons_zero]
    refine reg_one 11 41 #[true, true, true, true, true, true, true, true, true, true, true, true, false, false, false, false, false, false, false, false, false, false, false, false, false, false, false, false, false, false, false, false, false, false, false, false, false, false, false, false, false, false, false, false, false, false, false, false, false, false, false, false, false] (by kernel_rfl) rfl (by rfl) (by kernel_rfl) (fun K hK => ?_)
    go_simp
    refine (Check_any r x HX.out.1 HX.out.2.1 i n P m HPM.out.1 (by have := HPM.out; omega) A5 c5 Y.heap.size Y (HF.out.2.2.2.2.2.hs.turns S0 (Nat.le_refl _) (by simp)) S0.size).mono ?_
    rintro e X11 ⟨rfl, D11⟩
    rw [HCT.out]
    refine hK _ _ (Till.mk' (S0.trans D11 (by simp)) trivial) ?_
    clear hK K
    try simp only [List.setIfInBounds_toArray, List.set_cons_succ, List.set_cons_zero]
    refine reg_take 12 47 40 #[true, true, true, true, true, true, true, true, true, true, true, true, true, false, false, false, false, false, false, false, false, false, false, false, false, false, false, false, false, false, false, false, false, false, false, false, false, false, false, false, false, false, false, false, false, false, false, false, false, false, false, false, false] (by rfl) (v := ?_) rfl rfl (by kernel_rfl) (by kernel_rfl) (by kernel_rfl) (by kernel_rfl) (fun _ _ _ h => h) (by rfl) ?_ (Till.mk' (S0.trans D11 (by simp)) trivial) ?_
    rotate_left
    · intro W hS; go_simp; all_goals with_reducible rfl
    try simp only [List.setIfInBounds_toArray, List.set_cons_succ, List.set_cons_zero]
    refine reg_take 13 48 39 #[true, true, true, true, true, true, true, true, true, true, true, true, true, true, false, false, false, false, false, false, false, false, false, false, false, false, false, false, false, false, false, false, false, false, false, false, false, false, false, false, false, false, false, false, false, false, false, false, false, false, false, false, false] (by rfl) (v := ?_) rfl rfl (by kernel_rfl) (by kernel_rfl) (by kernel_rfl) (by kernel_rfl) (fun _ _ _ h => h) (by rfl) ?_ (Till.mk' (S0.trans D11 (by simp)) trivial) ?_
    rotate_left
    · intro W hS; go_simp; all_goals with_reducible rfl
    try simp only [List.setIfInBounds_toArray, List.set_cons_succ, List.set_cons_zero]
    refine reg_take 14 49 38 #[true, true, true, true, true, true, true, true, true, true, true, true, true, true, true, false, false, false, false, false, false, false, false, false, false, false, false, false, false, false, false, false, false, false, false, false, false, false, false, false, false, false, false, false, false, false, false, false, false, false, false, false, false] (by rfl) (v := ?_) rfl rfl (by kernel_rfl) (by kernel_rfl) (by kernel_rfl) (by kernel_rfl) (fun _ _ _ h => h) (by rfl) ?_ (Till.mk' (S0.trans D11 (by simp)) trivial) ?_
    rotate_left
    · intro W hS; go_simp; all_goals with_reducible rfl
    try simp only [List.setIfInBounds_toArray, List.set_cons_succ, List.set_cons_zero]
    refine reg_take_y 15 50 37 #[true, true, true, true, true, true, true, true, true, true, true, true, true, true, true, true, false, false, false, false, false, false, false, false, false, false, false, false, false, false, false, false, false, false, false, false, false, false, false, false, false, false, false, false, false, false, false, false, false, false, false, false, false] (by rfl) rfl rfl (by kernel_rfl) (by kernel_rfl) (by kernel_rfl) (by kernel_rfl) (fun _ _ _ h => h) (yieldsIf_load_mid (by rfl) _ _ rfl p4 0 (by rfl) (bvs r) _ (fun W hS => rangeT hS HF.out.1 (by simp)) Try.underlying27 rfl hsr.out) (Till.mk' (S0.trans D11 (by simp)) trivial) ?_
    try simp only [List.setIfInBounds_toArray, List.set_cons_succ, List.set_cons_zero]
    refine reg_take 16 51 36 #[true, true, true, true, true, true, true, true, true, true, true, true, true, true, true, true, true, false, false, false, false, false, false, false, false, false, false, false, false, false, false, false, false, false, false, false, false, false, false, false, false, false, false, false, false, false, false, false, false, false, false, false, false] (by rfl) (v := ?_) rfl rfl (by kernel_rfl) (by kernel_rfl) (by kernel_rfl) (by kernel_rfl) (fun _ _ _ h => h) (by rfl) ?_ (Till.mk' (S0.trans D11 (by simp)) trivial) ?_
    rotate_left
    · intro W hS; go_simp; all_goals with_reducible rfl
    try simp only [List.setIfInBounds_toArray, List.set_cons_succ, List.set_cons_zero]
    refine reg_take 17 52 35 #[true, true, true, true, true, true, true, true, true, true, true, true, true, true, true, true, true, true, false, false, false, false, false, false, false, false, false, false, false, false, false, false, false, false, false, false, false, false, false, false, false, false, false, false, false, false, false, false, false, false, false, false, false] (by rfl) (v := ?_) rfl rfl (by kernel_rfl) (by kernel_rfl) (by kernel_rfl) (by kernel_rfl) (fun _ _ _ h => h) (by rfl) ?_ (Till.mk' (S0.trans D11 (by simp)) trivial) ?_
    rotate_left
    · intro W hS; go_simp; all_goals with_reducible rfl
    try simp only [List.setIfInBounds_toArray, List.set_cons_succ, List.set_cons_zero]
    refine reg_take 18 53 34 #[true, true, true, true, true, true, true, true, true, true, true, true, true, true, true, true, true, true, true, false, false, false, false, false, false, false, false, false, false, false, false, false, false, false, false, false, false, false, false, false, false, false, false, false, false, false, false, false, false, false, false, false, false] (by rfl) (v := ?_) rfl rfl (by kernel_rfl) (by kernel_rfl) (by kernel_rfl) (by kernel_rfl) (fun _ _ _ h => h) (by rfl) ?_ (Till.mk' (S0.trans D11 (by simp)) trivial) ?_
    rotate_left
    · intro W hS; go_simp; all_goals with_reducible rfl
    try simp only [List.setIfInBounds_toArray, List.set_cons_succ, List.set_cons_zero]
    refine reg_take_y 19 54 33 #[true, true, true, true, true, true, true, true, true, true, true, true, true, true, true, true, true, true, true, true, false, false, false, false, false, false, false, false, false, false, false, false, false, false, false, false, false, false, false, false, false, false, false, false, false, false, false, false, false, false, false, false, false] (by rfl) rfl rfl (by kernel_rfl) (by kernel_rfl) (by kernel_rfl) (by kernel_rfl) (fun _ _ _ h => h) (yieldsIf_load_mid (by rfl) _ _ rfl b0 (off + i * 32) (by rfl) (bvs x) _ (fun W hS => rangeT hS HF.out.2.1 (by simp)) Try.underlying27 rfl hsx.out) (Till.mk' (S0.trans D11 (by simp)) trivial) ?_
    try simp only [List.setIfInBounds_toArray, List.set_cons_succ, List.set_cons_zero]
    refine reg_take 20 55 32 #[true, true, true, true, true, true, true, true, true, true, true, true, true, true, true, true, true, true, true, true, true, false, false, false, false, false, false, false, false, false, false, false, false, false, false, false, false, false, false, false, false, false, false, false, false, false, false, false, false, false, false, false, false] (by rfl) (v := ?_) rfl rfl (by kernel_rfl) (by kernel_rfl) (by kernel_rfl) (by kernel_rfl) (fun _ _ _ h => h) (by rfl) ?_ (Till.mk' (S0.trans D11 (by simp)) trivial) ?_
    rotate_left
    · intro W hS; go_simp; all_goals with_reducible rfl
    try simp only [List.setIfInBounds_toArray, List.set_cons_succ, List.set_cons_zero]
    refine reg_take 21 56 31 #[true, true, true, true, true, true, true, true, true, true, true, true, true, true, true, true, true, true, true, true, true, true, false, false, false, false, false, false, false, false, false, false, false, false, false, false, false, false, false, false, false, false, false, false, false, false, false, false, false, false, false, false, false] (by rfl) (v := ?_) rfl rfl (by kernel_rfl) (by kernel_rfl) (by kernel_rfl) (by kernel_rfl) (fun _ _ _ h => h) (by rfl) ?_ (Till.mk' (S0.trans D11 (by simp)) trivial) ?_
    rotate_left
    · intro W hS; go_simp; all_goals with_reducible rfl
    try simp only [List.setIfInBounds_toArray, List.set_cons_succ, List.set_cons_zero]
    refine reg_take 22 57 30 #[true, true, true, true, true, true, true, true, true, true, true, true, true, true, true, true, true, true, true, true, true, true, true, false, false, false, false, false, false, false, false, false, false, false, false, false, false, false, false, false, false, false, false, false, false, false, false, false, false, false, false, false, false] (by rfl) (v := ?_) rfl rfl (by kernel_rfl) (by kernel_rfl) (by kernel_rfl) (by kernel_rfl) (fun _ _ _ h => h) (by rfl) ?_ (Till.mk' (S0.trans D11 (by simp)) trivial) ?_
    rotate_left
    · intro W hS; go_simp; all_goals with_reducible rfl
    try simp only [List.setIfInBounds_toArray, List.set_cons_succ, List.set_cons_zero]
    refine reg_one 23 29 #[true, true, true, true, true, true, true, true, true, true, true, true, true, true, true, true, true, true, true, true, true, true, true, true, false, false, false, false, false, false, false, false, false, false, false, false, false, false, false, false, false, false, false, false, false, false, false, false, false, false, false, false, false] (by kernel_rfl) rfl (by rfl) (by kernel_rfl) (fun K hK => ?_)
    go_simp
    refine (Check_any r x HX.out.1 HX.out.2.1 n n P m HPM.out.1 (by have := HPM.out; omega) A5 c5 Y.heap.size X11 (HF.out.2.2.2.2.2.hs.turns (S0.trans D11 (by simp)) (Nat.le_refl _) (by simp)) (S0.trans D11 (by simp)).size).mono ?_
    rintro e X23 ⟨rfl, D23⟩
    rw [HCF.out]
    refine hK _ _ (Till.mk' ((S0.trans D11 (by simp)).trans D23 (by simp)) trivial) ?_
    clear hK K
    try simp only [List.setIfInBounds_toArray, List.set_cons_succ, List.set_cons_zero]
    refine reg_take 24 59 28 #[true, true, true, true, true, true, true, true, true, true, true, true, true, true, true, true, true, true, true, true, true, true, true, true, true, false, false, false, false, false, false, false, false, false, false, false, false, false, false, false, false, false, false, false, false, false, false, false, false, false, false, false, false] (by rfl) (v := ?_) rfl rfl (by kernel_rfl) (by kernel_rfl) (by kernel_rfl) (by kernel_rfl) (fun _ _ _ h => h) (by rfl) ?_ (Till.mk' ((S0.trans D11 (by simp)).trans D23 (by simp)) trivial) ?_
    rotate_left
    · intro W hS; go_simp; all_goals with_reducible rfl
    try simp only [List.setIfInBounds_toArray, List.set_cons_succ, List.set_cons_zero]
    refine reg_take 25 60 27 #[true, true, true, true, true, true, true, true, true, true, true, true, true, true, true, true, true, true, true, true, true, true, true, true, true, true, false, false, false, false, false, false, false, false, false, false, false, false, false, false, false, false, false, false, false, false, false, false, false, false, false, false, false] (by rfl) (v := ?_) rfl rfl (by kernel_rfl) (by kernel_rfl) (by kernel_rfl) (by kernel_rfl) (fun _ _ _ h => h) (by rfl) ?_ (Till.mk' ((S0.trans D11 (by simp)).trans D23 (by simp)) trivial) ?_
    rotate_left
    · intro W hS; go_simp; all_goals with_reducible rfl
    try simp only [List.setIfInBounds_toArray, List.set_cons_succ, List.set_cons_zero]
    refine reg_take_y 26 61 26 #[true, true, true, true, true, true, true, true, true, true, true, true, true, true, true, true, true, true, true, true, true, true, true, true, true, true, true, false, false, false, false, false, false, false, false, false, false, false, false, false, false, false, false, false, false, false, false, false, false, false, false, false, false] (by rfl) rfl rfl (by kernel_rfl) (by kernel_rfl) (by kernel_rfl) (by kernel_rfl) (fun _ _ _ h => h) (yieldsIf_load_mid (by rfl) _ _ rfl p4 0 (by rfl) (bvs r) _ (fun W hS => rangeT hS HF.out.1 (by simp)) Try.underlying27 rfl hsr.out) (Till.mk' ((S0.trans D11 (by simp)).trans D23 (by simp)) trivial) ?_
    try simp only [List.setIfInBounds_toArray, List.set_cons_succ, List.set_cons_zero]
    refine reg_take 27 62 25 #[true, true, true, true, true, true, true, true, true, true, true, true, true, true, true, true, true, true, true, true, true, true, true, true, true, true, true, true, false, false, false, false, false, false, false, false, false, false, false, false, false, false, false, false, false, false, false, false, false, false, false, false, false] (by rfl) (v := ?_) rfl rfl (by kernel_rfl) (by kernel_rfl) (by kernel_rfl) (by kernel_rfl) (fun _ _ _ h => h) (by rfl) ?_ (Till.mk' ((S0.trans D11 (by simp)).trans D23 (by simp)) trivial) ?_
    rotate_left
    · intro W hS; go_simp; all_goals with_reducible rfl
    try simp only [List.setIfInBounds_toArray, List.set_cons_succ, List.set_cons_zero]
    refine reg_take 28 63 24 #[true, true, true, true, true, true, true, true, true, true, true, true, true, true, true, true, true, true, true, true, true, true, true, true, true, true, true, true, true, false, false, false, false, false, false, false, false, false, false, false, false, false, false, false, false, false, false, false, false, false, false, false, false] (by rfl) (v := ?_) rfl rfl (by kernel_rfl) (by kernel_rfl) (by kernel_rfl) (by kernel_rfl) (fun _ _ _ h => h) (by rfl) ?_ (Till.mk' ((S0.trans D11 (by simp)).trans D23 (by simp)) trivial) ?_
    rotate_left
    · intro W hS; go_simp; all_goals with_reducible rfl
    try simp only [List.setIfInBounds_toArray, List.set_cons_succ, List.set_cons_zero]
    refine reg_take 29 64 23 #[true, true, true, true, true, true, true, true, true, true, true, true, true, true, true, true, true, true, true, true, true, true, true, true, true, true, true, true, true, true, false, false, false, false, false, false, false, false, false, false, false, false, false, false, false, false, false, false, false, false, false, false, false] (by rfl) (v := ?_) rfl rfl (by kernel_rfl) (by kernel_rfl) (by kernel_rfl) (by kernel_rfl) (fun _ _ _ h => h) (by rfl) ?_ (Till.mk' ((S0.trans D11 (by simp)).trans D23 (by simp)) trivial) ?_
    rotate_left
    · intro W hS; go_simp; all_goals with_reducible rfl
    try simp only [List.setIfInBounds_toArray, List.set_cons_succ, List.set_cons_zero]
    refine reg_take_y 30 65 22 #[true, true, true, true, true, true, true, true, true, true, true, true, true, true, true, true, true, true, true, true, true, true, true, true, true, true, true, true, true, true, true, false, false, false, false, false, false, false, false, false, false, false, false, false, false, false, false, false, false, false, false, false, false] (by rfl) rfl rfl (by kernel_rfl) (by kernel_rfl) (by kernel_rfl) (by kernel_rfl) (fun _ _ _ h => h) (yieldsIf_load_mid (by rfl) _ _ rfl b0 (off + i * 32) (by rfl) (bvs x) _ (fun W hS => rangeT hS HF.out.2.1 (by simp)) Try.underlying27 rfl hsx.out) (Till.mk' ((S0.trans D11 (by simp)).trans D23 (by simp)) trivial) ?_
    try simp only [List.setIfInBounds_toArray, List.set_cons_succ, List.set_cons_zero]
    refine reg_take 31 66 21 #[true, true, true, true, true, true, true, true, true, true, true, true, true, true, true, true, true, true, true, true, true, true, true, true, true, true, true, true, true, true, true, true, false, false, false, false, false, false, false, false, false, false, false, false, false, false, false, false, false, false, false, false, false] (by rfl) (v := ?_) rfl rfl (by kernel_rfl) (by kernel_rfl) (by kernel_rfl) (by kernel_rfl) (fun _ _ _ h => h) (by rfl) ?_ (Till.mk' ((S0.trans D11 (by simp)).trans D23 (by simp)) trivial) ?_
    rotate_left
    · intro W hS; go_simp; all_goals with_reducible rfl
    try simp only [List.setIfInBounds_toArray, List.set_cons_succ, List.set_cons_zero]
    refine reg_take 32 67 20 #[true, true, true, true, true, true, true, true, true, true, true, true, true, true, true, true, true, true, true, true, true, true, true, true, true, true, true, true, true, true, true, true, true, false, false, false, false, false, false, false, false, false, false, false, false, false, false, false, false, false, false, false, false] (by rfl) (v := ?_) rfl rfl (by kernel_rfl) (by kernel_rfl) (by kernel_rfl) (by kernel_rfl) (fun _ _ _ h => h) (by rfl) ?_ (Till.mk' ((S0.trans D11 (by simp)).trans D23 (by simp)) trivial) ?_
    rotate_left
    · intro W hS; go_simp; all_goals with_reducible rfl
    try simp only [List.setIfInBounds_toArray, List.set_cons_succ, List.set_cons_zero]
    refine reg_one 33 19 #[true, true, true, true, true, true, true, true, true, true, true, true, true, true, true, true, true, true, true, true, true, true, true, true, true, true, true, true, true, true, true, true, true, true, false, false, false, false, false, false, false, false, false, false, false, false, false, false, false, false, false, false, false] (by kernel_rfl) rfl (by rfl) (by kernel_rfl) (fun K hK => ?_)
    go_simp
    refine (Check_any r x HX.out.1 HX.out.2.1 (-1) n P m HPM.out.1 (by have := HPM.out; omega) A5 c5 Y.heap.size X23 (HF.out.2.2.2.2.2.hs.turns ((S0.trans D11 (by simp)).trans D23 (by simp)) (Nat.le_refl _) (by simp)) ((S0.trans D11 (by simp)).trans D23 (by simp)).size).mono ?_
    rintro e X33 ⟨rfl, D33⟩
    rw [HCM.out]
    refine hK _ _ (Till.mk' (((S0.trans D11 (by simp)).trans D23 (by simp)).trans D33 (by simp)) trivial) ?_
    clear hK K
    try simp only [List.setIfInBounds_toArray, List.set_cons_succ, List.set_cons_zero]
    refine reg_take 34 69 18 #[true, true, true, true, true, true, true, true, true, true, true, true, true, true, true, true, true, true, true, true, true, true, true, true, true, true, true, true, true, true, true, true, true, true, true, false, false, false, false, false, false, false, false, false, false, false, false, false, false, false, false, false, false] (by rfl) (v := ?_) rfl rfl (by kernel_rfl) (by kernel_rfl) (by kernel_rfl) (by kernel_rfl) (fun _ _ _ h => h) (by rfl) ?_ (Till.mk' (((S0.trans D11 (by simp)).trans D23 (by simp)).trans D33 (by simp)) trivial) ?_
    rotate_left
    · intro W hS; go_simp; all_goals with_reducible rfl
    try simp only [List.setIfInBounds_toArray, List.set_cons_succ, List.set_cons_zero]
    refine reg_take 35 70 17 #[true, true, true, true, true, true, true, true, true, true, true, true, true, true, true, true, true, true, true, true, true, true, true, true, true, true, true, true, true, true, true, true, true, true, true, true, false, false, false, false, false, false, false, false, false, false, false, false, false, false, false, false, false] (by rfl) (v := ?_) rfl rfl (by kernel_rfl) (by kernel_rfl) (by kernel_rfl) (by kernel_rfl) (fun _ _ _ h => h) (by rfl) ?_ (Till.mk' (((S0.trans D11 (by simp)).trans D23 (by simp)).trans D33 (by simp)) trivial) ?_
    rotate_left
    · intro W hS; go_simp; all_goals with_reducible rfl
    try simp only [List.setIfInBounds_toArray, List.set_cons_succ, List.set_cons_zero]
    refine reg_take_y 36 71 16 #[true, true, true, true, true, true, true, true, true, true, true, true, true, true, true, true, true, true, true, true, true, true, true, true, true, true, true, true, true, true, true, true, true, true, true, true, true, false, false, false, false, false, false, false, false, false, false, false, false, false, false, false, false] (by rfl) rfl rfl (by kernel_rfl) (by kernel_rfl) (by kernel_rfl) (by kernel_rfl) (fun _ _ _ h => h) (yieldsIf_load_mid (by rfl) _ _ rfl p4 0 (by rfl) (bvs r) _ (fun W hS => rangeT hS HF.out.1 (by simp)) Try.underlying27 rfl hsr.out) (Till.mk' (((S0.trans D11 (by simp)).trans D23 (by simp)).trans D33 (by simp)) trivial) ?_
    try simp only [List.setIfInBounds_toArray, List.set_cons_succ, List.set_cons_zero]
    refine reg_take 37 72 15 #[true, true, true, true, true, true, true, true, true, true, true, true, true, true, true, true, true, true, true, true, true, true, true, true, true, true, true, true, true, true, true, true, true, true, true, true, true, true, false, false, false, false, false, false, false, false, false, false, false, false, false, false, false] (by rfl) (v := ?_) rfl rfl (by kernel_rfl) (by kernel_rfl) (by kernel_rfl) (by kernel_rfl) (fun _ _ _ h => h) (by rfl) ?_ (Till.mk' (((S0.trans D11 (by simp)).trans D23 (by simp)).trans D33 (by simp)) trivial) ?_
    rotate_left
    · intro W hS; go_simp; all_goals with_reducible rfl
    try simp only [List.setIfInBounds_toArray, List.set_cons_succ, List.set_cons_zero]
    refine reg_take 38 73 14 #[true, true, true, true, true, true, true, true, true, true, true, true, true, true, true, true, true, true, true, true, true, true, true, true, true, true, true, true, true, true, true, true, true, true, true, true, true, true, true, false, false, false, false, false, false, false, false, false, false, false, false, false, false] (by rfl) (v := ?_) rfl rfl (by kernel_rfl) (by kernel_rfl) (by kernel_rfl) (by kernel_rfl) (fun _ _ _ h => h) (by rfl) ?_ (Till.mk' (((S0.trans D11 (by simp)).trans D23 (by simp)).trans D33 (by simp)) trivial) ?_
    rotate_left
    · intro W hS; go_simp; all_goals with_reducible rfl
    try simp only [List.setIfInBounds_toArray, List.set_cons_succ, List.set_cons_zero]
    refine reg_take 39 74 13 #[true, true, true, true, true, true, true, true, true, true, true, true, true, true, true, true, true, true, true, true, true, true, true, true, true, true, true, true, true, true, true, true, true, true, true, true, true, true, true, true, false, false, false, false, false, false, false, false, false, false, false, false, false] (by rfl) (v := ?_) rfl rfl (by kernel_rfl) (by kernel_rfl) (by kernel_rfl) (by kernel_rfl) (fun _ _ _ h => h) (by rfl) ?_ (Till.mk' (((S0.trans D11 (by simp)).trans D23 (by simp)).trans D33 (by simp)) trivial) ?_
    rotate_left
    · intro W hS; go_simp; all_goals with_reducible rfl
    try simp only [List.setIfInBounds_toArray, List.set_cons_succ, List.set_cons_zero]
    refine reg_take_y 40 75 12 #[true, true, true, true, true, true, true, true, true, true, true, true, true, true, true, true, true, true, true, true, true, true, true, true, true, true, true, true, true, true, true, true, true, true, true, true, true, true, true, true, true, false, false, false, false, false, false, false, false, false, false, false, false] (by rfl) rfl rfl (by kernel_rfl) (by kernel_rfl) (by kernel_rfl) (by kernel_rfl) (fun _ _ _ h => h) (yieldsIf_load_mid (by rfl) _ _ rfl b0 (off + i * 32) (by rfl) (bvs x) _ (fun W hS => rangeT hS HF.out.2.1 (by simp)) Try.underlying27 rfl hsx.out) (Till.mk' (((S0.trans D11 (by simp)).trans D23 (by simp)).trans D33 (by simp)) trivial) ?_
    try simp only [List.setIfInBounds_toArray, List.set_cons_succ, List.set_cons_zero]
    refine reg_take 41 76 11 #[true, true, true, true, true, true, true, true, true, true, true, true, true, true, true, true, true, true, true, true, true, true, true, true, true, true, true, true, true, true, true, true, true, true, true, true, true, true, true, true, true, true, false, false, false, false, false, false, false, false, false, false, false] (by rfl) (v := ?_) rfl rfl (by kernel_rfl) (by kernel_rfl) (by kernel_rfl) (by kernel_rfl) (fun _ _ _ h => h) (by rfl) ?_ (Till.mk' (((S0.trans D11 (by simp)).trans D23 (by simp)).trans D33 (by simp)) trivial) ?_
    rotate_left
    · intro W hS; go_simp; all_goals with_reducible rfl
    try simp only [List.setIfInBounds_toArray, List.set_cons_succ, List.set_cons_zero]
    refine reg_take 42 77 10 #[true, true, true, true, true, true, true, true, true, true, true, true, true, true, true, true, true, true, true, true, true, true, true, true, true, true, true, true, true, true, true, true, true, true, true, true, true, true, true, true, true, true, true, false, false, false, false, false, false, false, false, false, false] (by rfl) (v := ?_) rfl rfl (by kernel_rfl) (by kernel_rfl) (by kernel_rfl) (by kernel_rfl) (fun _ _ _ h => h) (by rfl) ?_ (Till.mk' (((S0.trans D11 (by simp)).trans D23 (by simp)).trans D33 (by simp)) trivial) ?_
    rotate_left
    · intro W hS; go_simp; all_goals with_reducible rfl
    try simp only [List.setIfInBounds_toArray, List.set_cons_succ, List.set_cons_zero]
    refine reg_take 44 79 9 #[true, true, true, true, true, true, true, true, true, true, true, true, true, true, true, true, true, true, true, true, true, true, true, true, true, true, true, true, true, true, true, true, true, true, true, true, true, true, true, true, true, true, true, false, true, false, false, false, false, false, false, false, false] (by rfl) (v := ?_) rfl rfl (by kernel_rfl) (by kernel_rfl) (by kernel_rfl) (by kernel_rfl) (fun _ _ _ h => h) (by rfl) ?_ (Till.mk' (((S0.trans D11 (by simp)).trans D23 (by simp)).trans D33 (by simp)) trivial) ?_
    rotate_left
    · intro W hS; go_simp; all_goals with_reducible rfl
    try simp only [List.setIfInBounds_toArray, List.set_cons_succ, List.set_cons_zero]
    refine reg_take 46 81 8 #[true, true, true, true, true, true, true, true, true, true, true, true, true, true, true, true, true, true, true, true, true, true, true, true, true, true, true, true, true, true, true, true, true, true, true, true, true, true, true, true, true, true, true, false, true, false, true, false, false, false, false, false, false] (by rfl) (v := ?_) rfl rfl (by kernel_rfl) (by kernel_rfl) (by kernel_rfl) (by kernel_rfl) (fun _ _ _ h => h) (by rfl) ?_ (Till.mk' (((S0.trans D11 (by simp)).trans D23 (by simp)).trans D33 (by simp)) trivial) ?_
    rotate_left
    · intro W hS; go_simp; all_goals with_reducible rfl
    try simp only [List.setIfInBounds_toArray, List.set_cons_succ, List.set_cons_zero]
    refine reg_take 47 82 7 #[true, true, true, true, true, true, true, true, true, true, true, true, true, true, true, true, true, true, true, true, true, true, true, true, true, true, true, true, true, true, true, true, true, true, true, true, true, true, true, true, true, true, true, false, true, false, true, true, false, false, false, false, false] (by rfl) (v := ?_) rfl rfl (by kernel_rfl) (by kernel_rfl) (by kernel_rfl) (by kernel_rfl) (fun _ _ _ h => h) (by rfl) ?_ (Till.mk' (((S0.trans D11 (by simp)).trans D23 (by simp)).trans D33 (by simp)) trivial) ?_
    rotate_left
    · intro W hS; go_simp; all_goals with_reducible rfl
    try simp only [List.setIfInBounds_toArray, List.set_cons_succ, List.set_cons_zero]
    refine reg_take_y 48 83 6 #[true, true, true, true, true, true, true, true, true, true, true, true, true, true, true, true, true, true, true, true, true, true, true, true, true, true, true, true, true, true, true, true, true, true, true, true, true, true, true, true, true, true, true, false, true, false, true, true, true, false, false, false, false] (by rfl) rfl rfl (by kernel_rfl) (by kernel_rfl) (by kernel_rfl) (by kernel_rfl) (fun _ _ _ h => h) (yieldsIf_load_mid (by rfl) _ _ rfl b0 off (by rfl) (bvs z) _ (fun W hS => rangeT hS HF.out.2.2.2.1 (by simp)) Try.underlying27 rfl hsz.out) (Till.mk' (((S0.trans D11 (by simp)).trans D23 (by simp)).trans D33 (by simp)) trivial) ?_
    try simp only [List.setIfInBounds_toArray, List.set_cons_succ, List.set_cons_zero]
    refine reg_two 43 49 5 #[true, true, true, true, true, true, true, true, true, true, true, true, true, true, true, true, true, true, true, true, true, true, true, true, true, true, true, true, true, true, true, true, true, true, true, true, true, true, true, true, true, true, true, true, true, false, true, true, true, false, false, false, false] #[true, true, true, true, true, true, true, true, true, true, true, true, true, true, true, true, true, true, true, true, true, true, true, true, true, true, true, true, true, true, true, true, true, true, true, true, true, true, true, true, true, true, true, false, true, false, true, true, true, true, false, false, false] (by kernel_rfl) rfl rfl (by rfl) (by rfl) (by kernel_rfl) (by kernel_rfl) (fun K hK => ?_) (fun K hK => ?_)
    · go_simp
      obtain ⟨X43, hX43⟩ : ∃ q, q = (X33).alloc (.cells #[] 27) := ⟨_, rfl⟩
      have M43 : HMine (X33) X43 (.slice (some ⟨(X33).heap.size, 0, none⟩) 0 0) [] := by rw [hX43]; exact ⟨World.ownsRow_made (X33) #[] 0 (Nat.le_refl _) (Nat.zero_le _) (by simp), (Turns.refl _ _).alloc _, by simp⟩
      obtain ⟨g43, hg43⟩ : ∃ q, q = (X33).heap.size := ⟨_, rfl⟩
      have L43 : Y.heap.size ≤ g43 := by rw [hg43]; exact (((S0.trans D11 (by simp)).trans D23 (by simp)).trans D33 (by simp)).size
      have D43 : Turns [] (X33) X43 := M43.turns
      rw [← hg43] at M43
      rw [← hX43, ← hg43]
      have L43b : g43 < X43.heap.size := by rw [hX43, hg43]; simp
      have L43c : (X33).heap.size ≤ g43 := by rw [hg43]; exact Nat.le_refl _
      clear hX43 hg43
      refine hK _ _ (Till.mk' ((((S0.trans D11 (by simp)).trans D23 (by simp)).trans D33 (by simp)).trans D43 (by simp)) trivial) ?_
      clear hK K
      try simp only [List.setIfInBounds_toArray, List.set_cons_succ, List.set_cons_zero]
      refine reg_two 45 49 4 #[true, true, true, true, true, true, true, true, true, true, true, true, true, true, true, true, true, true, true, true, true, true, true, true, true, true, true, true, true, true, true, true, true, true, true, true, true, true, true, true, true, true, true, true, true, true, true, true, true, false, false, false, false] #[true, true, true, true, true, true, true, true, true, true, true, true, true, true, true, true, true, true, true, true, true, true, true, true, true, true, true, true, true, true, true, true, true, true, true, true, true, true, true, true, true, true, true, true, true, false, true, true, true, true, false, false, false] (by kernel_rfl) rfl rfl (by rfl) (by rfl) (by kernel_rfl) (by kernel_rfl) (fun K hK => ?_) (fun K hK => ?_)
      · obtain ⟨v45, X45, hr45, M45, D45⟩ := hmine_append' (M43.on (Turns.refl [] X43)) (HF.out.2.2.2.2.2.hs.turns ((((S0.trans D11 (by simp)).trans D23 (by simp)).trans D33 (by simp)).trans D43 (by simp)) (Nat.le_refl _) (by simp)) (by have := HPM.out; simp; omega) 23
        rw [List.nil_append] at M45
        have D45 : Turns [g43] (X43) X45 := by simpa [Value.ownBlock] using D45
        obtain ⟨A45, c45, rfl, _⟩ := M45.len
        rw [HPM.out.1] at M45 hr45
        refine wp_append_run (P := Try.prog) (w := X43) (.tmp 78) (.tmp 79) (by rfl) (vs := _) (vx := _) (by rfl) (by rfl) (R := fun v w' => Value.slice A45 m c45 = v ∧ X45 = w') ⟨_, _, hr45, rfl, rfl⟩ ?_
        rintro _ _ ⟨rfl, rfl⟩
        clear hr45
        refine hK _ _ (Till.mk' (((((S0.trans D11 (by simp)).trans D23 (by simp)).trans D33 (by simp)).trans D43 (by simp)).trans D45 (by intro q hq; simp at hq; subst hq; exact .inr L43)) trivial) ?_
        clear hK K
        try simp only [List.setIfInBounds_toArray, List.set_cons_succ, List.set_cons_zero]
        refine reg_one 49 3 #[true, true, true, true, true, true, true, true, true, true, true, true, true, true, true, true, true, true, true, true, true, true, true, true, true, true, true, true, true, true, true, true, true, true, true, true, true, true, true, true, true, true, true, true, true, true, true, true, true, true, false, false, false] (by kernel_rfl) rfl (by rfl) (by kernel_rfl) (fun K hK => ?_)
        refine wp_build_hash1 z HX.out.2.2.2 (.tmp 83) (by rfl) (by rfl) ?_
        obtain ⟨X49, hX49⟩ : ∃ q, q = (X45).alloc (.cells (bvs z).toArray 27) := ⟨_, rfl⟩
        have h49 : Hs X49 X49.heap.size (.slice (some ⟨(X45).heap.size, 0, none⟩) 1 1) [z] := by rw [hX49]; exact (Hs.one _ z HX.out.2.2.2 _).more (by simp)
        obtain ⟨g49, hg49⟩ : ∃ q, q = (X45).heap.size := ⟨_, rfl⟩
        have D49 : Turns [] (X45) X49 := by rw [hX49]; exact (Turns.refl _ _).alloc _
        rw [← hg49] at h49
        rw [← hX49, ← hg49]
        have L49b : g49 < X49.heap.size := by rw [hX49, hg49]; simp
        have L49c : (X45).heap.size ≤ g49 := by rw [hg49]; exact Nat.le_refl _
        clear hX49 hg49
        have hne : g49 ≠ g43 := by have := L43b; have := L49c; have := ((Turns.refl [g43] X43).trans D45 (by simp)).size; omega
        refine hK _ _ (Till.mk' ((((((S0.trans D11 (by simp)).trans D23 (by simp)).trans D33 (by simp)).trans D43 (by simp)).trans D45 (by intro q hq; simp at hq; subst hq; exact .inr L43)).trans D49 (by simp)) trivial) ?_
        clear hK K
        try simp only [List.setIfInBounds_toArray, List.set_cons_succ, List.set_cons_zero]
        refine reg_one 50 2 #[true, true, true, true, true, true, true, true, true, true, true, true, true, true, true, true, true, true, true, true, true, true, true, true, true, true, true, true, true, true, true, true, true, true, true, true, true, true, true, true, true, true, true, true, true, true, true, true, true, true, true, false, false] (by kernel_rfl) rfl (by rfl) (by kernel_rfl) (fun K hK => ?_)
        have hneq : g49 ≠ g43 := hne
        obtain ⟨v50, X50, hr50, M50, _⟩ := hmine_append' (M45.on ((Turns.refl [] X45).trans D49 (by simp))) h49 (by have := HPM.out; simp; omega) 23
        obtain ⟨A50, c50, rfl, _⟩ := M50.len
        have hl50 : (P ++ [z]).length = m + 1 := by have := HPM.out; simp; omega
        rw [hl50] at M50 hr50
        refine wp_append_run (P := Try.prog) (w := X49) (.tmp 80) (.tmp 84) (by rfl) (vs := _) (vx := _) (by rfl) (by rfl) (R := fun v w' => Value.slice A50 (m + 1) c50 = v ∧ X50 = w') ⟨_, _, hr50, rfl, rfl⟩ ?_
        rintro _ _ ⟨rfl, rfl⟩
        clear hr50
        have D50 : Turns [] Y X50 := (((S0.trans D11 (by simp)).trans D23 (by simp)).trans D33 (by simp)).trans M50.turns (by simp)
        refine hK _ _ (Till.mk' D50 trivial) ?_
        clear hK K
        try simp only [List.setIfInBounds_toArray, List.set_cons_succ, List.set_cons_zero]
        refine reg_one 51 1 #[true, true, true, true, true, true, true, true, true, true, true, true, true, true, true, true, true, true, true, true, true, true, true, true, true, true, true, true, true, true, true, true, true, true, true, true, true, true, true, true, true, true, true, true, true, true, true, true, true, true, true, true, false] (by kernel_rfl) rfl (by rfl) (by kernel_rfl) (fun K hK => ?_)
        go_simp
        refine (Check_any r x HX.out.1 HX.out.2.1 i n (P ++ [z]) (m + 1) hl50 (by have := HPM.out; omega) A50 c50 X50.heap.size X50 M50.hs (Nat.le_refl _)).mono ?_
        rintro e X51 ⟨rfl, D51⟩
        rw [HCL.out]
        have HT8 : Turns [] Y X51 := D50.trans D51 (by simp)
        refine hK _ _ (Till.mk' HT8 trivial) ?_
        clear hK K
        try simp only [List.setIfInBounds_toArray, List.set_cons_succ, List.set_cons_zero]
        refine reg_take 52 87 0 #[true, true, true, true, true, true, true, true, true, true, true, true, true, true, true, true, true, true, true, true, true, true, true, true, true, true, true, true, true, true, true, true, true, true, true, true, true, true, true, true, true, true, true, true, true, true, true, true, true, true, true, true, true] (by rfl) (v := ?_) rfl rfl (by kernel_rfl) (by kernel_rfl) (by kernel_rfl) (by kernel_rfl) (fun _ _ _ h => h) (by rfl) ?_ (Till.mk' HT8 trivial) ?_
        rotate_left
        · intro W hS; go_simp; all_goals with_reducible rfl
        try simp only [List.setIfInBounds_toArray, List.set_cons_succ, List.set_cons_zero]
        refine reg_done (by kernel_rfl) ?_ _
        go_wp2_with fail
        go_meet
        exact ⟨rfl, HT8⟩
      · refine wp_build_hash1 z HX.out.2.2.2 (.tmp 83) (by rfl) (by rfl) ?_
        obtain ⟨X49, hX49⟩ : ∃ q, q = (X43).alloc (.cells (bvs z).toArray 27) := ⟨_, rfl⟩
        have h49 : Hs X49 X49.heap.size (.slice (some ⟨(X43).heap.size, 0, none⟩) 1 1) [z] := by rw [hX49]; exact (Hs.one _ z HX.out.2.2.2 _).more (by simp)
        obtain ⟨g49, hg49⟩ : ∃ q, q = (X43).heap.size := ⟨_, rfl⟩
        have D49 : Turns [] (X43) X49 := by rw [hX49]; exact (Turns.refl _ _).alloc _
        rw [← hg49] at h49
        rw [← hX49, ← hg49]
        have L49b : g49 < X49.heap.size := by rw [hX49, hg49]; simp
        have L49c : (X43).heap.size ≤ g49 := by rw [hg49]; exact Nat.le_refl _
        clear hX49 hg49
        have hne : g49 ≠ g43 := by have := L43b; have := L49c; have := (Turns.refl [] X43).size; omega
        refine hK _ _ (Till.mk' (((((S0.trans D11 (by simp)).trans D23 (by simp)).trans D33 (by simp)).trans D43 (by simp)).trans D49 (by simp)) trivial) ?_
        clear hK K
        try simp only [List.setIfInBounds_toArray, List.set_cons_succ, List.set_cons_zero]
        refine reg_one 45 3 #[true, true, true, true, true, true, true, true, true, true, true, true, true, true, true, true, true, true, true, true, true, true, true, true, true, true, true, true, true, true, true, true, true, true, true, true, true, true, true, true, true, true, true, true, true, true, true, true, true, true, false, false, false] (by kernel_rfl) rfl (by rfl) (by kernel_rfl) (fun K hK => ?_)
        obtain ⟨v45, X45, hr45, M45, D45⟩ := hmine_append' (M43.on ((Turns.refl [] X43).trans D49 (by simp))) (HF.out.2.2.2.2.2.hs.turns (((((S0.trans D11 (by simp)).trans D23 (by simp)).trans D33 (by simp)).trans D43 (by simp)).trans D49 (by simp)) (Nat.le_refl _) (by simp)) (by have := HPM.out; simp; omega) 23
        rw [List.nil_append] at M45
        have D45 : Turns [g43] (X49) X45 := by simpa [Value.ownBlock] using D45
        obtain ⟨A45, c45, rfl, _⟩ := M45.len
        rw [HPM.out.1] at M45 hr45
        refine wp_append_run (P := Try.prog) (w := X49) (.tmp 78) (.tmp 79) (by rfl) (vs := _) (vx := _) (by rfl) (by rfl) (R := fun v w' => Value.slice A45 m c45 = v ∧ X45 = w') ⟨_, _, hr45, rfl, rfl⟩ ?_
        rintro _ _ ⟨rfl, rfl⟩
        clear hr45
        refine hK _ _ (Till.mk' ((((((S0.trans D11 (by simp)).trans D23 (by simp)).trans D33 (by simp)).trans D43 (by simp)).trans D49 (by simp)).trans D45 (by intro q hq; simp at hq; subst hq; exact .inr L43)) trivial) ?_
        clear hK K
        try simp only [List.setIfInBounds_toArray, List.set_cons_succ, List.set_cons_zero]
        refine reg_one 50 2 #[true, true, true, true, true, true, true, true, true, true, true, true, true, true, true, true, true, true, true, true, true, true, true, true, true, true, true, true, true, true, true, true, true, true, true, true, true, true, true, true, true, true, true, true, true, true, true, true, true, true, true, false, false] (by kernel_rfl) rfl (by rfl) (by kernel_rfl) (fun K hK => ?_)
        have hneq : g49 ≠ g43 := hne
        obtain ⟨v50, X50, hr50, M50, _⟩ := hmine_append' (M45.on (Turns.refl [] X45)) (h49.turns (((Turns.refl [g43] X49).trans D45 (by simp))) (Nat.le_refl _) (by intro x hx; simp at hx; subst hx; simp [Value.ownBlock]; exact hneq)) (by have := HPM.out; simp; omega) 23
        obtain ⟨A50, c50, rfl, _⟩ := M50.len
        have hl50 : (P ++ [z]).length = m + 1 := by have := HPM.out; simp; omega
        rw [hl50] at M50 hr50
        refine wp_append_run (P := Try.prog) (w := X45) (.tmp 80) (.tmp 84) (by rfl) (vs := _) (vx := _) (by rfl) (by rfl) (R := fun v w' => Value.slice A50 (m + 1) c50 = v ∧ X50 = w') ⟨_, _, hr50, rfl, rfl⟩ ?_
        rintro _ _ ⟨rfl, rfl⟩
        clear hr50
        have D50 : Turns [] Y X50 := (((S0.trans D11 (by simp)).trans D23 (by simp)).trans D33 (by simp)).trans M50.turns (by simp)
        refine hK _ _ (Till.mk' D50 trivial) ?_
        clear hK K
        try simp only [List.setIfInBounds_toArray, List.set_cons_succ, List.set_cons_zero]
        refine reg_one 51 1 #[true, true, true, true, true, true, true, true, true, true, true, true, true, true, true, true, true, true, true, true, true, true, true, true, true, true, true, true, true, true, true, true, true, true, true, true, true, true, true, true, true, true, true, true, true, true, true, true, true, true, true, true, false] (by kernel_rfl) rfl (by rfl) (by kernel_rfl) (fun K hK => ?_)
        go_simp
        refine (Check_any r x HX.out.1 HX.out.2.1 i n (P ++ [z]) (m + 1) hl50 (by have := HPM.out; omega) A50 c50 X50.heap.size X50 M50.hs (Nat.le_refl _)).mono ?_
        rintro e X51 ⟨rfl, D51⟩
        rw [HCL.out]
        have HT8 : Turns [] Y X51 := D50.trans D51 (by simp)
        refine hK _ _ (Till.mk' HT8 trivial) ?_
        clear hK K
        try simp only [List.setIfInBounds_toArray, List.set_cons_succ, List.set_cons_zero]
        refine reg_take 52 87 0 #[true, true, true, true, true, true, true, true, true, true, true, true, true, true, true, true, true, true, true, true, true, true, true, true, true, true, true, true, true, true, true, true, true, true, true, true, true, true, true, true, true, true, true, true, true, true, true, true, true, true, true, true, true] (by rfl) (v := ?_) rfl rfl (by kernel_rfl) (by kernel_rfl) (by kernel_rfl) (by kernel_rfl) (fun _ _ _ h => h) (by rfl) ?_ (Till.mk' HT8 trivial) ?_
        rotate_left
        · intro W hS; go_simp; all_goals with_reducible rfl
        try simp only [List.setIfInBounds_toArray, List.set_cons_succ, List.set_cons_zero]
        refine reg_done (by kernel_rfl) ?_ _
        go_wp2_with fail
        go_meet
        exact ⟨rfl, HT8⟩
    · refine wp_build_hash1 z HX.out.2.2.2 (.tmp 83) (by rfl) (by rfl) ?_
      obtain ⟨X49, hX49⟩ : ∃ q, q = (X33).alloc (.cells (bvs z).toArray 27) := ⟨_, rfl⟩
      have h49 : Hs X49 X49.heap.size (.slice (some ⟨(X33).heap.size, 0, none⟩) 1 1) [z] := by rw [hX49]; exact (Hs.one _ z HX.out.2.2.2 _).more (by simp)
      obtain ⟨g49, hg49⟩ : ∃ q, q = (X33).heap.size := ⟨_, rfl⟩
      have D49 : Turns [] (X33) X49 := by rw [hX49]; exact (Turns.refl _ _).alloc _
      rw [← hg49] at h49
      rw [← hX49, ← hg49]
      have L49b : g49 < X49.heap.size := by rw [hX49, hg49]; simp
      have L49c : (X33).heap.size ≤ g49 := by rw [hg49]; exact Nat.le_refl _
      clear hX49 hg49
      refine hK _ _ (Till.mk' ((((S0.trans D11 (by simp)).trans D23 (by simp)).trans D33 (by simp)).trans D49 (by simp)) trivial) ?_
      clear hK K
      try simp only [List.setIfInBounds_toArray, List.set_cons_succ, List.set_cons_zero]
      refine reg_one 43 4 #[true, true, true, true, true, true, true, true, true, true, true, true, true, true, true, true, true, true, true, true, true, true, true, true, true, true, true, true, true, true, true, true, true, true, true, true, true, true, true, true, true, true, true, true, true, false, true, true, true, true, false, false, false] (by kernel_rfl) rfl (by rfl) (by kernel_rfl) (fun K hK => ?_)
      go_simp
      obtain ⟨X43, hX43⟩ : ∃ q, q = (X49).alloc (.cells #[] 27) := ⟨_, rfl⟩
      have M43 : HMine (X49) X43 (.slice (some ⟨(X49).heap.size, 0, none⟩) 0 0) [] := by rw [hX43]; exact ⟨World.ownsRow_made (X49) #[] 0 (Nat.le_refl _) (Nat.zero_le _) (by simp), (Turns.refl _ _).alloc _, by simp⟩
      obtain ⟨g43, hg43⟩ : ∃ q, q = (X49).heap.size := ⟨_, rfl⟩
      have L43 : Y.heap.size ≤ g43 := by rw [hg43]; exact ((((S0.trans D11 (by simp)).trans D23 (by simp)).trans D33 (by simp)).trans D49 (by simp)).size
      have D43 : Turns [] (X49) X43 := M43.turns
      rw [← hg43] at M43
      rw [← hX43, ← hg43]
      have L43b : g43 < X43.heap.size := by rw [hX43, hg43]; simp
      have L43c : (X49).heap.size ≤ g43 := by rw [hg43]; exact Nat.le_refl _
      clear hX43 hg43
      refine hK _ _ (Till.mk' (((((S0.trans D11 (by simp)).trans D23 (by simp)).trans D33 (by simp)).trans D49 (by simp)).trans D43 (by simp)) trivial) ?_
      clear hK K
      try simp only [List.setIfInBounds_toArray, List.set_cons_succ, List.set_cons_zero]
      refine reg_one 45 3 #[true, true, true, true, true, true, true, true, true, true, true, true, true, true, true, true, true, true, true, true, true, true, true, true, true, true, true, true, true, true, true, true, true, true, true, true, true, true, true, true, true, true, true, true, true, true, true, true, true, true, false, false, false] (by kernel_rfl) rfl (by rfl) (by kernel_rfl) (fun K hK => ?_)
      obtain ⟨v45, X45, hr45, M45, D45⟩ := hmine_append' (M43.on (Turns.refl [] X43)) (HF.out.2.2.2.2.2.hs.turns (((((S0.trans D11 (by simp)).trans D23 (by simp)).trans D33 (by simp)).trans D49 (by simp)).trans D43 (by simp)) (Nat.le_refl _) (by simp)) (by have := HPM.out; simp; omega) 23
      rw [List.nil_append] at M45
      have D45 : Turns [g43] (X43) X45 := by simpa [Value.ownBlock] using D45
      obtain ⟨A45, c45, rfl, _⟩ := M45.len
      rw [HPM.out.1] at M45 hr45
      refine wp_append_run (P := Try.prog) (w := X43) (.tmp 78) (.tmp 79) (by rfl) (vs := _) (vx := _) (by rfl) (by rfl) (R := fun v w' => Value.slice A45 m c45 = v ∧ X45 = w') ⟨_, _, hr45, rfl, rfl⟩ ?_
      rintro _ _ ⟨rfl, rfl⟩
      clear hr45
      refine hK _ _ (Till.mk' ((((((S0.trans D11 (by simp)).trans D23 (by simp)).trans D33 (by simp)).trans D49 (by simp)).trans D43 (by simp)).trans D45 (by intro q hq; simp at hq; subst hq; exact .inr L43)) trivial) ?_
      clear hK K
      try simp only [List.setIfInBounds_toArray, List.set_cons_succ, List.set_cons_zero]
      refine reg_one 50 2 #[true, true, true, true, true, true, true, true, true, true, true, true, true, true, true, true, true, true, true, true, true, true, true, true, true, true, true, true, true, true, true, true, true, true, true, true, true, true, true, true, true, true, true, true, true, true, true, true, true, true, true, false, false] (by kernel_rfl) rfl (by rfl) (by kernel_rfl) (fun K hK => ?_)
      have hneq : g49 ≠ g43 := (by have := L49b; have := L43c; have := (Turns.refl [] X49).size; omega)
      obtain ⟨v50, X50, hr50, M50, _⟩ := hmine_append' (M45.on (Turns.refl [] X45)) (h49.turns ((((Turns.refl [g43] X49).trans D43 (by simp)).trans D45 (by simp))) (Nat.le_refl _) (by intro x hx; simp at hx; subst hx; simp [Value.ownBlock]; exact hneq)) (by have := HPM.out; simp; omega) 23
      obtain ⟨A50, c50, rfl, _⟩ := M50.len
      have hl50 : (P ++ [z]).length = m + 1 := by have := HPM.out; simp; omega
      rw [hl50] at M50 hr50
      refine wp_append_run (P := Try.prog) (w := X45) (.tmp 80) (.tmp 84) (by rfl) (vs := _) (vx := _) (by rfl) (by rfl) (R := fun v w' => Value.slice A50 (m + 1) c50 = v ∧ X50 = w') ⟨_, _, hr50, rfl, rfl⟩ ?_
      rintro _ _ ⟨rfl, rfl⟩
      clear hr50
      have D50 : Turns [] Y X50 := ((((S0.trans D11 (by simp)).trans D23 (by simp)).trans D33 (by simp)).trans D49 (by simp)).trans M50.turns (by simp)
      refine hK _ _ (Till.mk' D50 trivial) ?_
      clear hK K
      try simp only [List.setIfInBounds_toArray, List.set_cons_succ, List.set_cons_zero]
      refine reg_one 51 1 #[true, true, true, true, true, true, true, true, true, true, true, true, true, true, true, true, true, true, true, true, true, true, true, true, true, true, true, true, true, true, true, true, true, true, true, true, true, true, true, true, true, true, true, true, true, true, true, true, true, true, true, true, false] (by kernel_rfl) rfl (by rfl) (by kernel_rfl) (fun K hK => ?_)
      go_simp
      refine (Check_any r x HX.out.1 HX.out.2.1 i n (P ++ [z]) (m + 1) hl50 (by have := HPM.out; omega) A50 c50 X50.heap.size X50 M50.hs (Nat.le_refl _)).mono ?_
      rintro e X51 ⟨rfl, D51⟩
      rw [HCL.out]
      have HT8 : Turns [] Y X51 := D50.trans D51 (by simp)
      refine hK _ _ (Till.mk' HT8 trivial) ?_
      clear hK K
      try simp only [List.setIfInBounds_toArray, List.set_cons_succ, List.set_cons_zero]
      refine reg_take 52 87 0 #[true, true, true, true, true, true, true, true, true, true, true, true, true, true, true, true, true, true, true, true, true, true, true, true, true, true, true, true, true, true, true, true, true, true, true, true, true, true, true, true, true, true, true, true, true, true, true, true, true, true, true, true, true] (by rfl) (v := ?_) rfl rfl (by kernel_rfl) (by kernel_rfl) (by kernel_rfl) (by kernel_rfl) (fun _ _ _ h => h) (by rfl) ?_ (Till.mk' HT8 trivial) ?_
      rotate_left
      · intro W hS; go_simp; all_goals with_reducible rfl
      try simp only [List.setIfInBounds_toArray, List.set_cons_succ, List.set_cons_zero]
      refine reg_done (by kernel_rfl) ?_ _
      go_wp2_with fail
      go_meet
      exact ⟨rfl, HT8⟩
  case rest =>
  obtain ⟨rfl, tYw⟩ := hcut
  have T8 := Lib.hid tYw
  clear tYw S0
  obtain ⟨Z, hZ⟩ : ∃ q, q = wc.drew := ⟨_, rfl⟩
  have hzt : Turns [] Y Z := by rw [hZ]; exact T8.out.drew
  have HZ := Lib.hid hZ
  have HTZ := Lib.hid hzt
  have S0 : Turns [] Z Z := Turns.refl _ _
  clear hZ hzt
  obtain ⟨c1, hc1⟩ : ∃ c, c = mcheckZ r y (i : Int) (n : Int) P := ⟨_, rfl⟩
  obtain ⟨c2, hc2⟩ : ∃ c, c = mcheckZ r x (j : Int) (n : Int) P := ⟨_, rfl⟩
  have HC1 := Lib.hid hc1.symm
  have HC2 := Lib.hid hc2.symm
  clear hc1 hc2
  go_upto_region 10 with fail
  refine reg_begin (fun W => Turns [] Z W) (fun _ => True) 40 40 #[false, false, false, false, false, false, false, false, false, false, false, false, false, false, false, false, false, false, false, false, false, false, false, false, false, false, false, false, false, false, false, false, false, false, false, false, false, false, false, false] (by kernel_rfl) (by kernel_rfl) (by kernel_rfl) ?_
  rw [← HZ.out]
  refine reg_take_y 0 88 39 #[true, false, false, false, false, false, false, false, false, false, false, false, false, false, false, false, false, false, false, false, false, false, false, false, false, false, false, false, false, false, false, false, false, false, false, false, false, false, false, false] (by rfl) rfl rfl (by kernel_rfl) (by kernel_rfl) (by kernel_rfl) (by kernel_rfl) (fun _ _ _ h => h) (yieldsIf_load_mid (by rfl) _ _ rfl p4 0 (by rfl) (bvs r) _ (fun W hS => rangeT hS (rangeT HTZ.out HF.out.1 (by simp)) (by simp)) Try.underlying27 rfl hsr.out) (Till.mk' S0 trivial) ?_
  try simp only [List.setIfInBounds_toArray, List.set_cons_succ, List.set_cons_zero]
  refine reg_take 1 89 38 #[true, true, false, false, false, false, false, false, false, false, false, false, false, false, false, false, false, false, false, false, false, false, false, false, false, false, false, false, false, false, false, false, false, false, false, false, false, false, false, false] (by rfl) (v := ?_) rfl rfl (by kernel_rfl) (by kernel_rfl) (by kernel_rfl) (by kernel_rfl) (fun _ _ _ h => h) (by rfl) ?_ (Till.mk' S0 trivial) ?_
  rotate_left
  · intro W hS; go_simp; all_goals with_reducible rfl
  try simp only [List.setIfInBounds_toArray, List.set_cons_succ, List.set_cons_zero]
  refine reg_take 2 90 37 #[true, true, true, false, false, false, false, false, false, false, false, false, false, false, false, false, false, false, false, false, false, false, false, false, false, false, false, false, false, false, false, false, false, false, false, false, false, false, false, false] (by rfl) (v := ?_) rfl rfl (by kernel_rfl) (by kernel_rfl) (by kernel_rfl) (by kernel_rfl) (fun _ _ _ h => h) (by rfl) ?_ (Till.mk' S0 trivial) ?_
  rotate_left
  · intro W hS; go_simp; all_goals with_reducible rfl
  try simp only [List.setIfInBounds_toArray, List.set_cons_succ, List.set_cons_zero]
  refine reg_take 3 91 36 #[true, true, true, true, false, false, false, false, false, false, false, false, false, false, false, false, false, false, false, false, false, false, false, false, false, false, false, false, false, false, false, false, false, false, false, false, false, false, false, false] (by rfl) (v := ?_) rfl rfl (by kernel_rfl) (by kernel_rfl) (by kernel_rfl) (by kernel_rfl) (fun _ _ _ h => h) (by rfl) ?_ (Till.mk' S0 trivial) ?_
  rotate_left
  · intro W hS; go_simp; all_goals with_reducible rfl
  try simp only [List.setIfInBounds_toArray, List.set_cons_succ, List.set_cons_zero]
  refine reg_take_y 4 92 35 #[true, true, true, true, true, false, false, false, false, false, false, false, false, false, false, false, false, false, false, false, false, false, false, false, false, false, false, false, false, false, false, false, false, false, false, false, false, false, false, false] (by rfl) rfl rfl (by kernel_rfl) (by kernel_rfl) (by kernel_rfl) (by kernel_rfl) (fun _ _ _ h => h) (yieldsIf_load_mid (by rfl) _ _ rfl b0 (off + j * 32) (by rfl) (bvs y) _ (fun W hS => rangeT hS (rangeT HTZ.out HF.out.2.2.1 (by simp)) (by simp)) Try.underlying27 rfl hsy.out) (Till.mk' S0 trivial) ?_
  try simp only [List.setIfInBounds_toArray, List.set_cons_succ, List.set_cons_zero]
  refine reg_take 5 93 34 #[true, true, true, true, true, true, false, false, false, false, false, false, false, false, false, false, false, false, false, false, false, false, false, false, false, false, false, false, false, false, false, false, false, false, false, false, false, false, false, false] (by rfl) (v := ?_) rfl rfl (by kernel_rfl) (by kernel_rfl) (by kernel_rfl) (by kernel_rfl) (fun _ _ _ h => h) (by rfl) ?_ (Till.mk' S0 trivial) ?_
  rotate_left
  · intro W hS; go_simp; all_goals with_reducible rfl
  try simp only [List.setIfInBounds_toArray, List.set_cons_succ, List.set_cons_zero]
  refine reg_take 6 94 33 #[true, true, true, true, true, true, true, false, false, false, false, false, false, false, false, false, false, false, false, false, false, false, false, false, false, false, false, false, false, false, false, false, false, false, false, false, false, false, false, false] (by rfl) (v := ?_) rfl rfl (by kernel_rfl) (by kernel_rfl) (by kernel_rfl) (by kernel_rfl) (fun _ _ _ h => h) (by rfl) ?_ (Till.mk' S0 trivial) ?_
  rotate_left
  · intro W hS; go_simp; all_goals with_reducible rfl
  try simp only [List.setIfInBounds_toArray, List.set_cons_succ, List.set_cons_zero]
  refine reg_take 7 95 32 #[true, true, true, true, true, true, true, true, false, false, false, false, false, false, false, false, false, false, false, false, false, false, false, false, false, false, false, false, false, false, false, false, false, false, false, false, false, false, false, false] (by rfl) (v := ?_) rfl rfl (by kernel_rfl) (by kernel_rfl) (by kernel_rfl) (by kernel_rfl) (fun _ _ _ h => h) (by rfl) ?_ (Till.mk' S0 trivial) ?_
  rotate_left
  · intro W hS; go_simp; all_goals with_reducible rfl
  try simp only [List.setIfInBounds_toArray, List.set_cons_succ, List.set_cons_zero]
  refine reg_take_y 9 97 31 #[true, true, true, true, true, true, true, true, false, true, false, false, false, false, false, false, false, false, false, false, false, false, false, false, false, false, false, false, false, false, false, false, false, false, false, false, false, false, false, false] (by rfl) rfl rfl (by kernel_rfl) (by kernel_rfl) (by kernel_rfl) (by kernel_rfl) (fun _ _ _ h => h) (yieldsIf_load_mid (by rfl) _ _ rfl p4 0 (by rfl) (bvs r) _ (fun W hS => rangeT hS (rangeT HTZ.out HF.out.1 (by simp)) (by simp)) Try.underlying27 rfl hsr.out) (Till.mk' S0 trivial) ?_
  try simp only [List.setIfInBounds_toArray, List.set_cons_succ, List.set_cons_zero]
  refine reg_take 10 98 30 #[true, true, true, true, true, true, true, true, false, true, true, false, false, false, false, false, false, false, false, false, false, false, false, false, false, false, false, false, false, false, false, false, false, false, false, false, false, false, false, false] (by rfl) (v := ?_) rfl rfl (by kernel_rfl) (by kernel_rfl) (by kernel_rfl) (by kernel_rfl) (fun _ _ _ h => h) (by rfl) ?_ (Till.mk' S0 trivial) ?_
  rotate_left
  · intro W hS; go_simp; all_goals with_reducible rfl
  try simp only [List.setIfInBounds_toArray, List.set_cons_succ, List.set_cons_zero]
  refine reg_take 11 99 29 #[true, true, true, true, true, true, true, true, false, true, true, true, false, false, false, false, false, false, false, false, false, false, false, false, false, false, false, false, false, false, false, false, false, false, false, false, false, false, false, false] (by rfl) (v := ?_) rfl rfl (by kernel_rfl) (by kernel_rfl) (by kernel_rfl) (by kernel_rfl) (fun _ _ _ h => h) (by rfl) ?_ (Till.mk' S0 trivial) ?_
  rotate_left
  · intro W hS; go_simp; all_goals with_reducible rfl
  try simp only [List.setIfInBounds_toArray, List.set_cons_succ, List.set_cons_zero]
  refine reg_take 12 100 28 #[true, true, true, true, true, true, true, true, false, true, true, true, true, false, false, false, false, false, false, false, false, false, false, false, false, false, false, false, false, false, false, false, false, false, false, false, false, false, false, false] (by rfl) (v := ?_) rfl rfl (by kernel_rfl) (by kernel_rfl) (by kernel_rfl) (by kernel_rfl) (fun _ _ _ h => h) (by rfl) ?_ (Till.mk' S0 trivial) ?_
  rotate_left
  · intro W hS; go_simp; all_goals with_reducible rfl
  try simp only [List.setIfInBounds_toArray, List.set_cons_succ, List.set_cons_zero]
  refine reg_take_y 13 101 27 #[true, true, true, true, true, true, true, true, false, true, true, true, true, true, false, false, false, false, false, false, false, false, false, false, false, false, false, false, false, false, false, false, false, false, false, false, false, false, false, false] (by rfl) rfl rfl (by kernel_rfl) (by kernel_rfl) (by kernel_rfl) (by kernel_rfl) (fun _ _ _ h => h) (yieldsIf_load_mid (by rfl) _ _ rfl b0 (off + j * 32) (by rfl) (bvs y) _ (fun W hS => rangeT hS (rangeT HTZ.out HF.out.2.2.1 (by simp)) (by simp)) Try.underlying27 rfl hsy.out) (Till.mk' S0 trivial) ?_
  try simp only [List.setIfInBounds_toArray, List.set_cons_succ, List.set_cons_zero]
  refine reg_take 14 102 26 #[true, true, true, true, true, true, true, true, false, true, true, true, true, true, true, false, false, false, false, false, false, false, false, false, false, false, false, false, false, false, false, false, false, false, false, false, false, false, false, false] (by rfl) (v := ?_) rfl rfl (by kernel_rfl) (by kernel_rfl) (by kernel_rfl) (by kernel_rfl) (fun _ _ _ h => h) (by rfl) ?_ (Till.mk' S0 trivial) ?_
  rotate_left
  · intro W hS; go_simp; all_goals with_reducible rfl
  try simp only [List.setIfInBounds_toArray, List.set_cons_succ, List.set_cons_zero]
  refine reg_take 15 103 25 #[true, true, true, true, true, true, true, true, false, true, true, true, true, true, true, true, false, false, false, false, false, false, false, false, false, false, false, false, false, false, false, false, false, false, false, false, false, false, false, false] (by rfl) (v := ?_) rfl rfl (by kernel_rfl) (by kernel_rfl) (by kernel_rfl) (by kernel_rfl) (fun _ _ _ h => h) (by rfl) ?_ (Till.mk' S0 trivial) ?_
  rotate_left
  · intro W hS; go_simp; all_goals with_reducible rfl
  try simp only [List.setIfInBounds_toArray, List.set_cons_succ, List.set_cons_zero]
  refine reg_take 16 104 24 #[true, true, true, true, true, true, true, true, false, true, true, true, true, true, true, true, true, false, false, false, false, false, false, false, false, false, false, false, false, false, false, false, false, false, false, false, false, false, false, false] (by rfl) (v := ?_) rfl rfl (by kernel_rfl) (by kernel_rfl) (by kernel_rfl) (by kernel_rfl) (fun _ _ _ h => h) (by rfl) ?_ (Till.mk' S0 trivial) ?_
  rotate_left
  · intro W hS; go_simp; all_goals with_reducible rfl
  try simp only [List.setIfInBounds_toArray, List.set_cons_succ, List.set_cons_zero]
  refine reg_one 8 23 #[true, true, true, true, true, true, true, true, true, true, true, true, true, true, true, true, true, false, false, false, false, false, false, false, false, false, false, false, false, false, false, false, false, false, false, false, false, false, false, false] (by kernel_rfl) rfl (by rfl) (by kernel_rfl) (fun K hK => ?_)
  go_simp
  refine (Check_any r y HX.out.1 HX.out.2.2.1 i n P m HPM.out.1 (by have := HPM.out; omega) A5 c5 Y.heap.size Z (HF.out.2.2.2.2.2.hs.turns (HTZ.out.trans S0 (by simp)) (Nat.le_refl _) (by simp)) (HTZ.out.trans S0 (by simp)).size).mono ?_
  rintro e X8 ⟨rfl, D8⟩
  rw [HC1.out]
  refine hK _ _ (Till.mk' (S0.trans D8 (by simp)) trivial) ?_
  clear hK K
  try simp only [List.setIfInBounds_toArray, List.set_cons_succ, List.set_cons_zero]
  refine reg_one 17 22 #[true, true, true, true, true, true, true, true, true, true, true, true, true, true, true, true, true, true, false, false, false, false, false, false, false, false, false, false, false, false, false, false, false, false, false, false, false, false, false, false] (by kernel_rfl) rfl (by rfl) (by kernel_rfl) (fun K hK => ?_)
  go_simp
  refine (refCheck_any r y HX.out.1 HX.out.2.2.1 i n P m HPM.out.1 (by have := HPM.out; omega) A5 c5 Y.heap.size X8 (HF.out.2.2.2.2.2.hs.turns (HTZ.out.trans (S0.trans D8 (by simp)) (by simp)) (Nat.le_refl _) (by simp)) (HTZ.out.trans (S0.trans D8 (by simp)) (by simp)).size).mono ?_
  rintro e X17 ⟨rfl, D17⟩
  rw [HC1.out]
  refine hK _ _ (Till.mk' ((S0.trans D8 (by simp)).trans D17 (by simp)) trivial) ?_
  clear hK K
  try simp only [List.setIfInBounds_toArray, List.set_cons_succ, List.set_cons_zero]
  refine reg_take 18 106 21 #[true, true, true, true, true, true, true, true, true, true, true, true, true, true, true, true, true, true, true, false, false, false, false, false, false, false, false, false, false, false, false, false, false, false, false, false, false, false, false, false] (by rfl) (v := ?_) rfl rfl (by kernel_rfl) (by kernel_rfl) (by kernel_rfl) (by kernel_rfl) (fun _ _ _ h => h) (by rfl) ?_ (Till.mk' ((S0.trans D8 (by simp)).trans D17 (by simp)) trivial) ?_
  rotate_left
  · intro W hS; go_simp; all_goals with_reducible rfl
  try simp only [List.setIfInBounds_toArray, List.set_cons_succ, List.set_cons_zero]
  refine reg_take 19 107 20 #[true, true, true, true, true, true, true, true, true, true, true, true, true, true, true, true, true, true, true, true, false, false, false, false, false, false, false, false, false, false, false, false, false, false, false, false, false, false, false, false] (by rfl) (v := ?_) rfl rfl (by kernel_rfl) (by kernel_rfl) (by kernel_rfl) (by kernel_rfl) (fun _ _ _ h => h) (by rfl) ?_ (Till.mk' ((S0.trans D8 (by simp)).trans D17 (by simp)) trivial) ?_
  rotate_left
  · intro W hS; go_simp; all_goals with_reducible rfl
  try simp only [List.setIfInBounds_toArray, List.set_cons_succ, List.set_cons_zero]
  refine reg_take_y 20 108 19 #[true, true, true, true, true, true, true, true, true, true, true, true, true, true, true, true, true, true, true, true, true, false, false, false, false, false, false, false, false, false, false, false, false, false, false, false, false, false, false, false] (by rfl) rfl rfl (by kernel_rfl) (by kernel_rfl) (by kernel_rfl) (by kernel_rfl) (fun _ _ _ h => h) (yieldsIf_load_mid (by rfl) _ _ rfl p4 0 (by rfl) (bvs r) _ (fun W hS => rangeT hS (rangeT HTZ.out HF.out.1 (by simp)) (by simp)) Try.underlying27 rfl hsr.out) (Till.mk' ((S0.trans D8 (by simp)).trans D17 (by simp)) trivial) ?_
  try simp only [List.setIfInBounds_toArray, List.set_cons_succ, List.set_cons_zero]
  refine reg_take 21 109 18 #[true, true, true, true, true, true, true, true, true, true, true, true, true, true, true, true, true, true, true, true, true, true, false, false, false, false, false, false, false, false, false, false, false, false, false, false, false, false, false, false] (by rfl) (v := ?_) rfl rfl (by kernel_rfl) (by kernel_rfl) (by kernel_rfl) (by kernel_rfl) (fun _ _ _ h => h) (by rfl) ?_ (Till.mk' ((S0.trans D8 (by simp)).trans D17 (by simp)) trivial) ?_
  rotate_left
  · intro W hS; go_simp; all_goals with_reducible rfl
  try simp only [List.setIfInBounds_toArray, List.set_cons_succ, List.set_cons_zero]
  refine reg_take 22 110 17 #[true, true, true, true, true, true, true, true, true, true, true, true, true, true, true, true, true, true, true, true, true, true, true, false, false, false, false, false, false, false, false, false, false, false, false, false, false, false, false, false] (by rfl) (v := ?_) rfl rfl (by kernel_rfl) (by kernel_rfl) (by kernel_rfl) (by kernel_rfl) (fun _ _ _ h => h) (by rfl) ?_ (Till.mk' ((S0.trans D8 (by simp)).trans D17 (by simp)) trivial) ?_
  rotate_left
  · intro W hS; go_simp; all_goals with_reducible rfl
  try simp only [List.setIfInBounds_toArray, List.set_cons_succ, List.set_cons_zero]
  refine reg_take 23 111 16 #[true, true, true, true, true, true, true, true, true, true, true, true, true, true, true, true, true, true, true, true, true, true, true, true, false, false, false, false, false, false, false, false, false, false, false, false, false, false, false, false] (by rfl) (v := ?_) rfl rfl (by kernel_rfl) (by kernel_rfl) (by kernel_rfl) (by kernel_rfl) (fun _ _ _ h => h) (by rfl) ?_ (Till.mk' ((S0.trans D8 (by simp)).trans D17 (by simp)) trivial) ?_
  rotate_left
  · intro W hS; go_simp; all_goals with_reducible rfl
  try simp only [List.setIfInBounds_toArray, List.set_cons_succ, List.set_cons_zero]
  refine reg_take_y 24 112 15 #[true, true, true, true, true, true, true, true, true, true, true, true, true, true, true, true, true, true, true, true, true, true, true, true, true, false, false, false, false, false, false, false, false, false, false, false, false, false, false, false] (by rfl) rfl rfl (by kernel_rfl) (by kernel_rfl) (by kernel_rfl) (by kernel_rfl) (fun _ _ _ h => h) (yieldsIf_load_mid (by rfl) _ _ rfl b0 (off + i * 32) (by rfl) (bvs x) _ (fun W hS => rangeT hS (rangeT HTZ.out HF.out.2.1 (by simp)) (by simp)) Try.underlying27 rfl hsx.out) (Till.mk' ((S0.trans D8 (by simp)).trans D17 (by simp)) trivial) ?_
  try simp only [List.setIfInBounds_toArray, List.set_cons_succ, List.set_cons_zero]
  refine reg_take 25 113 14 #[true, true, true, true, true, true, true, true, true, true, true, true, true, true, true, true, true, true, true, true, true, true, true, true, true, true, false, false, false, false, false, false, false, false, false, false, false, false, false, false] (by rfl) (v := ?_) rfl rfl (by kernel_rfl) (by kernel_rfl) (by kernel_rfl) (by kernel_rfl) (fun _ _ _ h => h) (by rfl) ?_ (Till.mk' ((S0.trans D8 (by simp)).trans D17 (by simp)) trivial) ?_
  rotate_left
  · intro W hS; go_simp; all_goals with_reducible rfl
  try simp only [List.setIfInBounds_toArray, List.set_cons_succ, List.set_cons_zero]
  refine reg_take 26 114 13 #[true, true, true, true, true, true, true, true, true, true, true, true, true, true, true, true, true, true, true, true, true, true, true, true, true, true, true, false, false, false, false, false, false, false, false, false, false, false, false, false] (by rfl) (v := ?_) rfl rfl (by kernel_rfl) (by kernel_rfl) (by kernel_rfl) (by kernel_rfl) (fun _ _ _ h => h) (by rfl) ?_ (Till.mk' ((S0.trans D8 (by simp)).trans D17 (by simp)) trivial) ?_
  rotate_left
  · intro W hS; go_simp; all_goals with_reducible rfl
  try simp only [List.setIfInBounds_toArray, List.set_cons_succ, List.set_cons_zero]
  refine reg_take 27 115 12 #[true, true, true, true, true, true, true, true, true, true, true, true, true, true, true, true, true, true, true, true, true, true, true, true, true, true, true, true, false, false, false, false, false, false, false, false, false, false, false, false] (by rfl) (v := ?_) rfl rfl (by kernel_rfl) (by kernel_rfl) (by kernel_rfl) (by kernel_rfl) (fun _ _ _ h => h) (by rfl) ?_ (Till.mk' ((S0.trans D8 (by simp)).trans D17 (by simp)) trivial) ?_
  rotate_left
  · intro W hS; go_simp; all_goals with_reducible rfl
  try simp only [List.setIfInBounds_toArray, List.set_cons_succ, List.set_cons_zero]
  refine reg_take_y 29 117 11 #[true, true, true, true, true, true, true, true, true, true, true, true, true, true, true, true, true, true, true, true, true, true, true, true, true, true, true, true, false, true, false, false, false, false, false, false, false, false, false, false] (by rfl) rfl rfl (by kernel_rfl) (by kernel_rfl) (by kernel_rfl) (by kernel_rfl) (fun _ _ _ h => h) (yieldsIf_load_mid (by rfl) _ _ rfl p4 0 (by rfl) (bvs r) _ (fun W hS => rangeT hS (rangeT HTZ.out HF.out.1 (by simp)) (by simp)) Try.underlying27 rfl hsr.out) (Till.mk' ((S0.trans D8 (by simp)).trans D17 (by simp)) trivial) ?_
  try simp only [List.setIfInBounds_toArray, List.set_cons_succ, List.set_cons_zero]
  refine reg_take 30 118 10 #[true, true, true, true, true, true, true, true, true, true, true, true, true, true, true, true, true, true, true, true, true, true, true, true, true, true, true, true, false, true, true, false, false, false, false, false, false, false, false, false] (by rfl) (v := ?_) rfl rfl (by kernel_rfl) (by kernel_rfl) (by kernel_rfl) (by kernel_rfl) (fun _ _ _ h => h) (by rfl) ?_ (Till.mk' ((S0.trans D8 (by simp)).trans D17 (by simp)) trivial) ?_
  rotate_left
  · intro W hS; go_simp; all_goals with_reducible rfl
  try simp only [List.setIfInBounds_toArray, List.set_cons_succ, List.set_cons_zero]
  refine reg_take 31 119 9 #[true, true, true, true, true, true, true, true, true, true, true, true, true, true, true, true, true, true, true, true, true, true, true, true, true, true, true, true, false, true, true, true, false, false, false, false, false, false, false, false] (by rfl) (v := ?_) rfl rfl (by kernel_rfl) (by kernel_rfl) (by kernel_rfl) (by kernel_rfl) (fun _ _ _ h => h) (by rfl) ?_ (Till.mk' ((S0.trans D8 (by simp)).trans D17 (by simp)) trivial) ?_
  rotate_left
  · intro W hS; go_simp; all_goals with_reducible rfl
  try simp only [List.setIfInBounds_toArray, List.set_cons_succ, List.set_cons_zero]
  refine reg_take 32 120 8 #[true, true, true, true, true, true, true, true, true, true, true, true, true, true, true, true, true, true, true, true, true, true, true, true, true, true, true, true, false, true, true, true, true, false, false, false, false, false, false, false] (by rfl) (v := ?_) rfl rfl (by kernel_rfl) (by kernel_rfl) (by kernel_rfl) (by kernel_rfl) (fun _ _ _ h => h) (by rfl) ?_ (Till.mk' ((S0.trans D8 (by simp)).trans D17 (by simp)) trivial) ?_
  rotate_left
  · intro W hS; go_simp; all_goals with_reducible rfl
  try simp only [List.setIfInBounds_toArray, List.set_cons_succ, List.set_cons_zero]
  refine reg_take_y 33 121 7 #[true, true, true, true, true, true, true, true, true, true, true, true, true, true, true, true, true, true, true, true, true, true, true, true, true, true, true, true, false, true, true, true, true, true, false, false, false, false, false, false] (by rfl) rfl rfl (by kernel_rfl) (by kernel_rfl) (by kernel_rfl) (by kernel_rfl) (fun _ _ _ h => h) (yieldsIf_load_mid (by rfl) _ _ rfl b0 (off + i * 32) (by rfl) (bvs x) _ (fun W hS => rangeT hS (rangeT HTZ.out HF.out.2.1 (by simp)) (by simp)) Try.underlying27 rfl hsx.out) (Till.mk' ((S0.trans D8 (by simp)).trans D17 (by simp)) trivial) ?_
  try simp only [List.setIfInBounds_toArray, List.set_cons_succ, List.set_cons_zero]
  refine reg_take 34 122 6 #[true, true, true, true, true, true, true, true, true, true, true, true, true, true, true, true, true, true, true, true, true, true, true, true, true, true, true, true, false, true, true, true, true, true, true, false, false, false, false, false] (by rfl) (v := ?_) rfl rfl (by kernel_rfl) (by kernel_rfl) (by kernel_rfl) (by kernel_rfl) (fun _ _ _ h => h) (by rfl) ?_ (Till.mk' ((S0.trans D8 (by simp)).trans D17 (by simp)) trivial) ?_
  rotate_left
  · intro W hS; go_simp; all_goals with_reducible rfl
  try simp only [List.setIfInBounds_toArray, List.set_cons_succ, List.set_cons_zero]
  refine reg_take 35 123 5 #[true, true, true, true, true, true, true, true, true, true, true, true, true, true, true, true, true, true, true, true, true, true, true, true, true, true, true, true, false, true, true, true, true, true, true, true, false, false, false, false] (by rfl) (v := ?_) rfl rfl (by kernel_rfl) (by kernel_rfl) (by kernel_rfl) (by kernel_rfl) (fun _ _ _ h => h) (by rfl) ?_ (Till.mk' ((S0.trans D8 (by simp)).trans D17 (by simp)) trivial) ?_
  rotate_left
  · intro W hS; go_simp; all_goals with_reducible rfl
  try simp only [List.setIfInBounds_toArray, List.set_cons_succ, List.set_cons_zero]
  refine reg_take 36 124 4 #[true, true, true, true, true, true, true, true, true, true, true, true, true, true, true, true, true, true, true, true, true, true, true, true, true, true, true, true, false, true, true, true, true, true, true, true, true, false, false, false] (by rfl) (v := ?_) rfl rfl (by kernel_rfl) (by kernel_rfl) (by kernel_rfl) (by kernel_rfl) (fun _ _ _ h => h) (by rfl) ?_ (Till.mk' ((S0.trans D8 (by simp)).trans D17 (by simp)) trivial) ?_
  rotate_left
  · intro W hS; go_simp; all_goals with_reducible rfl
  try simp only [List.setIfInBounds_toArray, List.set_cons_succ, List.set_cons_zero]
  refine reg_one 28 3 #[true, true, true, true, true, true, true, true, true, true, true, true, true, true, true, true, true, true, true, true, true, true, true, true, true, true, true, true, true, true, true, true, true, true, true, true, true, false, false, false] (by kernel_rfl) rfl (by rfl) (by kernel_rfl) (fun K hK => ?_)
  go_simp
  refine (Check_any r x HX.out.1 HX.out.2.1 j n P m HPM.out.1 (by have := HPM.out; omega) A5 c5 Y.heap.size X17 (HF.out.2.2.2.2.2.hs.turns (HTZ.out.trans ((S0.trans D8 (by simp)).trans D17 (by simp)) (by simp)) (Nat.le_refl _) (by simp)) (HTZ.out.trans ((S0.trans D8 (by simp)).trans D17 (by simp)) (by simp)).size).mono ?_
  rintro e X28 ⟨rfl, D28⟩
  rw [HC2.out]
  refine hK _ _ (Till.mk' (((S0.trans D8 (by simp)).trans D17 (by simp)).trans D28 (by simp)) trivial) ?_
  clear hK K
  try simp only [List.setIfInBounds_toArray, List.set_cons_succ, List.set_cons_zero]
  refine reg_one 37 2 #[true, true, true, true, true, true, true, true, true, true, true, true, true, true, true, true, true, true, true, true, true, true, true, true, true, true, true, true, true, true, true, true, true, true, true, true, true, true, false, false] (by kernel_rfl) rfl (by rfl) (by kernel_rfl) (fun K hK => ?_)
  go_simp
  refine (refCheck_any r x HX.out.1 HX.out.2.1 j n P m HPM.out.1 (by have := HPM.out; omega) A5 c5 Y.heap.size X28 (HF.out.2.2.2.2.2.hs.turns (HTZ.out.trans (((S0.trans D8 (by simp)).trans D17 (by simp)).trans D28 (by simp)) (by simp)) (Nat.le_refl _) (by simp)) (HTZ.out.trans (((S0.trans D8 (by simp)).trans D17 (by simp)).trans D28 (by simp)) (by simp)).size).mono ?_
  rintro e X37 ⟨rfl, D37⟩
  rw [HC2.out]
  refine hK _ _ (Till.mk' ((((S0.trans D8 (by simp)).trans D17 (by simp)).trans D28 (by simp)).trans D37 (by simp)) trivial) ?_
  clear hK K
  try simp only [List.setIfInBounds_toArray, List.set_cons_succ, List.set_cons_zero]
  refine reg_take 38 126 1 #[true, true, true, true, true, true, true, true, true, true, true, true, true, true, true, true, true, true, true, true, true, true, true, true, true, true, true, true, true, true, true, true, true, true, true, true, true, true, true, false] (by rfl) (v := ?_) rfl rfl (by kernel_rfl) (by kernel_rfl) (by kernel_rfl) (by kernel_rfl) (fun _ _ _ h => h) (by rfl) ?_ (Till.mk' ((((S0.trans D8 (by simp)).trans D17 (by simp)).trans D28 (by simp)).trans D37 (by simp)) trivial) ?_
  rotate_left
  · intro W hS; go_simp; all_goals with_reducible rfl
  try simp only [List.setIfInBounds_toArray, List.set_cons_succ, List.set_cons_zero]
  refine reg_take 39 127 0 #[true, true, true, true, true, true, true, true, true, true, true, true, true, true, true, true, true, true, true, true, true, true, true, true, true, true, true, true, true, true, true, true, true, true, true, true, true, true, true, true] (by rfl) (v := ?_) rfl rfl (by kernel_rfl) (by kernel_rfl) (by kernel_rfl) (by kernel_rfl) (fun _ _ _ h => h) (by rfl) ?_ (Till.mk' ((((S0.trans D8 (by simp)).trans D17 (by simp)).trans D28 (by simp)).trans D37 (by simp)) trivial) ?_
  rotate_left
  · intro W hS; go_simp; all_goals with_reducible rfl
  try simp only [List.setIfInBounds_toArray, List.set_cons_succ, List.set_cons_zero]
  refine reg_done (by kernel_rfl) ?_ _
  have HT10 : Turns [] Z X37 := ((((S0.trans D8 (by simp)).trans D17 (by simp)).trans D28 (by simp)).trans D37 (by simp))
  obtain ⟨V10, hV10⟩ : ∃ q, q = X37 := ⟨_, rfl⟩
  rw [← hV10] at HT10 ⊢
  clear hV10
  have T10 := Lib.hid (HTZ.out.trans HT10 (by simp))
  clear HT10 S0
  by_cases hm0 : m = 0
  · have zm : ((m : Int) == 0) = true := by simp [hm0]
    have zm2 : (m == 0) = true := by simp [hm0]
    clear hm0
    go_wp2_with fail
    go_ret
    exact ⟨rfl, below_of (((HT1.out.trans M3.out.turns (by simp)).trans HF.out.2.2.2.2.1 (by simp)).trans T10.out (by simp))⟩
  · have zm : ((m : Int) == 0) = false := by simp; omega
    have zm2 : (m == 0) = false := by simpa using hm0
    have hmi : 0 < (m : Int) := by omega
    have hmI : (m : Int) ≤ 20 := by have := HPM.out.2; omega
    have wm : IntKind.i64.wrap ((m : Int) - 1) = ((m - 1 : Nat) : Int) := by rw [IntWalk.i64_in _ (by omega)]; omega
    have HM0 := Lib.hid (show 0 < m by omega)
    have mV := HF.out.2.2.2.2.2.on T10.out
    have hown : HMine V10 (V10.alloc (.cells #[] 27)) (.slice (some ⟨V10.heap.size, 0, none⟩) 0 0) [] :=
      ⟨World.ownsRow_made V10 #[] 0 (Nat.le_refl _) (Nat.zero_le _) (by simp), (Turns.refl _ _).alloc _, by simp⟩
    obtain ⟨v14, w14, hr14, m14⟩ := hmine_append hown (mV.hs.turns ((Turns.refl [] V10).alloc (.cells #[] 27)) (Nat.le_refl _) (by simp)) (by have := HPM.out; simp; omega) 23
    rw [List.nil_append] at m14
    obtain ⟨A14, c14, rfl, hnc14⟩ := m14.len
    rw [HPM.out.1] at m14 hr14 hnc14
    have M14 := Lib.hid m14
    obtain ⟨g, rfl, hg1, hg2, hrow⟩ := m14.hrow HPM.out.1 HM0.out
    obtain ⟨_, _, hv, _, hcm⟩ := m14.hs.form
    injection hv with e1 e2 e3
    subst e3
    clear e1 e2
    have HG := Lib.hid (And.intro hg1 (And.intro hg2 (And.intro hrow (And.intro hnc14 hcm))))
    clear hown mV m14 hm0 hg1 hg2 hrow hnc14 hcm
    go_upto_region 15 with (first
      | (at_builtin; refine wpList_append_at rfl (.tmp 131) (.tmp 132) rfl hr14 rfl rfl ?_)
      | fail)
    clear hr14
    obtain ⟨t, ht⟩ : ∃ x : Nat, (x : Int) = k0 % (m : Int) := ⟨(k0 % (m : Int)).toNat, by have := Int.emod_nonneg k0 (show (m : Int) ≠ 0 by omega); omega⟩
    have htm : t < m := by have := Int.emod_lt_of_pos k0 hmi; omega
    obtain ⟨s, hs, hs32⟩ : ∃ q : Nat, (q : Int) = k0 % 32 ∧ q < 32 := ⟨(k0 % 32).toNat, by omega, by omega⟩
    obtain ⟨d, hd, hd8⟩ : ∃ q : Nat, (q : Int) = k0 % 8 ∧ q < 8 := ⟨(k0 % 8).toNat, by omega, by omega⟩
    obtain ⟨xt, hxt⟩ : ∃ x, P[t]? = some x := ⟨_, List.getElem?_eq_getElem (by rw [HPM.out.1]; exact htm)⟩
    have hxt32 : xt.length = 32 := M14.out.all xt (List.mem_of_getElem? hxt)
    obtain ⟨u, hu⟩ : ∃ u, xt[s]? = some u := ⟨_, List.getElem?_eq_getElem (by omega)⟩
    obtain ⟨D, hD⟩ : ∃ q, q = w14.drew := ⟨_, rfl⟩
    have hrD : HRow D g P := by rw [hD]; exact HG.out.2.2.1
    have cb : D.cell? ⟨g, t * 32 + s, none⟩ = some (u8v u) := (hrD t xt hxt).1 s _ (by simp [bvs, hu])
    have fb := ((hrD t xt hxt).2 s hs32).2
    have zt : (t : Int) < (m : Int) := by omega
    have zs : (s : Int) < 32 := by omega
    have zd : (d : Int) < 8 := by omega
    have hT : Turns [] D D := Turns.refl _ _
    have HD := Lib.hid hD
    have tD := Lib.hid (show Turns [] w14 D by rw [hD]; exact (Turns.refl _ _).drew)
    have HK := Lib.hid (And.intro (And.intro ht hs) (And.intro hd (And.intro hxt (And.intro hxt32 (And.intro hrD (And.intro htm hs32))))))
    clear ht hs hd hxt hxt32 hu hD hrD htm hs32 hd8
    unfold u8v at cb
    refine reg_begin (fun _ => True) (fun W => Turns [] D W) 17 18 #[false, false, false, false, false, false, false, false, false, false, false, false, false, false, false, false, false, false] (by kernel_rfl) (by kernel_rfl) (by kernel_rfl) ?_
    rw [← HD.out]
    refine reg_take 0 134 17 #[true, false, false, false, false, false, false, false, false, false, false, false, false, false, false, false, false, false] (by rfl) (v := ?_) rfl rfl (by kernel_rfl) (by kernel_rfl) (by kernel_rfl) (by kernel_rfl) (fun _ _ _ h => h) (by rfl) ?_ (Till.mk' trivial hT) ?_
    rotate_left
    · intro W hS; go_simp; all_goals with_reducible rfl
    try simp only [List.setIfInBounds_toArray, List.set_cons_succ, List.set_cons_zero]
    refine reg_take 1 135 16 #[true, true, false, false, false, false, false, false, false, false, false, false, false, false, false, false, false, false] (by rfl) (v := ?_) rfl rfl (by kernel_rfl) (by kernel_rfl) (by kernel_rfl) (by kernel_rfl) (fun _ _ _ h => h) (by rfl) ?_ (Till.mk' trivial hT) ?_
    rotate_left
    · intro W hS; go_simp; all_goals with_reducible rfl
    try simp only [List.setIfInBounds_toArray, List.set_cons_succ, List.set_cons_zero]
    refine reg_take 2 136 15 #[true, true, true, false, false, false, false, false, false, false, false, false, false, false, false, false, false, false] (by rfl) (v := ?_) rfl rfl (by kernel_rfl) (by kernel_rfl) (by kernel_rfl) (by kernel_rfl) (fun _ _ _ h => h) (by rfl) ?_ (Till.mk' trivial hT) ?_
    rotate_left
    · intro W hS; go_simp; all_goals with_reducible rfl
    try simp only [List.setIfInBounds_toArray, List.set_cons_succ, List.set_cons_zero]
    refine reg_take 3 137 14 #[true, true, true, true, false, false, false, false, false, false, false, false, false, false, false, false, false, false] (by rfl) (v := ?_) rfl rfl (by kernel_rfl) (by kernel_rfl) (by kernel_rfl) (by kernel_rfl) (fun _ _ _ h => h) (by rfl) ?_ (Till.mk' trivial hT) ?_
    rotate_left
    · intro W hS; go_simp; all_goals with_reducible rfl
    try simp only [List.setIfInBounds_toArray, List.set_cons_succ, List.set_cons_zero]
    refine reg_take 5 139 13 #[true, true, true, true, false, true, false, false, false, false, false, false, false, false, false, false, false, false] (by rfl) (v := ?_) rfl rfl (by kernel_rfl) (by kernel_rfl) (by kernel_rfl) (by kernel_rfl) (fun _ _ _ h => h) (by rfl) ?_ (Till.mk' trivial hT) ?_
    rotate_left
    · intro W hS; go_simp; all_goals with_reducible rfl
    try simp only [List.setIfInBounds_toArray, List.set_cons_succ, List.set_cons_zero]
    refine reg_take 10 144 12 #[true, true, true, true, false, true, false, false, false, false, true, false, false, false, false, false, false, false] (by rfl) (v := ?_) rfl rfl (by kernel_rfl) (by kernel_rfl) (by kernel_rfl) (by kernel_rfl) (fun _ _ _ h => h) (by rfl) ?_ (Till.mk' trivial hT) ?_
    rotate_left
    · intro W hS; go_simp; all_goals with_reducible rfl
    try simp only [List.setIfInBounds_toArray, List.set_cons_succ, List.set_cons_zero]
    refine reg_one 4 11 #[true, true, true, true, true, true, false, false, false, false, true, false, false, false, false, false, false, false] (by kernel_rfl) rfl (by rfl) (by kernel_rfl) (fun K hK => ?_)
    go_simp
    refine (within_any k0 m D HI.out.2.2.1 HI.out.2.2.2 hmi (by have := HPM.out; omega)).mono ?_
    rintro e W4 ⟨rfl, rfl⟩
    rw [← HK.out.1.1]
    refine hK _ _ (Till.mk' trivial hT) ?_
    clear hK K
    try simp only [List.setIfInBounds_toArray, List.set_cons_succ, List.set_cons_zero]
    refine reg_take 7 141 10 #[true, true, true, true, true, true, false, true, false, false, true, false, false, false, false, false, false, false] (by rfl) (v := ?_) rfl rfl (by kernel_rfl) (by kernel_rfl) (by kernel_rfl) (by kernel_rfl) (fun _ _ _ h => h) (by rfl) ?_ (Till.mk' trivial hT) ?_
    rotate_left
    · intro W hS; go_simp; all_goals with_reducible rfl
    try simp only [List.setIfInBounds_toArray, List.set_cons_succ, List.set_cons_zero]
    refine reg_take 15 149 9 #[true, true, true, true, true, true, false, true, false, false, true, false, false, false, false, true, false, false] (by rfl) (v := ?_) rfl rfl (by kernel_rfl) (by kernel_rfl) (by kernel_rfl) (by kernel_rfl) (fun _ _ _ h => h) (by rfl) ?_ (Till.mk' trivial hT) ?_
    rotate_left
    · intro W hS; go_simp; all_goals with_reducible rfl
    try simp only [List.setIfInBounds_toArray, List.set_cons_succ, List.set_cons_zero]
    refine reg_one 6 8 #[true, true, true, true, true, true, true, true, false, false, true, false, false, false, false, true, false, false] (by kernel_rfl) rfl (by rfl) (by kernel_rfl) (fun K hK => ?_)
    go_simp
    refine (within_any k0 32 D HI.out.2.2.1 HI.out.2.2.2 (by omega) (by omega)).mono ?_
    rintro e W6 ⟨rfl, rfl⟩
    rw [← HK.out.1.2]
    refine hK _ _ (Till.mk' trivial hT) ?_
    clear hK K
    try simp only [List.setIfInBounds_toArray, List.set_cons_succ, List.set_cons_zero]
    refine reg_take 8 142 7 #[true, true, true, true, true, true, true, true, true, false, true, false, false, false, false, true, false, false] (by rfl) (v := ?_) rfl rfl (by kernel_rfl) (by kernel_rfl) (by kernel_rfl) (by kernel_rfl) (fun _ _ _ h => h) (by rfl) ?_ (Till.mk' trivial hT) ?_
    rotate_left
    · intro W hS; go_simp; all_goals with_reducible rfl
    try simp only [List.setIfInBounds_toArray, List.set_cons_succ, List.set_cons_zero]
    refine reg_take_t 9 143 6 #[true, true, true, true, true, true, true, true, true, true, true, false, false, false, false, true, false, false] (by rfl) (v := ?_) rfl rfl (by kernel_rfl) (by kernel_rfl) (by kernel_rfl) (by kernel_rfl) (fun _ _ _ h => h) (by rfl) (by kernel_rfl) (by kernel_rfl) ?_ (Till.mk' trivial hT) ?_
    rotate_left
    · rintro W ⟨-, hS⟩; have c2 := cellL hS cb (by simp); go_simp; all_goals with_reducible rfl
    try simp only [List.setIfInBounds_toArray, List.set_cons_succ, List.set_cons_zero]
    refine reg_one 11 5 #[true, true, true, true, true, true, true, true, true, true, true, true, false, false, false, true, false, false] (by kernel_rfl) rfl (by rfl) (by kernel_rfl) (fun K hK => ?_)
    go_simp
    refine (within_any k0 8 D HI.out.2.2.1 HI.out.2.2.2 (by omega) (by omega)).mono ?_
    rintro e W11 ⟨rfl, rfl⟩
    rw [← HK.out.2.1]
    refine hK _ _ (Till.mk' trivial hT) ?_
    clear hK K
    try simp only [List.setIfInBounds_toArray, List.set_cons_succ, List.set_cons_zero]
    refine reg_take 12 146 4 #[true, true, true, true, true, true, true, true, true, true, true, true, true, false, false, true, false, false] (by rfl) (v := ?_) rfl rfl (by kernel_rfl) (by kernel_rfl) (by kernel_rfl) (by kernel_rfl) (fun _ _ _ h => h) (by rfl) ?_ (Till.mk' trivial hT) ?_
    rotate_left
    · intro W hS; go_simp; all_goals with_reducible rfl
    try simp only [List.setIfInBounds_toArray, List.set_cons_succ, List.set_cons_zero]
    refine reg_take 13 147 3 #[true, true, true, true, true, true, true, true, true, true, true, true, true, true, false, true, false, false] (by rfl) (v := ?_) rfl rfl (by kernel_rfl) (by kernel_rfl) (by kernel_rfl) (by kernel_rfl) (fun _ _ _ h => h) (by rfl) ?_ (Till.mk' trivial hT) ?_
    rotate_left
    · intro W hS; go_simp; all_goals with_reducible rfl
    try simp only [List.setIfInBounds_toArray, List.set_cons_succ, List.set_cons_zero]
    refine reg_take 14 148 2 #[true, true, true, true, true, true, true, true, true, true, true, true, true, true, true, true, false, false] (by rfl) (v := ?_) rfl rfl (by kernel_rfl) (by kernel_rfl) (by kernel_rfl) (by kernel_rfl) (fun _ _ _ h => h) (by rfl) ?_ (Till.mk' trivial hT) ?_
    rotate_left
    · intro W hS; go_simp; all_goals with_reducible rfl
    try simp only [List.setIfInBounds_toArray, List.set_cons_succ, List.set_cons_zero]
    refine reg_take 16 150 1 #[true, true, true, true, true, true, true, true, true, true, true, true, true, true, true, true, true, false] (by rfl) (v := ?_) rfl rfl (by kernel_rfl) (by kernel_rfl) (by kernel_rfl) (by kernel_rfl) (fun _ _ _ h => h) (by rfl) ?_ (Till.mk' trivial hT) ?_
    rotate_left
    · intro W hS; go_simp; all_goals with_reducible rfl
    try simp only [List.setIfInBounds_toArray, List.set_cons_succ, List.set_cons_zero]
    refine reg_one 17 0 #[true, true, true, true, true, true, true, true, true, true, true, true, true, true, true, true, true, true] (by kernel_rfl) rfl (by rfl) (by kernel_rfl) (fun K hK => ?_)
    go_simp
    refine hK _ _ (Till.past trivial (by kernel_rfl)) ?_
    clear hK K
    try simp only [List.setIfInBounds_toArray, List.set_cons_succ, List.set_cons_zero]
    refine reg_done (by kernel_rfl) ?_ _
    obtain ⟨b', hb'⟩ := u8_ex _ (hxor u.toNat (IntKind.u8.wrap (2 ^ min (IntKind.u64.wrap (d : Int)).toNat 8))).1 (hxor _ _).2
    rw [hb']
    have HB' := Lib.hid hb'
    clear hb'
    obtain ⟨E, hE⟩ : ∃ q, q = (D.setCell ⟨g, t * 32 + s, none⟩ (u8v b')).drew := ⟨_, rfl⟩
    have hrE : HRow E g (P.set t (xt.set s b')) := by rw [hE]; exact fun k z hz => (HK.out.2.2.2.2.1.byte t s xt HK.out.2.2.1 M14.out.all HK.out.2.2.2.2.2.2 b') k z hz
    have tDE : Turns [g] D E := by rw [hE]; exact ((Turns.refl [g] D).setCell (p := ⟨g, t * 32 + s, none⟩) (.inl (by simp)) _).drew
    have tYE : Turns [] Y E := ((T10.out.trans M14.out.turns (by simp)).trans tD.out (by simp)).trans tDE (by intro q hq; simp at hq; subst hq; exact .inr (Nat.le_trans T10.out.size HG.out.1))
    have hlP : (P.set t (xt.set s b')).length = m := by rw [List.length_set]; exact HPM.out.1
    have haP : ∀ z ∈ P.set t (xt.set s b'), z.length = 32 := by
      intro z hz
      rcases List.mem_or_eq_of_mem_set hz with h | h
      · exact M14.out.all z h
      · rw [h, List.length_set]; exact HK.out.2.2.2.1
    have hsE := hrE.hs hlP HG.out.2.2.2.1 HG.out.2.2.2.2 haP (Nat.lt_of_lt_of_le HG.out.2.1 (Nat.le_trans tD.out.size tDE.size))
    obtain ⟨P', hP'⟩ : ∃ P', P' = P.set t (xt.set s b') := ⟨_, rfl⟩
    rw [← hP'] at hlP hsE
    have hpE := HF.out.2.2.2.2.2.hs.turns tYE (Nat.le_refl _) (by simp)
    have hpto := hpE.to (k := m - 1) (by omega)
    have hltk : (P.take (m - 1)).length = m - 1 := by rw [List.length_take, HPM.out.1]; omega
    obtain ⟨c3', hc3⟩ : ∃ c, c = mcheckZ r x (i : Int) (n : Int) P' := ⟨_, rfl⟩
    have HC3 := Lib.hid hc3.symm
    have HCS' := Lib.hid (HCS.out HM0.out)
    have S0 : Turns [] E E := Turns.refl _ _
    have HE := Lib.hid hE
    have HL := Lib.hid (And.intro hlP hltk)
    have HH := Lib.hid (And.intro (rangeT tYE HF.out.1 (by simp)) (And.intro (rangeT tYE HF.out.2.1 (by simp)) (And.intro hsE (And.intro hpto tYE))))
    have hBP : Y.heap.size ≤ E.heap.size := tYE.size
    have HBP := Lib.hid hBP
    have hcap : m ≤ c5 + 1 := by
      obtain ⟨_, _, e, hh⟩ := HF.out.2.2.2.2.2.len
      injection e with _ e2 e3
      subst e3
      rw [← e2] at hh; omega
    clear hrE tDE tYE hlP haP hsE hP' hpE hpto hltk hc3 hE hBP HB'
    go_upto_region 16 with fail
    refine reg_begin (fun W => Turns [] E W) (fun _ => True) 36 36 #[false, false, false, false, false, false, false, false, false, false, false, false, false, false, false, false, false, false, false, false, false, false, false, false, false, false, false, false, false, false, false, false, false, false, false, false] (by kernel_rfl) (by kernel_rfl) (by kernel_rfl) ?_
    rw [← HE.out]
    refine reg_take_y 0 151 35 #[true, false, false, false, false, false, false, false, false, false, false, false, false, false, false, false, false, false, false, false, false, false, false, false, false, false, false, false, false, false, false, false, false, false, false, false] (by rfl) rfl rfl (by kernel_rfl) (by kernel_rfl) (by kernel_rfl) (by kernel_rfl) (fun _ _ _ h => h) (yieldsIf_load_mid (by rfl) _ _ rfl p4 0 (by rfl) (bvs r) _ (fun W hS => rangeT hS HH.out.1 (by simp)) Try.underlying27 rfl hsr.out) (Till.mk' S0 trivial) ?_
    try simp only [List.setIfInBounds_toArray, List.set_cons_succ, List.set_cons_zero]
    refine reg_take 1 152 34 #[true, true, false, false, false, false, false, false, false, false, false, false, false, false, false, false, false, false, false, false, false, false, false, false, false, false, false, false, false, false, false, false, false, false, false, false] (by rfl) (v := ?_) rfl rfl (by kernel_rfl) (by kernel_rfl) (by kernel_rfl) (by kernel_rfl) (fun _ _ _ h => h) (by rfl) ?_ (Till.mk' S0 trivial) ?_
    rotate_left
    · intro W hS; go_simp; all_goals with_reducible rfl
    try simp only [List.setIfInBounds_toArray, List.set_cons_succ, List.set_cons_zero]
    refine reg_take 2 153 33 #[true, true, true, false, false, false, false, false, false, false, false, false, false, false, false, false, false, false, false, false, false, false, false, false, false, false, false, false, false, false, false, false, false, false, false, false] (by rfl) (v := ?_) rfl rfl (by kernel_rfl) (by kernel_rfl) (by kernel_rfl) (by kernel_rfl) (fun _ _ _ h => h) (by rfl) ?_ (Till.mk' S0 trivial) ?_
    rotate_left
    · intro W hS; go_simp; all_goals with_reducible rfl
    try simp only [List.setIfInBounds_toArray, List.set_cons_succ, List.set_cons_zero]
    refine reg_take 3 154 32 #[true, true, true, true, false, false, false, false, false, false, false, false, false, false, false, false, false, false, false, false, false, false, false, false, false, false, false, false, false, false, false, false, false, false, false, false] (by rfl) (v := ?_) rfl rfl (by kernel_rfl) (by kernel_rfl) (by kernel_rfl) (by kernel_rfl) (fun _ _ _ h => h) (by rfl) ?_ (Till.mk' S0 trivial) ?_
    rotate_left
    · intro W hS; go_simp; all_goals with_reducible rfl
    try simp only [List.setIfInBounds_toArray, List.set_cons_succ, List.set_cons_zero]
    refine reg_take_y 4 155 31 #[true, true, true, true, true, false, false, false, false, false, false, false, false, false, false, false, false, false, false, false, false, false, false, false, false, false, false, false, false, false, false, false, false, false, false, false] (by rfl) rfl rfl (by kernel_rfl) (by kernel_rfl) (by kernel_rfl) (by kernel_rfl) (fun _ _ _ h => h) (yieldsIf_load_mid (by rfl) _ _ rfl b0 (off + i * 32) (by rfl) (bvs x) _ (fun W hS => rangeT hS HH.out.2.1 (by simp)) Try.underlying27 rfl hsx.out) (Till.mk' S0 trivial) ?_
    try simp only [List.setIfInBounds_toArray, List.set_cons_succ, List.set_cons_zero]
    refine reg_take 5 156 30 #[true, true, true, true, true, true, false, false, false, false, false, false, false, false, false, false, false, false, false, false, false, false, false, false, false, false, false, false, false, false, false, false, false, false, false, false] (by rfl) (v := ?_) rfl rfl (by kernel_rfl) (by kernel_rfl) (by kernel_rfl) (by kernel_rfl) (fun _ _ _ h => h) (by rfl) ?_ (Till.mk' S0 trivial) ?_
    rotate_left
    · intro W hS; go_simp; all_goals with_reducible rfl
    try simp only [List.setIfInBounds_toArray, List.set_cons_succ, List.set_cons_zero]
    refine reg_take 6 157 29 #[true, true, true, true, true, true, true, false, false, false, false, false, false, false, false, false, false, false, false, false, false, false, false, false, false, false, false, false, false, false, false, false, false, false, false, false] (by rfl) (v := ?_) rfl rfl (by kernel_rfl) (by kernel_rfl) (by kernel_rfl) (by kernel_rfl) (fun _ _ _ h => h) (by rfl) ?_ (Till.mk' S0 trivial) ?_
    rotate_left
    · intro W hS; go_simp; all_goals with_reducible rfl
    try simp only [List.setIfInBounds_toArray, List.set_cons_succ, List.set_cons_zero]
    refine reg_take 7 158 28 #[true, true, true, true, true, true, true, true, false, false, false, false, false, false, false, false, false, false, false, false, false, false, false, false, false, false, false, false, false, false, false, false, false, false, false, false] (by rfl) (v := ?_) rfl rfl (by kernel_rfl) (by kernel_rfl) (by kernel_rfl) (by kernel_rfl) (fun _ _ _ h => h) (by rfl) ?_ (Till.mk' S0 trivial) ?_
    rotate_left
    · intro W hS; go_simp; all_goals with_reducible rfl
    try simp only [List.setIfInBounds_toArray, List.set_cons_succ, List.set_cons_zero]
    refine reg_take_y 9 160 27 #[true, true, true, true, true, true, true, true, false, true, false, false, false, false, false, false, false, false, false, false, false, false, false, false, false, false, false, false, false, false, false, false, false, false, false, false] (by rfl) rfl rfl (by kernel_rfl) (by kernel_rfl) (by kernel_rfl) (by kernel_rfl) (fun _ _ _ h => h) (yieldsIf_load_mid (by rfl) _ _ rfl p4 0 (by rfl) (bvs r) _ (fun W hS => rangeT hS HH.out.1 (by simp)) Try.underlying27 rfl hsr.out) (Till.mk' S0 trivial) ?_
    try simp only [List.setIfInBounds_toArray, List.set_cons_succ, List.set_cons_zero]
    refine reg_take 10 161 26 #[true, true, true, true, true, true, true, true, false, true, true, false, false, false, false, false, false, false, false, false, false, false, false, false, false, false, false, false, false, false, false, false, false, false, false, false] (by rfl) (v := ?_) rfl rfl (by kernel_rfl) (by kernel_rfl) (by kernel_rfl) (by kernel_rfl) (fun _ _ _ h => h) (by rfl) ?_ (Till.mk' S0 trivial) ?_
    rotate_left
    · intro W hS; go_simp; all_goals with_reducible rfl
    try simp only [List.setIfInBounds_toArray, List.set_cons_succ, List.set_cons_zero]
    refine reg_take 11 162 25 #[true, true, true, true, true, true, true, true, false, true, true, true, false, false, false, false, false, false, false, false, false, false, false, false, false, false, false, false, false, false, false, false, false, false, false, false] (by rfl) (v := ?_) rfl rfl (by kernel_rfl) (by kernel_rfl) (by kernel_rfl) (by kernel_rfl) (fun _ _ _ h => h) (by rfl) ?_ (Till.mk' S0 trivial) ?_
    rotate_left
    · intro W hS; go_simp; all_goals with_reducible rfl
    try simp only [List.setIfInBounds_toArray, List.set_cons_succ, List.set_cons_zero]
    refine reg_take 12 163 24 #[true, true, true, true, true, true, true, true, false, true, true, true, true, false, false, false, false, false, false, false, false, false, false, false, false, false, false, false, false, false, false, false, false, false, false, false] (by rfl) (v := ?_) rfl rfl (by kernel_rfl) (by kernel_rfl) (by kernel_rfl) (by kernel_rfl) (fun _ _ _ h => h) (by rfl) ?_ (Till.mk' S0 trivial) ?_
    rotate_left
    · intro W hS; go_simp; all_goals with_reducible rfl
    try simp only [List.setIfInBounds_toArray, List.set_cons_succ, List.set_cons_zero]
    refine reg_take_y 13 164 23 #[true, true, true, true, true, true, true, true, false, true, true, true, true, true, false, false, false, false, false, false, false, false, false, false, false, false, false, false, false, false, false, false, false, false, false, false] (by rfl) rfl rfl (by kernel_rfl) (by kernel_rfl) (by kernel_rfl) (by kernel_rfl) (fun _ _ _ h => h) (yieldsIf_load_mid (by rfl) _ _ rfl b0 (off + i * 32) (by rfl) (bvs x) _ (fun W hS => rangeT hS HH.out.2.1 (by simp)) Try.underlying27 rfl hsx.out) (Till.mk' S0 trivial) ?_
    try simp only [List.setIfInBounds_toArray, List.set_cons_succ, List.set_cons_zero]
    refine reg_take 14 165 22 #[true, true, true, true, true, true, true, true, false, true, true, true, true, true, true, false, false, false, false, false, false, false, false, false, false, false, false, false, false, false, false, false, false, false, false, false] (by rfl) (v := ?_) rfl rfl (by kernel_rfl) (by kernel_rfl) (by kernel_rfl) (by kernel_rfl) (fun _ _ _ h => h) (by rfl) ?_ (Till.mk' S0 trivial) ?_
    rotate_left
    · intro W hS; go_simp; all_goals with_reducible rfl
    try simp only [List.setIfInBounds_toArray, List.set_cons_succ, List.set_cons_zero]
    refine reg_take 15 166 21 #[true, true, true, true, true, true, true, true, false, true, true, true, true, true, true, true, false, false, false, false, false, false, false, false, false, false, false, false, false, false, false, false, false, false, false, false] (by rfl) (v := ?_) rfl rfl (by kernel_rfl) (by kernel_rfl) (by kernel_rfl) (by kernel_rfl) (fun _ _ _ h => h) (by rfl) ?_ (Till.mk' S0 trivial) ?_
    rotate_left
    · intro W hS; go_simp; all_goals with_reducible rfl
    try simp only [List.setIfInBounds_toArray, List.set_cons_succ, List.set_cons_zero]
    refine reg_take 16 167 20 #[true, true, true, true, true, true, true, true, false, true, true, true, true, true, true, true, true, false, false, false, false, false, false, false, false, false, false, false, false, false, false, false, false, false, false, false] (by rfl) (v := ?_) rfl rfl (by kernel_rfl) (by kernel_rfl) (by kernel_rfl) (by kernel_rfl) (fun _ _ _ h => h) (by rfl) ?_ (Till.mk' S0 trivial) ?_
    rotate_left
    · intro W hS; go_simp; all_goals with_reducible rfl
    try simp only [List.setIfInBounds_toArray, List.set_cons_succ, List.set_cons_zero]
    refine reg_one 8 19 #[true, true, true, true, true, true, true, true, true, true, true, true, true, true, true, true, true, false, false, false, false, false, false, false, false, false, false, false, false, false, false, false, false, false, false, false] (by kernel_rfl) rfl (by rfl) (by kernel_rfl) (fun K hK => ?_)
    go_simp
    refine (Check_any r x HX.out.1 HX.out.2.1 i n P' m HL.out.1 (by have := HPM.out; omega) (some ⟨g, 0, none⟩) c14 E.heap.size E (HH.out.2.2.1.turns S0 (Nat.le_refl _) (by simp)) S0.size).mono ?_
    rintro e X8 ⟨rfl, D8⟩
    rw [HC3.out]
    refine hK _ _ (Till.mk' (S0.trans D8 (by simp)) trivial) ?_
    clear hK K
    try simp only [List.setIfInBounds_toArray, List.set_cons_succ, List.set_cons_zero]
    refine reg_one 17 18 #[true, true, true, true, true, true, true, true, true, true, true, true, true, true, true, true, true, true, false, false, false, false, false, false, false, false, false, false, false, false, false, false, false, false, false, false] (by kernel_rfl) rfl (by rfl) (by kernel_rfl) (fun K hK => ?_)
    go_simp
    refine (refCheck_any r x HX.out.1 HX.out.2.1 i n P' m HL.out.1 (by have := HPM.out; omega) (some ⟨g, 0, none⟩) c14 E.heap.size X8 (HH.out.2.2.1.turns (S0.trans D8 (by simp)) (Nat.le_refl _) (by simp)) (S0.trans D8 (by simp)).size).mono ?_
    rintro e X17 ⟨rfl, D17⟩
    rw [HC3.out]
    refine hK _ _ (Till.mk' ((S0.trans D8 (by simp)).trans D17 (by simp)) trivial) ?_
    clear hK K
    try simp only [List.setIfInBounds_toArray, List.set_cons_succ, List.set_cons_zero]
    refine reg_take 18 169 17 #[true, true, true, true, true, true, true, true, true, true, true, true, true, true, true, true, true, true, true, false, false, false, false, false, false, false, false, false, false, false, false, false, false, false, false, false] (by rfl) (v := ?_) rfl rfl (by kernel_rfl) (by kernel_rfl) (by kernel_rfl) (by kernel_rfl) (fun _ _ _ h => h) (by rfl) ?_ (Till.mk' ((S0.trans D8 (by simp)).trans D17 (by simp)) trivial) ?_
    rotate_left
    · intro W hS; go_simp; all_goals with_reducible rfl
    try simp only [List.setIfInBounds_toArray, List.set_cons_succ, List.set_cons_zero]
    refine reg_take 19 170 16 #[true, true, true, true, true, true, true, true, true, true, true, true, true, true, true, true, true, true, true, true, false, false, false, false, false, false, false, false, false, false, false, false, false, false, false, false] (by rfl) (v := ?_) rfl rfl (by kernel_rfl) (by kernel_rfl) (by kernel_rfl) (by kernel_rfl) (fun _ _ _ h => h) (by rfl) ?_ (Till.mk' ((S0.trans D8 (by simp)).trans D17 (by simp)) trivial) ?_
    rotate_left
    · intro W hS; go_simp; all_goals with_reducible rfl
    try simp only [List.setIfInBounds_toArray, List.set_cons_succ, List.set_cons_zero]
    refine reg_take_y 20 171 15 #[true, true, true, true, true, true, true, true, true, true, true, true, true, true, true, true, true, true, true, true, true, false, false, false, false, false, false, false, false, false, false, false, false, false, false, false] (by rfl) rfl rfl (by kernel_rfl) (by kernel_rfl) (by kernel_rfl) (by kernel_rfl) (fun _ _ _ h => h) (yieldsIf_load_mid (by rfl) _ _ rfl p4 0 (by rfl) (bvs r) _ (fun W hS => rangeT hS HH.out.1 (by simp)) Try.underlying27 rfl hsr.out) (Till.mk' ((S0.trans D8 (by simp)).trans D17 (by simp)) trivial) ?_
    try simp only [List.setIfInBounds_toArray, List.set_cons_succ, List.set_cons_zero]
    refine reg_take 21 172 14 #[true, true, true, true, true, true, true, true, true, true, true, true, true, true, true, true, true, true, true, true, true, true, false, false, false, false, false, false, false, false, false, false, false, false, false, false] (by rfl) (v := ?_) rfl rfl (by kernel_rfl) (by kernel_rfl) (by kernel_rfl) (by kernel_rfl) (fun _ _ _ h => h) (by rfl) ?_ (Till.mk' ((S0.trans D8 (by simp)).trans D17 (by simp)) trivial) ?_
    rotate_left
    · intro W hS; go_simp; all_goals with_reducible rfl
    try simp only [List.setIfInBounds_toArray, List.set_cons_succ, List.set_cons_zero]
    refine reg_take 22 173 13 #[true, true, true, true, true, true, true, true, true, true, true, true, true, true, true, true, true, true, true, true, true, true, true, false, false, false, false, false, false, false, false, false, false, false, false, false] (by rfl) (v := ?_) rfl rfl (by kernel_rfl) (by kernel_rfl) (by kernel_rfl) (by kernel_rfl) (fun _ _ _ h => h) (by rfl) ?_ (Till.mk' ((S0.trans D8 (by simp)).trans D17 (by simp)) trivial) ?_
    rotate_left
    · intro W hS; go_simp; all_goals with_reducible rfl
    try simp only [List.setIfInBounds_toArray, List.set_cons_succ, List.set_cons_zero]
    refine reg_take 23 174 12 #[true, true, true, true, true, true, true, true, true, true, true, true, true, true, true, true, true, true, true, true, true, true, true, true, false, false, false, false, false, false, false, false, false, false, false, false] (by rfl) (v := ?_) rfl rfl (by kernel_rfl) (by kernel_rfl) (by kernel_rfl) (by kernel_rfl) (fun _ _ _ h => h) (by rfl) ?_ (Till.mk' ((S0.trans D8 (by simp)).trans D17 (by simp)) trivial) ?_
    rotate_left
    · intro W hS; go_simp; all_goals with_reducible rfl
    try simp only [List.setIfInBounds_toArray, List.set_cons_succ, List.set_cons_zero]
    refine reg_take_y 24 175 11 #[true, true, true, true, true, true, true, true, true, true, true, true, true, true, true, true, true, true, true, true, true, true, true, true, true, false, false, false, false, false, false, false, false, false, false, false] (by rfl) rfl rfl (by kernel_rfl) (by kernel_rfl) (by kernel_rfl) (by kernel_rfl) (fun _ _ _ h => h) (yieldsIf_load_mid (by rfl) _ _ rfl b0 (off + i * 32) (by rfl) (bvs x) _ (fun W hS => rangeT hS HH.out.2.1 (by simp)) Try.underlying27 rfl hsx.out) (Till.mk' ((S0.trans D8 (by simp)).trans D17 (by simp)) trivial) ?_
    try simp only [List.setIfInBounds_toArray, List.set_cons_succ, List.set_cons_zero]
    refine reg_take 25 176 10 #[true, true, true, true, true, true, true, true, true, true, true, true, true, true, true, true, true, true, true, true, true, true, true, true, true, true, false, false, false, false, false, false, false, false, false, false] (by rfl) (v := ?_) rfl rfl (by kernel_rfl) (by kernel_rfl) (by kernel_rfl) (by kernel_rfl) (fun _ _ _ h => h) (by rfl) ?_ (Till.mk' ((S0.trans D8 (by simp)).trans D17 (by simp)) trivial) ?_
    rotate_left
    · intro W hS; go_simp; all_goals with_reducible rfl
    try simp only [List.setIfInBounds_toArray, List.set_cons_succ, List.set_cons_zero]
    refine reg_take 26 177 9 #[true, true, true, true, true, true, true, true, true, true, true, true, true, true, true, true, true, true, true, true, true, true, true, true, true, true, true, false, false, false, false, false, false, false, false, false] (by rfl) (v := ?_) rfl rfl (by kernel_rfl) (by kernel_rfl) (by kernel_rfl) (by kernel_rfl) (fun _ _ _ h => h) (by rfl) ?_ (Till.mk' ((S0.trans D8 (by simp)).trans D17 (by simp)) trivial) ?_
    rotate_left
    · intro W hS; go_simp; all_goals with_reducible rfl
    try simp only [List.setIfInBounds_toArray, List.set_cons_succ, List.set_cons_zero]
    refine reg_take 27 178 8 #[true, true, true, true, true, true, true, true, true, true, true, true, true, true, true, true, true, true, true, true, true, true, true, true, true, true, true, true, false, false, false, false, false, false, false, false] (by rfl) (v := ?_) rfl rfl (by kernel_rfl) (by kernel_rfl) (by kernel_rfl) (by kernel_rfl) (fun _ _ _ h => h) (by rfl) ?_ (Till.mk' ((S0.trans D8 (by simp)).trans D17 (by simp)) trivial) ?_
    rotate_left
    · intro W hS; go_simp; all_goals with_reducible rfl
    try simp only [List.setIfInBounds_toArray, List.set_cons_succ, List.set_cons_zero]
    refine reg_take 28 179 7 #[true, true, true, true, true, true, true, true, true, true, true, true, true, true, true, true, true, true, true, true, true, true, true, true, true, true, true, true, true, false, false, false, false, false, false, false] (by rfl) (v := ?_) rfl rfl (by kernel_rfl) (by kernel_rfl) (by kernel_rfl) (by kernel_rfl) (fun _ _ _ h => h) (by rfl) ?_ (Till.mk' ((S0.trans D8 (by simp)).trans D17 (by simp)) trivial) ?_
    rotate_left
    · intro W hS; go_simp; all_goals with_reducible rfl
    try simp only [List.setIfInBounds_toArray, List.set_cons_succ, List.set_cons_zero]
    refine reg_take 29 180 6 #[true, true, true, true, true, true, true, true, true, true, true, true, true, true, true, true, true, true, true, true, true, true, true, true, true, true, true, true, true, true, false, false, false, false, false, false] (by rfl) (v := ?_) rfl rfl (by kernel_rfl) (by kernel_rfl) (by kernel_rfl) (by kernel_rfl) (fun _ _ _ h => h) (by rfl) ?_ (Till.mk' ((S0.trans D8 (by simp)).trans D17 (by simp)) trivial) ?_
    rotate_left
    · intro W hS; go_simp; all_goals with_reducible rfl
    try simp only [List.setIfInBounds_toArray, List.set_cons_succ, List.set_cons_zero]
    refine reg_take 30 181 5 #[true, true, true, true, true, true, true, true, true, true, true, true, true, true, true, true, true, true, true, true, true, true, true, true, true, true, true, true, true, true, true, false, false, false, false, false] (by rfl) (v := ?_) rfl rfl (by kernel_rfl) (by kernel_rfl) (by kernel_rfl) (by kernel_rfl) (fun _ _ _ h => h) (by rfl) ?_ (Till.mk' ((S0.trans D8 (by simp)).trans D17 (by simp)) trivial) ?_
    rotate_left
    · intro W hS; go_simp; all_goals with_reducible rfl
    try simp only [List.setIfInBounds_toArray, List.set_cons_succ, List.set_cons_zero]
    refine reg_take 31 182 4 #[true, true, true, true, true, true, true, true, true, true, true, true, true, true, true, true, true, true, true, true, true, true, true, true, true, true, true, true, true, true, true, true, false, false, false, false] (by rfl) (v := ?_) rfl rfl (by kernel_rfl) (by kernel_rfl) (by kernel_rfl) (by kernel_rfl) (fun _ _ _ h => h) (by rfl) ?_ (Till.mk' ((S0.trans D8 (by simp)).trans D17 (by simp)) trivial) ?_
    rotate_left
    · intro W hS; go_simp; all_goals with_reducible rfl
    try simp only [List.setIfInBounds_toArray, List.set_cons_succ, List.set_cons_zero]
    refine reg_one 32 3 #[true, true, true, true, true, true, true, true, true, true, true, true, true, true, true, true, true, true, true, true, true, true, true, true, true, true, true, true, true, true, true, true, true, false, false, false] (by kernel_rfl) rfl (by rfl) (by kernel_rfl) (fun K hK => ?_)
    go_simp
    refine (Check_any r x HX.out.1 HX.out.2.1 i n (P.take (m - 1)) (m - 1) HL.out.2 (by have := HPM.out; omega) A5 c5 Y.heap.size X17 (HH.out.2.2.2.1.turns ((S0.trans D8 (by simp)).trans D17 (by simp)) HBP.out (by simp)) (Nat.le_trans HBP.out ((S0.trans D8 (by simp)).trans D17 (by simp)).size)).mono ?_
    rintro e X32 ⟨rfl, D32⟩
    rw [HCS'.out]
    refine hK _ _ (Till.mk' (((S0.trans D8 (by simp)).trans D17 (by simp)).trans D32 (by simp)) trivial) ?_
    clear hK K
    try simp only [List.setIfInBounds_toArray, List.set_cons_succ, List.set_cons_zero]
    refine reg_take 33 184 2 #[true, true, true, true, true, true, true, true, true, true, true, true, true, true, true, true, true, true, true, true, true, true, true, true, true, true, true, true, true, true, true, true, true, true, false, false] (by rfl) (v := ?_) rfl rfl (by kernel_rfl) (by kernel_rfl) (by kernel_rfl) (by kernel_rfl) (fun _ _ _ h => h) (by rfl) ?_ (Till.mk' (((S0.trans D8 (by simp)).trans D17 (by simp)).trans D32 (by simp)) trivial) ?_
    rotate_left
    · intro W hS; go_simp; all_goals with_reducible rfl
    try simp only [List.setIfInBounds_toArray, List.set_cons_succ, List.set_cons_zero]
    refine reg_take 34 185 1 #[true, true, true, true, true, true, true, true, true, true, true, true, true, true, true, true, true, true, true, true, true, true, true, true, true, true, true, true, true, true, true, true, true, true, true, false] (by rfl) (v := ?_) rfl rfl (by kernel_rfl) (by kernel_rfl) (by kernel_rfl) (by kernel_rfl) (fun _ _ _ h => h) (by rfl) ?_ (Till.mk' (((S0.trans D8 (by simp)).trans D17 (by simp)).trans D32 (by simp)) trivial) ?_
    rotate_left
    · intro W hS; go_simp; all_goals with_reducible rfl
    try simp only [List.setIfInBounds_toArray, List.set_cons_succ, List.set_cons_zero]
    refine reg_take 35 8 0 #[true, true, true, true, true, true, true, true, true, true, true, true, true, true, true, true, true, true, true, true, true, true, true, true, true, true, true, true, true, true, true, true, true, true, true, true] (by rfl) (v := ?_) rfl rfl (by kernel_rfl) (by kernel_rfl) (by kernel_rfl) (by kernel_rfl) (fun _ _ _ h => h) (by rfl) ?_ (Till.mk' (((S0.trans D8 (by simp)).trans D17 (by simp)).trans D32 (by simp)) trivial) ?_
    rotate_left
    · intro W hS; go_simp; all_goals with_reducible rfl
    try simp only [List.setIfInBounds_toArray, List.set_cons_succ, List.set_cons_zero]
    refine reg_done (by kernel_rfl) ?_ _
    have T16 : Turns [] E X32 := (((S0.trans D8 (by simp)).trans D17 (by simp)).trans D32 (by simp))
    go_wp2_with fail
    go_ret
    exact ⟨rfl, below_of (((HT1.out.trans M3.out.turns (by simp)).trans HF.out.2.2.2.2.1 (by simp)).trans (HH.out.2.2.2.2.trans T16 (by simp)) (by simp))⟩
end Go.Proofs.Ytnjnealphbcamaa
