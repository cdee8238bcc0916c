/- What is laid behind. A sum is made: all pieces, then its bytes. sha.hasher.sum, walked. sha.Sum, walked. -/
import Derived.Test.YtoahnhphfabajaaGreatGS4
import Derived.Test.YtoahnhphfabajaaGreatGA
import Derived.Test.YtoahnhphfabajaaGreatGB
namespace Go.Proofs.YtoahnhphfabajaaGreat
set_option maxRecDepth 10000
open Go.RowKit
set_option linter.unusedVariables false
set_option maxRecDepth 10000
set_option linter.unusedSimpArgs false
set_option linter.unnecessarySimpa false

theorem Mine.len {W0 w : World} {v : Value} {bs : List UInt8} (h : Mine W0 w v bs) : ∃ A c, v = .slice A bs.length c ∧ bs.length ≤ c := by
  obtain ⟨_, A, c, rfl, h1, _⟩ := h.sl
  exact ⟨A, c, rfl, h1⟩
/-- The padding so far: noughts till the length is 56 over a piece. -/
def padK (b : List UInt8) (k : Nat) : List UInt8 := b ++ [128] ++ List.replicate k 0
theorem padK_len (b : List UInt8) (k : Nat) : (padK b k).length = b.length + 1 + k := by simp [padK]; omega
theorem padK_step (b : List UInt8) (k : Nat) : padK b (k + 1) = padK b k ++ [0] := by unfold padK; rw [List.replicate_succ', ← List.append_assoc]
def beTo (n k : Nat) : List UInt8 := (List.range k).map fun i => UInt8.ofNat (n / 2 ^ (56 - 8 * i))
theorem beTo_step (n k : Nat) : beTo n (k + 1) = beTo n k ++ [UInt8.ofNat (n / 2 ^ (56 - 8 * k))] := by unfold beTo; rw [List.range_succ]; simp
theorem beTo_len (n k : Nat) : (beTo n k).length = k := by simp [beTo]
theorem padded_eq (b : List UInt8) : padded b = padK b (padZ b.length) ++ beTo (b.length * 8) 8 := rfl

/-- A row of one's own; what has turned since W0: the blocks of L, and what is new. -/
structure MineL (L : List Nat) (W0 w : World) (v : Value) (bs : List UInt8) : Prop where
  own : w.ownsRow 0 5 1 v bs.length (bvs bs)
  turns : Turns L W0 w
  lies : ∀ k, v.ownBlock = some k → k ∈ L ∨ W0.heap.size ≤ k
theorem MineL.of {W0 w : World} {v : Value} {bs : List UInt8} (h : Mine W0 w v bs) : MineL v.ownBlock.toList w w v bs := ⟨own_more h.own (Nat.zero_le _), Turns.refl _ _, by intro k hk; exact .inl (by simp [hk])⟩
theorem own_up {w : World} {base n : Nat} {e : TypeId} {v : Value} {xs : List Value} (h : w.ownsRow 0 e 1 v n xs) (hb : ∀ k, v.ownBlock = some k → base ≤ k) : w.ownsRow base e 1 v n xs := by
  refine ⟨h.1, ?_⟩
  rcases h.2 with h2 | ⟨g, cap, cur, hv, hg, r⟩
  · exact Or.inl h2
  · exact Or.inr ⟨g, cap, cur, hv, hb g (by rw [hv]; rfl), r⟩
theorem MineL.mine {W0 w w' : World} {v v' : Value} {bs cs : List UInt8} (m : Mine W0 w v bs) (h : MineL v.ownBlock.toList w w' v' cs) : Mine W0 w' v' cs :=
  ⟨own_up h.own (by intro k hk; rcases h.lies k hk with h1 | h1; exact (m.own.lt k (by simpa using h1)).1; exact Nat.le_trans m.turns.size h1), m.turns.trans h.turns (by intro x hx; exact .inr (m.own.lt x (by simpa using hx)).1)⟩
theorem MineL.len {L : List Nat} {W0 w : World} {v : Value} {bs : List UInt8} (h : MineL L W0 w v bs) : ∃ A c, v = .slice A bs.length c ∧ bs.length ≤ c := by
  obtain ⟨_, A, c, rfl, h1, _⟩ := Sl.of_own h.own
  exact ⟨A, c, rfl, h1⟩
theorem MineL.alloc {L : List Nat} {W0 w : World} {v : Value} {bs : List UInt8} (h : MineL L W0 w v bs) (o : Obj) : MineL L W0 (w.alloc o) v bs := ⟨h.own.alloc o, h.turns.alloc o, h.lies⟩
theorem mineL_apd {L : List Nat} {W0 w w' : World} {v v' : Value} {n m : Nat} {bs cs : List UInt8} (h : MineL L W0 w v bs) (ap : Apd 0 5 1 w v n (bvs bs) w' v' m (bvs cs)) : MineL L W0 w' v' cs := by
  have hl := ap.own.1
  rw [bvs_length, Nat.mul_one] at hl
  subst hl
  refine ⟨ap.own, ?_, ?_⟩
  · exact h.turns.trans (L' := v.ownBlock.toList) (Turns.of_grown ap.grown (by intro k hk; exact .inl (by simpa using hk))) (by intro x hx; exact h.lies x (by simpa using hx))
  · intro k hk
    rcases ap.lies with e | ⟨g, hg, hge⟩
    · exact h.lies k (by rw [← e]; exact hk)
    · rw [hg] at hk; injection hk with hk; subst hk; exact .inr (Nat.le_trans h.turns.size hge)
/-- One byte more, out of a literal. -/
theorem mine_push {L : List Nat} {W0 w : World} {v : Value} {bs : List UInt8} (h : MineL L W0 w v bs) (hm : bs.length ≤ 2000000000) (x : UInt8) (u : Value) (hu : u = u8v x) (ty : TypeId) :
    ∃ v' w', (Builtin.append_ #[129, 129] ty #[v, .slice (some ⟨w.heap.size, 0, none⟩) 1 1]).run Tryz.prog (w.alloc (.cells #[u] 5)) = .ok v' w' ∧ MineL L W0 w' v' (bs ++ [x]) := by
  subst hu
  obtain ⟨v1, w1, hr1, ap1⟩ := run_append_rd (P := Tryz.prog) _ T8 ty (h.own.alloc (.cells #[u8v x] 5)) (Sl.new w #[u8v x] 5 1 1 rfl (by simp [maxLen])) (by intro u hu; simp at hu; subst hu; rfl) (by simp only [maxLen]; omega) (by omega) (by simp)
  refine ⟨v1, w1, hr1, ?_⟩
  have h' := h.alloc (.cells #[u8v x] 5)
  have e : bvs bs ++ [u8v x] = bvs (bs ++ [x]) := by rw [bvs_append]; rfl
  have ap2 := ap1
  rw [show bvs bs ++ (#[u8v x] : Array Value).toList = bvs (bs ++ [x]) from e] at ap2
  exact mineL_apd h' ap2
def vlen : Value → Nat
  | .slice _ n _ => n
  | _ => 0
theorem be_val (n j : Nat) (hn : n < 18446744073709551616) : Value.int .u8 (IntKind.u8.wrap ((n : Int) / 2 ^ (56 - 8 * j))) = u8v (UInt8.ofNat (n / 2 ^ (56 - 8 * j))) := by
  unfold u8v
  rw [IntKind.wrap_u8, UInt8.toNat_ofNat']
  congr 1
theorem padZ_lt (n : Nat) : padZ n < 64 := by unfold padZ; omega
theorem padZ_spec (n k : Nat) (hk : k ≤ padZ n) : (n + 1 + k) % 64 = 56 ↔ k = padZ n := by
  unfold padZ at *
  omega

set_option maxRecDepth 100000 in
set_option maxHeartbeats 2000000 in
theorem padded_any {L : List Nat} {W0 w : World} {v : Value} {b : List UInt8} (h : MineL L W0 w v b) (hm : b.length ≤ 1000000000) :
    Calls Tryz.prog 105 #[v] w fun e w' => ∃ v', e = .returned v' ∧ MineL L W0 w' v' (padded b) := by
  obtain ⟨res, hres⟩ : ∃ r, r = padded b := ⟨_, rfl⟩
  rw [← hres]
  have HRES := Lib.hid hres
  clear hres
  obtain ⟨A, c, rfl, hc⟩ := h.len
  obtain ⟨v1, w1, hr1, m1⟩ := mine_push h (by omega) 128 (.int .u8 128) rfl 129
  have M1 := Lib.hid m1
  have hb8 : IntKind.u64.wrap (b.length : Int) = (b.length : Int) := by rw [IntKind.wrap_u64]; omega
  have hb88 : IntKind.u64.wrap ((b.length : Int) * 8) = (b.length : Int) * 8 := by rw [IntKind.wrap_u64]; omega
  clear m1 h
  go_enter Tryz.func105, Tryz.ntmps105
  go_wp2_with (at_builtin; refine wpList_append_at rfl (.tmp 9) (.tmp 10) rfl hr1 rfl rfl ?_)
  clear hr1
  have hpz := padZ_lt b.length
  go_loopw [0] (fun v wr => ∃ (k : Nat) (A : Option Addr) (c : Nat), k ≤ padZ b.length ∧ v = .slice A (b.length + 1 + k) c ∧ MineL L W0 wr (.slice A (b.length + 1 + k) c) (padK b k)) (fun v _ => b.length + 100 - vlen v)
  case atStart =>
    have m1 := M1.out
    obtain ⟨A1, c1, rfl, _⟩ := m1.len
    exact ⟨0, A1, c1, by omega, by simp, by simpa [padK] using m1⟩
  case round =>
    clear M1
    obtain ⟨k, A1, c1, hk, rfl, mk⟩ := hrel
    have hsp := padZ_spec b.length k hk
    by_cases hkz : k = padZ b.length
    · have h56 : ((b.length + 1 + k : Nat) : Int) % 64 = 56 := by have := hsp.2 hkz; omega
      clear hsp
      obtain ⟨pz, hpz2⟩ : ∃ pz, pz = padZ b.length := ⟨_, rfl⟩
      rw [← hpz2] at hkz hk hpz
      subst hkz
      have hx : ((((b.length : Int) + 1 + (k : Int)) % 64) != 56) = false := by simp; omega
      have MK := Lib.hid mk
      have hpe := Lib.hid (show padK b k ++ beTo (b.length * 8) 8 = padded b by rw [hpz2]; rfl)
      clear mk hpz2 h56
      go_wp2_with fail
      go_loopw [0, 19] (fun v i wr => ∃ j : Nat, j ≤ 8 ∧ i = .int .i64 j ∧ MineL L W0 wr v (padK b k ++ beTo (b.length * 8) j)) (fun _ i _ => 8 - (intOf i).toNat)
      case atStart => exact ⟨0, by omega, rfl, by simpa [beTo] using MK.out⟩
      case round =>
        clear MK
        obtain ⟨j, hj, rfl, mj⟩ := hrel
        by_cases hlt : j < 8
        · have hji : (j : Int) < 8 := by omega
          have hval := be_val (b.length * 8) j (by omega)
          obtain ⟨v2, w2, hr2, m2⟩ := mine_push mj (by rw [List.length_append, padK_len, beTo_len]; omega) (UInt8.ofNat (b.length * 8 / 2 ^ (56 - 8 * j))) _ hval 129
          rw [List.append_assoc, ← beTo_step] at m2
          have M2 := Lib.hid m2
          have e0 : 0 ≤ 56 - 8 * (j : Int) := by omega
          have e1 : min (56 - 8 * (j : Int)).toNat 64 = 56 - 8 * j := by omega
          have w0 : IntKind.i64.wrap (8 * (j : Int)) = 8 * (j : Int) := IntWalk.i64_in _ (by omega)
          have w1 : IntKind.i64.wrap (56 - 8 * (j : Int)) = 56 - 8 * (j : Int) := IntWalk.i64_in _ (by omega)
          clear m2 mj hval
          go_wp2_with (at_builtin; refine wpList_append_at rfl (.tmp 22) (.tmp 29) rfl hr2 rfl rfl ?_)
          clear hr2
          go_roundw
          case rel => exact ⟨j + 1, by omega, by go_num, M2.out⟩
          case measure => (simp [intOf] <;> omega)
        · obtain rfl : j = 8 := by omega
          rw [hpe.out] at mj
          have M := Lib.hid mj
          clear mj
          go_wp2_with fail
          go_ret
          exact ⟨_, rfl, by rw [HRES.out]; exact M.out⟩
    · have h56 : ¬ ((b.length + 1 + k : Nat) : Int) % 64 = 56 := by have := fun h => hkz (hsp.1 h); omega
      obtain ⟨v2, w2, hr2, m2⟩ := mine_push mk (by rw [padK_len]; omega) 0 (.int .u8 0) rfl 129
      rw [← padK_step] at m2
      obtain ⟨A2, c2, rfl, _⟩ := m2.len
      rw [padK_len] at m2 hr2
      have M2 := Lib.hid m2
      have hx : (((b.length : Int) + 1 + (k : Int)) % 64 != 56) = true := by simp; omega
      clear m2 mk hsp
      go_wp2_with (at_builtin; refine wpList_append_at rfl (.tmp 16) (.tmp 17) rfl hr2 rfl rfl ?_)
      clear hr2
      go_roundw
      case rel => exact ⟨k + 1, A2, c2, by omega, rfl, M2.out⟩
      case measure => (simp [vlen] <;> omega)
end Go.Proofs.YtoahnhphfabajaaGreat
namespace Go.Proofs.YtoahnhphfabajaaGreat
set_option maxRecDepth 10000
open Go.RowKit
set_option linter.unusedVariables false
set_option linter.unusedSimpArgs false
set_option linter.unnecessarySimpa false

/-- The state behind k pieces. -/
def stP (d : List UInt8) : Nat → List UInt32
  | 0 => shaH
  | k + 1 => take1 (stP d k) ((d.drop (64 * k)).take 64)
theorem take1_len (s : List UInt32) (b : List UInt8) : (take1 s b).length = 8 := by simp [take1, addL]
theorem stP_len (d : List UInt8) : ∀ k, (stP d k).length = 8
  | 0 => rfl
  | k + 1 => take1_len _ _
theorem pieces_st (d : List UInt8) : ∀ (m k : Nat), pieces (stP d k) m (d.drop (64 * k)) = stP d (k + m)
  | 0, k => rfl
  | m + 1, k => by
    rw [pieces, List.drop_drop]
    have := pieces_st d m (k + 1)
    rw [show 64 * (k + 1) = 64 * k + 64 by omega, stP] at this
    rw [this]
    congr 1
    omega
theorem sha_st (b : List UInt8) : sha b = outSha (stP (padded b) ((padded b).length / 64)) := by
  unfold sha
  have := pieces_st (padded b) ((padded b).length / 64) 0
  simp only [Nat.mul_zero, List.drop_zero, Nat.zero_add] at this
  have e : stP (padded b) 0 = shaH := rfl
  rw [e] at this
  rw [this]
/-- The first k bytes of a sum, laid over l. -/
def outTo (s : List UInt32) : Nat → List UInt8 → List UInt8
  | 0, l => l
  | k + 1, l => (outTo s k l).set k (UInt8.ofNat ((s.getD (k / 4) 0).toNat / 2 ^ (24 - 8 * (k % 4))))
theorem outTo_len (s : List UInt32) : ∀ (k : Nat) (l : List UInt8), (outTo s k l).length = l.length
  | 0, _ => rfl
  | k + 1, l => by rw [outTo, List.length_set, outTo_len s k l]
theorem outTo_get (s : List UInt32) (l : List UInt8) : ∀ k, k ≤ l.length → ∀ j, j < k → (outTo s k l)[j]? = some (UInt8.ofNat ((s.getD (j / 4) 0).toNat / 2 ^ (24 - 8 * (j % 4))))
  | 0, _, j, hj => by omega
  | k + 1, hk, j, hj => by
    rw [outTo]
    by_cases e : j = k
    · subst e
      rw [List.getElem?_set_self (by rw [outTo_len]; omega)]
    · rw [List.getElem?_set_ne (by omega)]
      exact outTo_get s l k (by omega) j (by omega)
theorem outTo_all (s : List UInt32) (l : List UInt8) (h : l.length = 32) : outTo s 32 l = outSha s := by
  apply List.ext_getElem?
  intro i
  by_cases hi : i < 32
  · rw [outTo_get s l 32 (by omega) i hi]
    simp [outSha, hi]
  · rw [List.getElem?_eq_none (by rw [outTo_len]; omega), List.getElem?_eq_none (by rw [outSha_len]; omega)]
end Go.Proofs.YtoahnhphfabajaaGreat
namespace Go.Proofs.YtoahnhphfabajaaGreat
set_option maxRecDepth 10000
open Go.RowKit
set_option linter.unusedVariables false
set_option linter.unusedSimpArgs false
set_option linter.unnecessarySimpa false

theorem u8_val (n k : Nat) : Value.int .u8 (IntKind.u8.wrap ((n : Int) / 2 ^ k)) = u8v (UInt8.ofNat (n / 2 ^ k)) := by
  unfold u8v
  rw [IntKind.wrap_u8, UInt8.toNat_ofNat']
  congr 1
theorem set_h (v o1 o2 o3 : Value) (l : List UInt8) (j : Nat) (x : UInt8) : ([v, o1, o2, o3] ++ bvs l).set (4 + j) (u8v x) = [v, o1, o2, o3] ++ bvs (l.set j x) := by
  rw [List.set_append_right _ _ (by simp)]
  simp [bvs, List.map_set, Nat.add_sub_cancel_left]
section
variable {P : Program} {o : Oper} {a : Act} {w : World} {K : Act → World → Prop} {Q : Exit → Act → World → Prop}
/-- A whole array into its block, in a region that draws its order. -/
theorem wp_store_blk (ty : TypeId) (x y : Operand) (ho : o.op = .store ty x y) (g : Nat) (hx : a.eval x = .pointer (some ⟨g, 0, none⟩)) (cs old : List Value) (t : TypeId) (hy : a.eval y = .agg cs.toArray) (hb : Blk w g old t)
    (hl : old.length = cs.length) (hi : (P.info? ty).map (·.size) = some cs.length) (h1 : ∀ u ∈ cs, u.oneCell' = true)
    (h : ∀ w', Blk w' g cs t → Turns [g] w w' → K (a.put o.dst undef) w') : o.wp P a w K Q := by
  refine wp_store_mid ty x y ho g 0 cs.toArray hx hy (by simpa [hl] using hb.there 0 cs.length (by omega)) (by simpa using hi) (all_oneCell_toArray h1) ?_
  have hb' := hb.setCells cs 0
  rw [spl_whole _ _ hl] at hb'
  exact h _ (by simpa using hb') (by simpa using Turns.setCells (L := [g]) (a := w) (b := g) (.inl (by simp)) cs 0 (Turns.refl [g] w))
end
theorem rangeT {L : List Nat} {a w : World} (h : Turns L a w) {b o : Nat} {cs : List Value} (r : a.rangeAt b o cs) (hb : b ∉ L) : w.rangeAt b o cs := fun j v hv => cellL h (r j v hv) hb

set_option maxRecDepth 100000 in
set_option maxHeartbeats 4000000 in
theorem sum_any {W0 w : World} {v : Value} {b : List UInt8} (g : Nat) (o1 o2 o3 : Value) (hb : List UInt8) (h : Mine W0 w v b) (hm : b.length ≤ 1000000000) (hg : Blk w g ([v, o1, o2, o3] ++ bvs hb) 159) (hl : hb.length = 32) (hgW : W0.heap.size ≤ g) (hvg : v.ownBlock ≠ some g) :
    Calls Tryz.prog 85 #[.pointer (some ⟨g, 0, none⟩)] w fun e w' => e = .returned (.tuple #[]) ∧ Blk w' g ([v, o1, o2, o3] ++ bvs (sha b)) 159 ∧ Turns [] W0 w' := by
  obtain ⟨res, hres⟩ : ∃ r, r = sha b := ⟨_, rfl⟩
  rw [← hres]
  have HRES := Lib.hid hres
  have BG := Lib.hid (begun_any w)
  have H0 := Lib.hid (And.intro h hg)
  have hz8 := zero_w8
  have hkl := shaH_len
  have hzl := zerosW_len 8
  generalize hzz : u32s (zerosW 8) = zz at hz8 hzl
  generalize hss : u32s shaH = ss at BG hkl
  have hs1 : ∀ u ∈ ss, u.oneCell' = true := by rw [← hss]; exact u32s_one _
  have HS := Lib.hid hss
  have Q_s1 := Lib.hid hs1
  have Q_len := Lib.hid (show zz.length = ss.length by rw [hkl, hzl])
  have Q_sz := Lib.hid (show (Tryz.prog.info? 175).map (·.size) = some ss.length by rw [size_w8, hkl])
  have HL := Lib.hid (And.intro hl hvg)
  clear hres h hg hkl hzl hzz hss hs1 hl hvg
  go_enter Tryz.func85, Tryz.ntmps85
  go_wp2_with fail
  refine BG.out.mono ?_
  rintro e x1 ⟨rfl, t1⟩
  have hg1 := H0.out.2.turns t1 (by simp)
  have m1 := H0.out.1.on t1
  have b2 := Blk.new x1 zz 175
  have ta : Turns [] x1 (x1.alloc (.cells zz.toArray 175)) := (Turns.refl _ _).alloc _
  have Q_b2 := Lib.hid b2
  have H1 := Lib.hid (And.intro m1 (And.intro hg1 (And.intro ta t1)))
  clear t1 hg1 m1 b2 ta BG
  go_upto_region 1 with (first
    | (refine wpList_alloc_arr rfl 175 rfl zz.toArray hz8 ?_)
    | (refine wpList_store_blk rfl 175 (.tmp 2) (.tmp 5) rfl x1.heap.size (by kernel_rfl) ss zz 175 (by kernel_rfl) Q_b2.out Q_len.out Q_sz.out Q_s1.out (fun y1 hb1 ht1 hs1 => ?_); have HQ := Lib.hid (And.intro hb1 ht1); clear hb1 ht1 hs1)
    | fail)
  simp only [Act.put, List.setIfInBounds_toArray, List.set_cons_succ, List.set_cons_zero]
  have tx := H1.out.2.2.1.trans HQ.out.2 (by intro x hx; simp at hx; subst hx; exact .inr (Nat.le_refl _))
  have hg2 := H1.out.2.1.turns tx (by simp)
  have m2 := H1.out.1.on tx
  have hgx := H1.out.2.1.lt
  have hvx : ∀ k, v.ownBlock = some k → k < x1.heap.size := fun k hk => (H1.out.1.own.lt k (by simpa using hk)).2
  have hW0x := H1.out.1.turns.size
  obtain ⟨p2, hp2⟩ : ∃ p, p = x1.heap.size := ⟨_, rfl⟩
  rw [← hp2] at hgx hvx hW0x HQ ⊢
  have bp := HQ.out.1
  have c0 := hg2.cell 0
  simp only [List.cons_append, List.getElem?_cons_zero] at c0
  have PD := Lib.hid (padded_any (MineL.of m2) hm)
  have M2 := Lib.hid m2
  have HG2 := Lib.hid (And.intro hg2 bp)
  have HV := Lib.hid (And.intro hvx (And.intro hgx hW0x))
  have HM := Lib.hid hm
  clear H0 H1 hp2 hz8 HQ tx hg2 m2 hgx hvx hW0x bp hm
  go_wp2_with fail
  refine PD.out.mono ?_
  rintro e x2 ⟨v', rfl, m3'⟩
  have hg3 := HG2.out.1.turns m3'.turns (by have := HL.out.2; intro hh; exact this (by simpa using hh))
  have b3 := HG2.out.2.turns m3'.turns (by intro hh; have := HV.out.1 p2 (by simpa using hh); omega)
  have m3 := MineL.mine M2.out m3'
  have hdl := padded_len b
  have hst := sha_st b
  have HD0 : (padded b).length ≤ 2000000000 := by
    rw [padded_eq, List.length_append, padK_len, beTo_len]
    have := padZ_lt b.length
    have := HM.out
    omega
  obtain ⟨d, hd⟩ : ∃ d, d = padded b := ⟨_, rfl⟩
  rw [← hd] at m3 hdl hst HD0
  have HD := Lib.hid (And.intro hdl hst)
  obtain ⟨A, c, rfl, hc⟩ := m3.len
  have s3 := m3.sl
  have hgp : g < p2 := HV.out.2.1
  have hx2 := b3.lt
  have hAp : ∀ x, A = some x → x.block ≠ p2 := by
    intro x hx hh
    subst hx
    rcases m3'.lies x.block rfl with h1 | h1
    · have := HV.out.1 _ (by simpa using h1); omega
    · have := HG2.out.2.lt; omega
  have H3 := Lib.hid (And.intro hg3 (And.intro b3 (And.intro s3 (And.intro m3.turns hAp))))
  clear PD M2 HG2 hAp hg3 b3 m3 m3' hd hdl hst s3 c0
  go_wp2_with fail
  go_loopw [3] (fun u wr => ∃ (k n : Nat) (A : Option Addr) (c : Nat), n + 64 * k = d.length ∧ u = .slice A n c ∧ Sl wr x2.heap.size 1 (.slice A n c) n (bvs (d.drop (64 * k))) ∧ Blk wr p2 (u32s (stP d k)) 175 ∧ Blk wr g ([v, o1, o2, o3] ++ bvs hb) 159 ∧ Turns [p2] x2 wr ∧ (∀ x, A = some x → x.block ≠ p2)) (fun u _ => vlen u)
  case atStart => exact ⟨0, d.length, A, c, by omega, rfl, by simpa using H3.out.2.2.1, by rw [show stP d 0 = shaH from rfl, HS.out]; exact H3.out.2.1, H3.out.1, Turns.refl _ _, H3.out.2.2.2.2⟩
  case round =>
    have H3W := Lib.hid H3.out.2.2.2.1
    clear H3
    obtain ⟨k, n, A1, c1, hn, rfl, s4, b4, g4, t4, a4⟩ := hrel
    have HA4 := Lib.hid a4
    clear a4
    have hd64 := HD.out.1
    by_cases hlt : 0 < n
    · have hn64 : 64 ≤ n := by omega
      obtain ⟨A', c', hv', hnc, hcm, _, _⟩ := s4.form
      injection hv' with e1 e2 e3
      subst e1 e3
      have hT : Turns [] wr wr.drew := (Turns.refl _ _).drew
      have hle := t4.size
      have S5 : Sl wr.drew x2.heap.size 1 (.slice A1 64 c1) 64 (bvs ((d.drop (64 * k)).take 64)) := by
        rw [← bvs_take]; exact (s4.to hn64).drew
      have AD := addF_any (stP d k) (stP_len d k) A1 64 c1 _ x2.heap.size wr.drew S5 hle (Nat.le_refl _)
      have hul : (u32s (stP d k)).length = 8 := by rw [u32s_length, stP_len]
      have hul' : (u32s (stP d (k + 1))).length = 8 := by rw [u32s_length, stP_len]
      have h1' := u32s_one (stP d (k + 1))
      rw [show take1 (stP d k) ((d.drop (64 * k)).take 64) = stP d (k + 1) from rfl] at AD
      generalize hus : u32s (stP d k) = us at AD b4 hul
      generalize hus' : u32s (stP d (k + 1)) = us' at AD hul' h1'
      have r4 := b4.range 0 8
      rw [List.drop_zero, List.take_of_length_le (by omega)] at r4
      have HT4 := Lib.hid (And.intro b4 g4)
      have TT4 := Lib.hid t4
      have S4 := Lib.hid s4
      have hsz : (Tryz.prog.info? 175).map (·.size) = some us.length := by rw [size_w8, hul]
      have HSZ := Lib.hid hsz
      have HSZ' := Lib.hid (show (Tryz.prog.info? 175).map (·.size) = some us'.length by rw [size_w8, hul'])
      have R4 := Lib.hid r4
      have HUL := Lib.hid (show us.length = us'.length by rw [hul, hul'])
      have AH := Lib.hid AD
      have H1' := Lib.hid h1'
      have HUS := Lib.hid hus'
      have hc64 : (64 : Int) ≤ (c1 : Int) := by omega
      have hn64i : (64 : Int) ≤ (n : Int) := by omega
      have hn0 : (0 : Int) < (n : Int) := by omega
      clear b4 g4 t4 s4 r4 hul hul' hd64 HD S5 AD h1' hsz hus hus'
      go_upto_region 4 with fail
      refine rk0 (fun _ => True) (fun W => Turns [] wr W) 4 5 ?_
      refine rkW 0 16 1 rfl (yieldsIf_load_mid (by rfl) _ _ rfl p2 0 (by rfl) _ _ (fun W hS => rangeT hS.2 R4.out (by simp)) Tryz.underlying175 rfl HSZ.out) (.mk' trivial hT) ?_
      try simp only [sI, sS, sZ]
      refine rkA 1 17 3 (v := ?_) ?_ (.mk' trivial hT) ?_
      rotate_left
      · intro W hS; go_simp; all_goals with_reducible rfl
      try simp only [sI, sS, sZ]
      refine rkA 2 18 7 (v := ?_) ?_ (.mk' trivial hT) ?_
      rotate_left
      · intro W hS; go_simp; all_goals with_reducible rfl
      try simp only [sI, sS, sZ]
      refine rk1 3 15 (fun K hK => ?_)
      go_simp
      refine AH.out.mono ?_
      rintro e w5 ⟨rfl, t5⟩
      refine hK _ _ (.mk' trivial (hT.trans t5 (by simp))) ?_
      clear hK K
      try simp only [sI, sS, sZ]
      refine rk1 4 31 (fun K hK => ?_)
      refine wp_store_blk 175 _ _ (by rfl) p2 (by rfl) us' us 175 (by rfl) ((HT4.out.1.turns hT (by simp)).turns t5 (by simp)) HUL.out HSZ'.out H1'.out (fun w6 hb6 ht6 => ?_)
      refine hK _ _ (.p trivial) ?_
      clear hK K
      try simp only [sI, sS, sZ]
      refine rkZ ?_
      have S6 : Sl wr x2.heap.size 1 (.slice (if c1 = 64 then A1 else A1.map fun x => (⟨x.block, x.off + 64, none⟩ : Addr)) (n - 64) (c1 - 64)) (n - 64) (bvs (d.drop (64 * (k + 1)))) := by
        have e : (bvs (d.drop (64 * k))).drop 64 = bvs (d.drop (64 * (k + 1))) := by rw [bvs_drop, List.drop_drop]; rfl
        rw [← e]
        by_cases h64 : c1 = 64
        · rw [if_pos h64]; exact S4.out.from_end hn64 h64
        · rw [if_neg h64]; exact S4.out.from_ hn64 h64
      have HS6 := Lib.hid S6
      have hx := HV.out.2.1
      have hA6 := Lib.hid (show (Value.slice (if c1 = 64 then A1 else A1.map fun x => (⟨x.block, x.off + 64, none⟩ : Addr)) (n - 64) (c1 - 64)).ownBlock ≠ some p2 by
        intro hh
        have ha := HA4.out
        cases A1 with
        | none => by_cases h64 : c1 = 64 <;> simp [h64, Value.ownBlock] at hh
        | some x => exact ha x rfl (by by_cases h64 : c1 = 64 <;> simpa [h64, Value.ownBlock] using hh))
      have HT6 : Turns [p2] wr w6 := ((hT.trans t5 (by simp)).mono (by simp)).trans ht6 (by simp)
      have H6 := Lib.hid (And.intro (HT6.slice HS6.out hle (by intro x hx hh; simp at hx; subst hx; exact hA6.out hh)) (And.intro hb6 (And.intro (HT4.out.2.turns HT6 (by simp; omega)) (TT4.out.trans HT6 (by simp)))))
      clear S6 HT6 t5 ht6 hb6 hT hx
      go_wp2_with fail
      go_roundw
      case rel => exact ⟨k + 1, n - 64, _, _, by omega, rfl, H6.out.1, by rw [HUS.out]; exact H6.out.2.1, H6.out.2.2.1, H6.out.2.2.2, by intro x hx hh; exact hA6.out (by simp [Value.ownBlock, hx, hh])⟩
      case measure => (simp [vlen] <;> omega)
    · obtain rfl : n = 0 := by omega
      have hk : d.length / 64 = k := by omega
      have hres : sha b = outSha (stP d k) := by rw [HD.out.2, hk]
      have hsl := stP_len d k
      obtain ⟨st, hst⟩ : ∃ st, st = stP d k := ⟨_, rfl⟩
      rw [← hst] at hres b4 hsl
      have HR := Lib.hid (And.intro hres hsl)
      have H4 := Lib.hid (And.intro b4 (And.intro g4 t4))
      have hx := HV.out.2.1
      clear hres b4 g4 t4 s4 hn hd64 hk hst hsl HD HA4
      go_wp2_with fail
      go_loopw [20] (fun i wr => ∃ j : Nat, j ≤ 32 ∧ i = .int .i64 j ∧ Blk wr p2 (u32s st) 175 ∧ Blk wr g ([v, o1, o2, o3] ++ bvs (outTo st j hb)) 159 ∧ Turns [g, p2] x2 wr) (fun i _ => 32 - (intOf i).toNat)
      case atStart => exact ⟨0, by omega, rfl, H4.out.1, H4.out.2.1, H4.out.2.2.mono (by simp)⟩
      case round =>
        clear H4
        obtain ⟨j, hj, rfl, b5, g5, t5⟩ := hrel
        by_cases hlt : j < 32
        · have hji : (j : Int) < 32 := by omega
          have hT : Turns [] wr wr.drew := (Turns.refl _ _).drew
          have cj := b5.cell (j / 4)
          rw [u32s_get st _ (by rw [HR.out.2]; omega)] at cj
          have q2 : (j : Int).tmod 4 = (j : Int) % 4 := Int.tmod_eq_emod_of_nonneg (by omega)
          have w0 : IntKind.i64.wrap ((j : Int) / 4) = (j : Int) / 4 := IntWalk.i64_in _ (by omega)
          have p0 : 0 ≤ (j : Int) / 4 := by omega
          have p8 : (j : Int) / 4 < 8 := by omega
          have tn : ((j : Int) / 4).toNat = j / 4 := by omega
          have w1 : IntKind.i64.wrap (8 * ((j : Int) % 4)) = 8 * ((j : Int) % 4) := IntWalk.i64_in _ (by omega)
          have w2 : IntKind.i64.wrap (24 - 8 * ((j : Int) % 4)) = 24 - 8 * ((j : Int) % 4) := IntWalk.i64_in _ (by omega)
          have w3 : 0 ≤ 24 - 8 * ((j : Int) % 4) := by omega
          have hol : (outTo st j hb).length = 32 := by rw [outTo_len]; exact HL.out.1
          have cg : wr.cell? ⟨g, 4 + j, none⟩ = some (u8v ((outTo st j hb).getD j 0)) := by
            rw [g5.cell]
            simp [List.getElem?_append, bvs, Nat.add_comm 4 j, List.getD, List.getElem?_eq_getElem (show j < (outTo st j hb).length by omega)]
          have fg := g5.free (4 + j)
          generalize u8v ((outTo st j hb).getD j 0) = cgv at cg
          obtain ⟨sj, hsj⟩ : ∃ sj, sj = st.getD (j / 4) 0 := ⟨_, rfl⟩
          rw [← hsj] at cj
          have SJ := Lib.hid hsj
          clear hsj
          have H5 := Lib.hid (And.intro b5 (And.intro g5 t5))
          clear b5 g5 t5 hol
          go_upto_region 8 with fail
          refine rk0 (fun _ => True) (fun W => Turns [] wr W) 15 16 ?_
          refine rkA 0 23 1 (v := ?_) ?_ (.mk' trivial hT) ?_
          rotate_left
          · intro W hS; go_simp; all_goals with_reducible rfl
          try simp only [sI, sS, sZ]
          refine rkA 1 24 3 (v := ?_) ?_ (.mk' trivial hT) ?_
          rotate_left
          · intro W hS; go_simp; all_goals with_reducible rfl
          try simp only [sI, sS, sZ]
          refine rkA 2 25 7 (v := ?_) ?_ (.mk' trivial hT) ?_
          rotate_left
          · intro W hS; go_simp; all_goals with_reducible rfl
          try simp only [sI, sS, sZ]
          refine rkA 3 26 15 (v := ?_) ?_ (.mk' trivial hT) ?_
          rotate_left
          · intro W hS; go_simp; all_goals with_reducible rfl
          try simp only [sI, sS, sZ]
          refine rkA 4 27 31 (v := ?_) ?_ (.mk' trivial hT) ?_
          rotate_left
          · intro W hS; go_simp; all_goals with_reducible rfl
          try simp only [sI, sS, sZ]
          refine rkT 5 28 63 (v := ?_) ?_ (.mk' trivial hT) ?_
          rotate_left
          · rintro W ⟨-, hS⟩; have c2 := cellL hS cj (by simp); go_simp; all_goals with_reducible rfl
          try simp only [sI, sS, sZ]
          refine rkA 6 29 127 (v := ?_) ?_ (.mk' trivial hT) ?_
          rotate_left
          · intro W hS; go_simp; all_goals with_reducible rfl
          try simp only [sI, sS, sZ]
          refine rkA 7 30 255 (v := ?_) ?_ (.mk' trivial hT) ?_
          rotate_left
          · intro W hS; go_simp; all_goals with_reducible rfl
          try simp only [sI, sS, sZ]
          refine rkA 8 31 511 (v := ?_) ?_ (.mk' trivial hT) ?_
          rotate_left
          · intro W hS; go_simp; all_goals with_reducible rfl
          try simp only [sI, sS, sZ]
          refine rkA 9 32 1023 (v := ?_) ?_ (.mk' trivial hT) ?_
          rotate_left
          · intro W hS; go_simp; all_goals with_reducible rfl
          try simp only [sI, sS, sZ]
          refine rkA 10 33 2047 (v := ?_) ?_ (.mk' trivial hT) ?_
          rotate_left
          · intro W hS; go_simp; all_goals with_reducible rfl
          try simp only [sI, sS, sZ]
          refine rkA 11 34 4095 (v := ?_) ?_ (.mk' trivial hT) ?_
          rotate_left
          · intro W hS; go_simp; all_goals with_reducible rfl
          try simp only [sI, sS, sZ]
          refine rkA 12 35 8191 (v := ?_) ?_ (.mk' trivial hT) ?_
          rotate_left
          · intro W hS; go_simp; all_goals with_reducible rfl
          try simp only [sI, sS, sZ]
          refine rkA 13 36 16383 (v := ?_) ?_ (.mk' trivial hT) ?_
          rotate_left
          · intro W hS; go_simp; all_goals with_reducible rfl
          try simp only [sI, sS, sZ]
          refine rkA 14 37 32767 (v := ?_) ?_ (.mk' trivial hT) ?_
          rotate_left
          · intro W hS; go_simp; all_goals with_reducible rfl
          try simp only [sI, sS, sZ]
          refine rk1 15 65535 (fun K hK => ?_)
          go_simp
          refine hK _ _ (.p trivial) ?_
          clear hK K
          try simp only [sI, sS, sZ]
          refine rkZ ?_
          have e24 : (24 - 8 * ((j : Int) % 4)).toNat = 24 - 8 * (j % 4) := by omega
          rw [e24, u8_val]
          have g6 := ((H5.out.2.1.set (4 + j) (u8v (UInt8.ofNat ((st.getD (j / 4) 0).toNat / 2 ^ (24 - 8 * (j % 4)))))).drew)
          rw [set_h, ← outTo] at g6
          have t6 := (((Turns.refl [g, p2] wr).setCell (p := ⟨g, 4 + j, none⟩) (.inl (by simp)) (u8v (UInt8.ofNat ((st.getD (j / 4) 0).toNat / 2 ^ (24 - 8 * (j % 4)))))).drew)
          have b6 := (H5.out.1.other (p := ⟨g, 4 + j, none⟩) (by simp; omega) (u8v (UInt8.ofNat ((st.getD (j / 4) 0).toNat / 2 ^ (24 - 8 * (j % 4)))))).drew
          rw [← SJ.out] at g6 t6 b6 
          have H6 := Lib.hid (And.intro b6 (And.intro g6 (H5.out.2.2.trans t6 (by simp))))
          clear b6 g6 t6 e24 hT
          go_wp2_with fail
          go_roundw
          case rel => exact ⟨j + 1, by omega, by go_num, H6.out⟩
          case measure => (simp [intOf] <;> omega)
        · obtain rfl : j = 32 := by omega
          rw [outTo_all _ _ HL.out.1, ← HR.out.1, ← HRES.out] at g5
          have H5 := Lib.hid (And.intro g5 t5)
          have H3X := H3W.out
          have hgW' := hgW
          clear b5 g5 t5
          go_wp2_with fail
          go_end0
          refine ⟨rfl, H5.out.1, H3X.trans H5.out.2 ?_⟩
          intro x hx
          have := HV.out.2.2
          simp at hx
          rcases hx with rfl | rfl <;> right <;> omega
end Go.Proofs.YtoahnhphfabajaaGreat
namespace Go.Proofs.YtoahnhphfabajaaGreat
set_option maxRecDepth 10000
open Go.RowKit
set_option linter.unusedVariables false
set_option linter.unusedSimpArgs false
set_option linter.unnecessarySimpa false

theorem zero_hash : (Tryz.prog.info? 53).bind (·.zero) = some (.agg (bvs (zeros 32)).toArray) := by kernel_rfl
theorem size_hash : (Tryz.prog.info? 53).map (·.size) = some 32 := by kernel_rfl
theorem zeros32_len : (bvs (zeros 32)).length = 32 := by rw [bvs_length, zeros_length]
/-- What the sum leaves. -/
def RSum (g : Nat) (v : Value) (x : List UInt8) (W0 w' : World) : Prop := Blk w' g ([v, .int .u32 0, .int .i32 1, .int .u32 0] ++ bvs x) 159 ∧ Turns [] W0 w'

set_option maxRecDepth 100000 in
set_option maxHeartbeats 2000000 in
theorem Sum_any (v : Value) (ls : List (Value × List UInt8)) (w : World) (hv : Sl w w.heap.size 1 v ls.length (ls.map (·.1)))
    (h : ∀ p ∈ ls, Sl w w.heap.size 1 p.1 p.2.length (bvs p.2)) (hn : (flat ls).length ≤ 1000000000) (hl : ls.length ≤ 1000000) :
    Calls Tryz.prog 57 #[v] w fun e w' => e = .returned (.agg (bvs (sha (flat ls))).toArray) ∧ Turns [] w w' := by
  obtain ⟨res, hres⟩ : ∃ r, r = bvs (sha (flat ls)) := ⟨_, rfl⟩
  rw [← hres]
  have HRES := Lib.hid hres
  have hz := zero_hash
  have hzl := zeros32_len
  have b0 := Blk.new w (bvs (zeros 32)) 53
  have t0 := (Turns.refl [] w).alloc (.cells (bvs (zeros 32)).toArray 53)
  generalize hzz : bvs (zeros 32) = zz at hz hzl b0 t0
  have HZ := Lib.hid hzz
  obtain ⟨w1, hw1⟩ : ∃ x, x = w.alloc (.cells zz.toArray 53) := ⟨_, rfl⟩
  have hs1 : w1.heap.size = w.heap.size + 1 := by rw [hw1]; simp
  have CC := Concat_any v ls w1 (by rw [hw1]; exact (hv.alloc (Nat.le_refl _) _).more (by simp)) (fun p hp => by rw [hw1]; exact ((h p hp).alloc (Nat.le_refl _) _).more (by simp)) (by omega) hl
  rw [← hw1] at b0 t0
  have HC := Lib.hid CC
  have H0 := Lib.hid (And.intro b0 t0)
  have HW := Lib.hid hw1
  have HN := Lib.hid hn
  have HS1 := Lib.hid hs1
  clear hres hzz CC hv h b0 t0 hw1 hl hs1 hn
  go_enter Tryz.func57, Tryz.ntmps57
  go_wp2_with (first
    | (refine wpList_alloc_arr rfl 53 rfl zz.toArray hz ?_)
    | fail)
  rw [← HW.out]
  refine HC.out.mono ?_
  rintro e w2 ⟨v2, rfl, own2, bel2⟩
  clear HC
  have m2 := mine_new (Turns.refl [] w1) own2 bel2
  obtain ⟨A, c, rfl, hc⟩ := m2.len
  have H2 := Lib.hid m2
  have hx := H0.out.1.lt
  have hx2 := m2.turns.size
  clear own2 bel2 hc m2
  have bh := Blk.new w2 ([Value.slice A (flat ls).length c, .int .u32 0, .int .i32 0, .int .u32 0] ++ bvs (zeros 32)) 159
  have th := (Turns.refl [] w2).alloc (.cells ([Value.slice A (flat ls).length c, .int .u32 0, .int .i32 0, .int .u32 0] ++ bvs (zeros 32)).toArray 159)
  have hlit : ([Value.slice A (flat ls).length c, .int .u32 0, .int .i32 0, .int .u32 0] ++ bvs (zeros 32)).toArray = #[Value.slice A (flat ls).length c, .int .u32 0, .int .i32 0, .int .u32 0, .int .u8 0, .int .u8 0, .int .u8 0, .int .u8 0, .int .u8 0, .int .u8 0, .int .u8 0, .int .u8 0, .int .u8 0, .int .u8 0, .int .u8 0, .int .u8 0, .int .u8 0, .int .u8 0, .int .u8 0, .int .u8 0, .int .u8 0, .int .u8 0, .int .u8 0, .int .u8 0, .int .u8 0, .int .u8 0, .int .u8 0, .int .u8 0, .int .u8 0, .int .u8 0, .int .u8 0, .int .u8 0, .int .u8 0, .int .u8 0, .int .u8 0, .int .u8 0] := rfl
  have HLIT := Lib.hid hlit
  clear hlit
  obtain ⟨g, hg⟩ : ∃ g, g = w2.heap.size := ⟨_, rfl⟩
  rw [← hg] at bh
  obtain ⟨w3, hw3⟩ : ∃ x, x = w2.alloc (.cells ([Value.slice A (flat ls).length c, .int .u32 0, .int .i32 0, .int .u32 0] ++ bvs (zeros 32)).toArray 159) := ⟨_, rfl⟩
  rw [← hw3] at bh th
  have t4 := ((Turns.refl [g] w3).setCell (p := ⟨g, 2, none⟩) (.inl (by simp)) (.int .i32 1))
  have b4 : Blk (w3.setCell ⟨g, 2, none⟩ (.int .i32 1)) g ([.slice A (flat ls).length c, .int .u32 0, .int .i32 1, .int .u32 0] ++ bvs (zeros 32)) 159 := bh.set 2 (.int .i32 1)
  have hAg : (Value.slice A (flat ls).length c).ownBlock ≠ some g := by
    intro hh
    have := H2.out.own.lt g (by rw [hh])
    omega
  have t24 : Turns [] w2 (w3.setCell ⟨g, 2, none⟩ (.int .i32 1)) := th.trans t4 (by intro x hx; simp at hx; subst hx; exact .inr (by omega))
  have SU := sum_any g (.int .u32 0) (.int .i32 1) (.int .u32 0) (zeros 32) (H2.out.on t24) HN.out b4 (zeros_length 32) (by omega) hAg
  have hF : Calls Tryz.prog 85 (#[] ++ #[.pointer (some ⟨g, 0, none⟩)]) (w3.setCell ⟨g, 2, none⟩ (.int .i32 1)) fun e w' => e = .returned (.tuple #[]) ∧ RSum g (.slice A (flat ls).length c) (sha (flat ls)) w1 w' ∧ Once.Held g 1 w' :=
    SU.mono fun e w' ⟨he, hb, ht⟩ => ⟨he, ⟨hb, ht⟩, ⟨⟨_, hb.cell 1⟩, hb.free 1, hb.cell 2, hb.free 2⟩⟩
  have DO := Lib.hid (Once.do_first g 1 85 #[.pointer (some ⟨g, 0, none⟩)] #[] (RSum g (.slice A (flat ls).length c) (sha (flat ls)) w1) w3 (fun W => by rfl) (bh.cell 1) (bh.cell 2) (bh.free 1) (bh.free 2) hF)
  have hg1 : w1.heap.size ≤ g := by omega
  have HG := Lib.hid hg
  have HW3 := Lib.hid hw3
  clear hg hw3 bh th t4 b4 hAg t24 SU hF
  go_wp2_with fail
  rw [← HLIT.out, ← HG.out, ← HW3.out]
  refine DO.out.mono ?_
  rintro e w5 ⟨rfl, w4, ⟨b4, t4⟩, rfl⟩
  have b5 := (b4.drew.set 1 (.int .u32 1)).set 2 (.int .i32 0)
  have t5 : Turns [] w1 ((w4.drew.setCell ⟨g, 1, none⟩ (.int .u32 1)).setCell ⟨g, 2, none⟩ (.int .i32 0)) := (t4.drew.setCell (p := ⟨g, 1, none⟩) (.inr hg1) _).setCell (p := ⟨g, 2, none⟩) (.inr hg1) _
  generalize (w4.drew.setCell ⟨g, 1, none⟩ (.int .u32 1)).setCell ⟨g, 2, none⟩ (.int .i32 0) = w5 at *
  have b2 := H0.out.1.turns t5 (by simp)
  have hsl := sha_len (flat ls)
  have r5 := b5.range 4 32
  have e5 : ((([Value.slice A (flat ls).length c, .int .u32 0, .int .i32 1, .int .u32 0] ++ bvs (sha (flat ls))).set 1 (.int .u32 1)).set 2 (.int .i32 0)).drop 4 = bvs (sha (flat ls)) := rfl
  rw [e5, List.take_of_length_le (by rw [bvs_length, hsl]; omega)] at r5
  have hrl : (bvs (sha (flat ls))).length = 32 := by rw [bvs_length, hsl]
  have h1 := bvs_one (sha (flat ls))
  rw [← HRES.out] at r5 hrl h1
  have R5 := Lib.hid r5
  have Q_b2 := Lib.hid b2
  have Q_l := Lib.hid (show zz.length = res.length by rw [hzl, hrl])
  have Q_sz := Lib.hid (show (Tryz.prog.info? 53).map (·.size) = some res.length by rw [size_hash, hrl])
  have Q_1 := Lib.hid h1
  have Q_t := Lib.hid t5
  clear b4 t4 b5 t5 b2 hsl r5 e5 hrl h1 DO
  go_wp2_with (first
    | (refine wpList_load_mid rfl 53 (.tmp 16) rfl g 4 rfl res _ R5.out Tryz.underlying53 rfl Q_sz.out ?_)
    | (refine wpList_store_blk rfl 53 (.tmp 2) (.tmp 17) rfl w.heap.size rfl res zz 53 rfl Q_b2.out Q_l.out Q_sz.out Q_1.out (fun w6 hb6 ht6 hs6 => ?_); have HQ := Lib.hid (And.intro hb6 ht6); clear hb6 ht6 hs6)
    | fail)
  refine bodyPost_ret (results_cell_row rfl _ _ w.heap.size _ _ _ _ rfl HQ.out.1 Tryz.underlying53 rfl (by rw [List.size_toArray]; exact Q_sz.out)) rfl ?_
  exact ⟨rfl, (H0.out.2.trans Q_t.out (by simp)).trans HQ.out.2 (by simp)⟩
end Go.Proofs.YtoahnhphfabajaaGreat
