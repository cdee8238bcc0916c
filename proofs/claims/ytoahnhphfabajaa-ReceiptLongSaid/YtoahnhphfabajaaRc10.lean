/- ReceiptLong, walked. -/
import Derived.Test.YtoahnhphfabajaaRc5
import Derived.Test.YtoahnhphfabajaaLdO
namespace Go.Proofs.Ytoahnhphfabajaa
open Go.RowKit
set_option linter.unusedVariables false
set_option maxRecDepth 10000
set_option linter.unusedSimpArgs false
set_option linter.unnecessarySimpa false

/-- What Make says of a transaction that stands in a block. -/
theorem MkP.hereL {L : Led} (hI : Inv L) {i k s : Nat} {xs : List Txn} {t : Txn} (h1 : L.txs[i]? = some xs) (h2 : xs[k]? = some t) (hs : s < t.chs.length) {r : Rec} {er : Int} (h : MkP L t.id s r er) :
    er = 0 ∧ ∃ bl c, L.blks[i]? = some bl ∧ t.chs[s]? = some c ∧ r = mkRec t xs bl k s c := by
  rcases h with ⟨h0, a, b, sn, xs', t', bl, c, g1, g2, g3, g4, g5, g6, g7⟩ | ⟨_, _, h | h | ⟨a, b, xs', t', g1, g2, g5, g6⟩⟩
  · obtain ⟨rfl, rfl⟩ := hI.uniq h1 h2 g1 g2 g5.symm
    rw [h1] at g1; injection g1 with g1; subst g1
    rw [h2] at g2; injection g2 with g2; subst g2
    obtain rfl : s = sn := by omega
    exact ⟨h0, bl, c, g3, g4, g7⟩
  · exact absurd rfl (h i k xs t h1 h2)
  · omega
  · obtain ⟨rfl, rfl⟩ := hI.uniq h1 h2 g1 g2 g5.symm
    rw [h1] at g1; injection g1 with g1; subst g1
    rw [h2] at g2; injection g2 with g2; subst g2
    omega
/-- The changes that are laid behind one another. -/
def lgC (k : Nat) : Chg := ⟨⟨#[120]⟩, 1, [⟨2, (k : Int), ⟨#[]⟩⟩]⟩
def lgCs (n : Nat) : List Chg := (List.range n).map lgC
theorem lgCs_len (n : Nat) : (lgCs n).length = n := by simp [lgCs]
theorem lgCs_succ (n : Nat) : lgCs (n + 1) = lgCs n ++ [lgC n] := by simp [lgCs, List.range_succ]
theorem lgC_ok (k : Nat) (hk : k ≤ 50) : (lgC k).ok := by
  refine ⟨by show (1 : Nat) ≤ 1000; omega, ⟨by show (-9223372036854775808 : Int) ≤ 1; omega, by show (1 : Int) ≤ _; omega⟩, by show (1 : Nat) ≤ 100; omega, ?_⟩
  intro v hv
  simp [lgC] at hv
  subst hv
  exact ⟨⟨by show (-9223372036854775808 : Int) ≤ 2; omega, by show (2 : Int) ≤ _; omega⟩, ⟨by show (-9223372036854775808 : Int) ≤ (k : Int); omega, by show (k : Int) ≤ _; omega⟩, none_fits⟩
theorem lgCs_ok (n : Nat) (hn : n ≤ 50) : (lgCs n).length ≤ 1000 ∧ ∀ x ∈ lgCs n, x.ok := by
  refine ⟨by rw [lgCs_len]; omega, fun x hx => ?_⟩
  unfold lgCs at hx
  obtain ⟨k, hk, rfl⟩ := List.mem_map.1 hx
  exact lgC_ok k (by have := List.mem_range.1 hk; omega)
set_option maxRecDepth 100000 in
set_option maxHeartbeats 16000000 in
theorem ReceiptLong_walk (x : Int) (w0 : World) (hx : i64ok x) :
    Calls Try.prog 12 #[.int .i64 x] w0 fun e w' => e = .returned (.bool true) ∧ Below w0.heap.size w0 w' := by
  have KN := Lib.hid (known15_any w0)
  have h9a := Int.emod_nonneg x (show (50 : Int) ≠ 0 by omega)
  have h9b := Int.emod_lt_of_pos x (show (0 : Int) < 50 by omega)
  have WI := fun W => within15_any x 50 W hx.1 hx.2 (by omega) (by omega)
  obtain ⟨wv, hwv⟩ : ∃ y, y = x % 50 := ⟨_, rfl⟩
  rw [← hwv] at h9a h9b
  simp only [← hwv] at WI
  obtain ⟨N, hN⟩ : ∃ N : Nat, (N : Int) = 1 + wv := ⟨(1 + wv).toNat, by omega⟩
  have hN1 : 1 ≤ N ∧ N ≤ 50 := by omega
  have hwN : IntKind.i64.wrap (1 + wv) = (N : Int) := by rw [IntWalk.i64_in _ (by omega)]; exact hN.symm
  have WI := Lib.hid WI
  obtain ⟨zz, hzz⟩ : ∃ z, z = rz := ⟨_, rfl⟩
  have hz81 := zero_rec
  rw [← hzz] at hz81
  have HZL := Lib.hid (show zz.length = 75 by rw [hzz]; exact rz_len)
  have hN50 : (N : Int) ≤ 50 := by omega
  clear hzz hwv hN h9a h9b hx
  go_enter Try.func12, Try.ntmps12
  go_wp2_with fail
  refine KN.out.mono ?_
  rintro e w1 ⟨rfl, t1⟩
  have H1 := Lib.hid t1
  clear t1 KN
  go_wp2_with fail
  refine (WI.out w1).mono ?_
  rintro e w1' ⟨rfl, rfl⟩
  have HD0 := Lib.hid (show DeepO ChgR w1 (SX w1.heap.size w1.heap.size [.slice none 0 0]) 3 w1.heap.size 33 (.slice none 0 0) (lgCs 0) from DeepO.nil)
  clear WI
  go_wp2_with fail
  go_loopw [3, 4] (fun u i wr => ∃ (k : Nat) (A' : Option Addr) (c' : Nat), k ≤ N ∧ i = .int .i64 k ∧ u = .slice A' k c' ∧ DeepO ChgR wr (SX w1.heap.size wr.heap.size [.slice A' k c']) 3 w1.heap.size 33 (.slice A' k c') (lgCs k) ∧ Turns [] w1 wr) (fun _ i _ => N - (intOf i).toNat)
  case atStart => exact ⟨0, none, 0, by omega, rfl, rfl, HD0.out, Turns.refl _ _⟩
  case round =>
    rename World => wr
    obtain ⟨k, Au, cu, hk, rfl, rfl, du, tr⟩ := hrel
    by_cases hlt : k < N
    · have hki : (k : Int) < (N : Int) := by omega
      obtain ⟨x4, h4⟩ : ∃ x4, x4 = wr.alloc (.cells #[.int .i64 2, .int .i64 k, .string ⟨#[]⟩] 43) := ⟨_, rfl⟩
      have t4 : Turns [] wr x4 := by rw [h4]; exact (Turns.refl _ _).alloc _
      have b4 := Blk.new wr [.int .i64 2, .int .i64 k, .string ⟨#[]⟩] 43
      rw [show wr.alloc (.cells [.int .i64 2, .int .i64 k, .string ⟨#[]⟩].toArray 43) = x4 from h4.symm] at b4
      have hsz : x4.heap.size = wr.heap.size + 1 := by rw [h4]; simp
      have hsr := tr.size
      have du4 := (du.keep ChgR.lasts t4 (by simp) (by simp)).mono ChgR.lasts (S' := SX w1.heap.size x4.heap.size [.slice Au k cu]) (fun j hj hj' => ⟨hj'.1, hj, hj'.2.2⟩) (Nat.le_refl _)
      have hx4 : ChgR x4 (SX w1.heap.size x4.heap.size [.slice Au k cu]) [.string ⟨#[120]⟩, .int .i64 1, .slice (some ⟨wr.heap.size, 0, none⟩) 1 1] (lgC k) :=
        ⟨_, rfl, ⟨rfl, _, _, rfl, Nat.le_refl _, by simp [maxLen], (fun h => by cases h), fun _ => ⟨wr.heap.size, 0, rfl, ⟨⟨hsr, by omega, fun v hv e => by simp only [List.mem_cons, List.not_mem_nil, or_false] at hv; subst hv; have := (du.lt _ e).2; omega⟩, b4.lt⟩, fun j u hu => by rw [Nat.zero_add, b4.cell]; exact hu⟩⟩⟩
      obtain ⟨A9, c9, w9, hr9, d9, t9, o9⟩ := DeepO.push' ChgR.lasts TChg du4 hx4 rfl (by intro u hu; simp at hu; rcases hu with rfl | rfl | rfl <;> rfl) (by omega) (by rw [lgCs_len]; omega) (fun j hj h => h.2.2 _ (by simp) hj) 22 ⟨by omega, by omega⟩
      rw [lgCs_len] at hr9 d9 o9
      rw [← lgCs_succ] at d9
      have d99 := d9.mono ChgR.lasts (S' := SX w1.heap.size w9.heap.size [.slice A9 (k + 1) c9]) (fun j hj hj' => ⟨hj'.1, hj, fun v hv e => by
        simp only [List.mem_cons, List.not_mem_nil, or_false] at hv
        subst hv
        rcases o9 j e with h | h
        · exact hj'.2.2 _ (by simp) h
        · have := hj'.2.1; omega⟩) (Nat.le_refl _)
      have HD9 := Lib.hid (And.intro d99 ((tr.trans t4 (by simp)).trans t9 (by intro y hy; exact .inr (by have := (du.lt y (by simpa using hy)).1; omega))))
      rw [hsz, h4] at hr9
      clear du tr t4 b4 hsz hsr du4 hx4 d9 t9 o9 d99 h4 hlt hk
      go_wp2_with (first
        | (at_builtin; refine wpList_append_at rfl (.tmp 22) (.tmp 27) rfl hr9 rfl rfl ?_)
        | fail)
      clear hr9
      go_roundw
      case rel => exact ⟨k + 1, A9, c9, by omega, by go_num, rfl, HD9.out.1, HD9.out.2⟩
      case measure => (simp [intOf] <;> omega)
    · obtain rfl : N = k := by omega
      have dN := du.deep ChgR.lasts (S' := fun _ => True) (fun _ _ _ => trivial) (fun _ _ => trivial)
      have AD := Lib.hid (Add_any led0 led0_ok ⟨by show (0 : Int) < 100000; omega, by show (0 : Nat) < 1000; omega, by show (0 : Nat) < 100000; omega, by show (0 : Nat) < 100000; omega⟩ (lgCs N) (lgCs_ok N hN1.2) _ _ _ _ (fun _ => True) (fun _ => True) wr LedR.zero dN)
      have HTR := Lib.hid (H1.out.trans tr (by simp))
      clear du tr dN hk hlt
      go_wp2_with fail
      refine AD.out.mono ?_
      rintro e w3 ⟨ov, bv, tv, cv, rfl, l3, d3, t3⟩
      obtain ⟨A1, c1, rfl, _⟩ := l3.opn.form
      obtain ⟨A2, c2, rfl, _⟩ := l3.blks.form'
      obtain ⟨A3, c3, rfl, _⟩ := l3.txs.form
      obtain ⟨A4, c4, rfl, _⟩ := d3.form
      obtain ⟨t, ht⟩ : ∃ t, t = (⟨0, lgCs N⟩ : Txn) := ⟨_, rfl⟩
      have hL1e : addLed led0 (lgCs N) = ⟨1, [t], [], []⟩ := by unfold addLed; rw [if_neg (by simp [pushL, led0]), ht]; rfl
      have hL1 : Inv (⟨1, [t], [], []⟩ : Led) := by rw [← hL1e]; exact inv0.add (lgCs_ok N hN1.2) (by show (0 : Int) ≤ 9998; omega)
      have hL2 : Inv (⟨1, [], [newBlo [] [t]], [[t]]⟩ : Led) := hL1.close (by show (0 : Nat) < 1; omega) (by show (1 : Int) ≤ 9999; omega)
      have l3' : LedR w3 (fun b => wr.heap.size ≤ b) (.slice A1 1 c1) (.slice A2 0 c2) (.slice A3 0 c3) ⟨1, [t], [], []⟩ := by rw [hL1e] at l3; exact l3
      rw [hL1e]
      clear l3
      obtain ⟨p5, hp5⟩ : ∃ q, q = w3.heap.size := ⟨_, rfl⟩
      obtain ⟨x5, hx5⟩ : ∃ q, q = w3.alloc (.cells #[.int .i64 1, .slice A1 1 c1, .slice A2 0 c2, .slice A3 0 c3] 57) := ⟨_, rfl⟩
      obtain ⟨x6, hx6⟩ : ∃ q, q = x5.alloc (.cells #[.int .i64 led0.next, .slice A4 (lgCs N).length c4] 24) := ⟨_, rfl⟩
      have b5 := Blk.new w3 [.int .i64 1, .slice A1 1 c1, .slice A2 0 c2, .slice A3 0 c3] 57
      rw [show w3.alloc (.cells [.int .i64 1, .slice A1 1 c1, .slice A2 0 c2, .slice A3 0 c3].toArray 57) = x5 from hx5.symm, ← hp5] at b5
      have t5 : Turns [] w3 x5 := by rw [hx5]; exact (Turns.refl _ _).alloc _
      have t6 : Turns [] x5 x6 := by rw [hx6]; exact (Turns.refl _ _).alloc _
      have b6 := b5.turns t6 (by simp)
      have r6 := b6.all
      have hz6 := size_led (.int .i64 1) (.slice A1 1 c1) (.slice A2 0 c2) (.slice A3 0 c3)
      have CLO : Calls Try.prog 33 #[.agg #[.int .i64 1, .slice A1 1 c1, .slice A2 0 c2, .slice A3 0 c3]] x6 fun e w' => ∃ ov' bv' tv', e = .returned (.tuple #[.agg #[.int .i64 1, ov', bv', tv'], .int .i64 0]) ∧ LedR w' (fun b => x6.heap.size ≤ b) ov' bv' tv' ⟨1, [], [newBlo [] [t]], [[t]]⟩ ∧ Turns [] x6 w' :=
        Close_any ⟨1, [t], [], []⟩ hL1.ok ⟨by show (0 : Nat) < 100000; omega, by show (0 : Nat) < 100000; omega⟩ (by show (0 : Nat) < 1; omega) _ _ _ _ x6 (l3'.keep ((t5.trans t6 (by simp)).keeps0 _))
      have HCL := Lib.hid CLO
      have HX := Lib.hid (And.intro hx5 (And.intro hx6 hp5))
      have H6 := Lib.hid (And.intro b6 (And.intro ((HTR.out.trans t3 (by simp)).trans (t5.trans t6 (by simp)) (by simp)) (show w0.heap.size ≤ p5 by have := HTR.out.size; have := t3.size; omega)))
      have HL := Lib.hid (And.intro hL2 (And.intro ht hL1e))
      clear l3' d3 t3 ht hL1e hL1 hL2 hp5 hx5 hx6 b5 t5 t6 b6 CLO AD WI
      go_upto_region 10 with fail
      rw [← HX.out.1, ← HX.out.2.1, ← HX.out.2.2]
      go_wp2_with (first
        | (refine wpList_load_mid rfl 57 (.tmp 5) rfl p5 0 rfl _ _ r6 Try.underlying57 rfl hz6 ?_)
        | fail)
      refine HCL.out.mono ?_
      rintro e w7 ⟨ov, bv, tv, rfl, l7, t7⟩
      obtain ⟨B1, d1, hB1, _⟩ := l7.opn.form
      obtain ⟨B2, d2, hB2, _⟩ := l7.blks.form'
      obtain ⟨B3, d3, hB3, _⟩ := l7.txs.form
      obtain rfl : ov = .slice B1 0 d1 := hB1
      obtain rfl : bv = .slice B2 1 d2 := hB2
      obtain rfl : tv = .slice B3 1 d3 := hB3
      clear r6 hz6 HCL
      have hz7 := size_led (.int .i64 1) (.slice B1 0 d1) (.slice B2 1 d2) (.slice B3 1 d3)
      have H7 := Lib.hid (And.intro (H6.out.1.turns t7 (by simp)) (And.intro l7 t7))
      clear l7 t7
      go_upto_region 11 with (first
        | (refine wpList_store_blk rfl 57 (.tmp 5) (.tmp 38) rfl p5 (by kernel_rfl) [.int .i64 1, .slice B1 0 d1, .slice B2 1 d2, .slice B3 1 d3] _ 57 (by kernel_rfl) H7.out.1 rfl hz7 (by intro u hu; simp at hu; rcases hu with rfl | rfl | rfl | rfl <;> rfl) (fun w9 hb9 ht9 hs9 => ?_); have HQ9 := Lib.hid (And.intro hb9 ht9); clear hb9 ht9 hs9)
        | fail)
      try simp only [Act.put, List.setIfInBounds_toArray, List.set_cons_succ, List.set_cons_zero]
      have t09 : Turns [] w0 w9 := (H6.out.2.1.trans H7.out.2.2 (by simp)).trans HQ9.out.2 (by intro y hy; simp at hy; exact .inr (by have := H6.out.2.2; omega))
      have l9 : LedR w9 (fun b => x6.heap.size ≤ b) (.slice B1 0 d1) (.slice B2 1 d2) (.slice B3 1 d3) ⟨1, [], [newBlo [] [t]], [[t]]⟩ := H7.out.2.1.keep (HQ9.out.2.keepsB _ (by intro y hy _ h; simp at hy; have := H6.out.1.lt; omega))
      have H9 := Lib.hid (And.intro HQ9.out.1 (And.intro l9 t09))
      clear t09 l9
      go_wp2_with fail
      go_loopw [8] (fun u wr => ∃ d : Nat, d ≤ 6 ∧ u = .int .i64 d ∧ Turns [] w9 wr) (fun u _ => 7 - (intOf u).toNat)
      case atStart => exact ⟨0, by omega, rfl, Turns.refl _ _⟩
      case round =>
        rename World => wd
        obtain ⟨d, hd, rfl, td⟩ := hrel
        obtain ⟨p, hp⟩ : ∃ p : Nat, p = 2 ^ d := ⟨_, rfl⟩
        have hdd : d = 0 ∨ d = 1 ∨ d = 2 ∨ d = 3 ∨ d = 4 ∨ d = 5 ∨ d = 6 := by omega
        have hwp : wrap64 ((2 : Int) ^ d) = (p : Int) := by
          rw [hp]
          rcases hdd with rfl | rfl | rfl | rfl | rfl | rfl | rfl <;> kernel_rfl
        have hp6 : d = 6 → p = 64 := fun e => by rw [hp, e]
        have HP := Lib.hid hp
        clear hdd hp
        by_cases hlt : p < N
        · have hpi : (p : Int) < (N : Int) := by omega
          have hd6 : d < 6 := by
            rcases Nat.lt_or_ge d 6 with h | h
            · exact h
            · have := hp6 (by omega); omega
          have HTD := Lib.hid td
          clear td hp6
          go_wp2_with fail
          go_roundw
          case rel => exact ⟨d + 1, by omega, by go_num, HTD.out⟩
          case measure => (simp [intOf] <;> omega)
        · have hpi : ¬ (p : Int) < (N : Int) := by omega
          have hN2 : N ≤ 2 ^ d := by rw [← HP.out]; omega
          have HND := Lib.hid hN2
          have HTD := Lib.hid td
          clear td hp6 hN2
          go_wp2_with fail
          go_loopw [9] (fun u wr => ∃ i : Nat, i ≤ N ∧ u = .int .i64 i ∧ Turns [] w9 wr) (fun u _ => N - (intOf u).toNat)
          case atStart => exact ⟨0, by omega, rfl, HTD.out⟩
          case round =>
            rename World => ws
            obtain ⟨i, hi, rfl, ts⟩ := hrel
            have R5 := (H9.out.1.turns ts (by simp)).all
            have HTS := Lib.hid ts
            clear ts hwp hpi
            by_cases hlti : i < N
            · have hii : (i : Int) < (N : Int) := by omega
              have MK := Lib.hid (Make_any ⟨1, [], [newBlo [] [t]], [[t]]⟩ HL.out.1.ok HL.out.1.bt 0 i _ _ _ _ ws (H9.out.2.1.keep (HTS.out.keeps0 _)))
              have hchl : t.chs.length = N := by rw [HL.out.2.1]; exact lgCs_len N
              have HCH := Lib.hid hchl
              clear hchl hi
              go_wp2_with (first
                | (refine wpList_load_mid rfl 57 (.tmp 5) rfl p5 0 rfl _ _ R5 Try.underlying57 rfl hz7 ?_)
                | fail)
              refine MK.out.mono ?_
              rintro e y1 ⟨r, rv, hv, ev, er, rfl, hR, hP, ty1⟩
              have hc := hP.cells HL.out.1.ok hR.rd
              have htid : t.id = 0 := by rw [HL.out.2.1]
              obtain ⟨rfl, bl, c, hbl, hcc, hre⟩ := MkP.hereL HL.out.1 (i := 0) (k := 0) (s := i) (xs := [t]) (t := t) rfl rfl (by have := HCH.out; omega) (by rw [htid]; exact hP)
              obtain ⟨hok, htrue, -⟩ := hP.good HL.out.1
              obtain ⟨rcs, hrcs⟩ : ∃ x, x = recCells r rv hv ev := ⟨_, rfl⟩
              rw [← hrcs] at hc ⊢
              have HBZ := Lib.hid (And.intro (Blk.new y1 zz 81) ((Turns.refl [] y1).alloc (.cells zz.toArray 81)))
              have HC1 := Lib.hid (And.intro (show zz.length = rcs.length by rw [HZL.out, hc.1]) (And.intro (size_rec rcs hc.1) hc.2))
              have HR := Lib.hid (And.intro hR.rd (And.intro hok (And.intro htrue (And.intro hre (And.intro hbl (And.intro hrcs hcc))))))
              have HT1 := Lib.hid ty1
              clear hc hR hP ty1 hok htrue hrcs hre hbl hcc MK R5 htid
              go_upto_region 20 with (first
                | (refine wpList_alloc_arr (o := ⟨some 10, _, _, _, _, _⟩) rfl 81 rfl zz.toArray hz81 ?_)
                | (refine wpList_store_blk rfl 81 (.tmp 10) (.tmp 58) rfl y1.heap.size (by kernel_rfl) rcs zz 81 (by kernel_rfl) HBZ.out.1 HC1.out.1 HC1.out.2.1 HC1.out.2.2 (fun w8 hb8 ht8 hs8 => ?_); have HQ8 := Lib.hid (And.intro hb8 ht8); clear hb8 ht8 hs8)
                | fail)
              try simp only [Act.put, List.setIfInBounds_toArray, List.set_cons_succ, List.set_cons_zero]
              obtain ⟨g10, hg10⟩ : ∃ x, x = y1.heap.size := ⟨_, rfl⟩
              rw [← hg10] at HQ8 ⊢
              have t18 : Turns [] y1 w8 := HBZ.out.2.trans HQ8.out.2 (by intro x hx; simp at hx; exact .inr (by omega))
              obtain ⟨V, hV⟩ : ∃ q, q = w8.drew := ⟨_, rfl⟩
              have tV : Turns [] w8 V := by rw [hV]; exact (Turns.refl _ _).drew
              have HVV := Lib.hid hV
              have tyV := t18.trans tV (by simp)
              have tsV := HT1.out.trans tyV (by simp)
              have t9V := HTS.out.trans tsV (by simp)
              have b10 := HQ8.out.1.turns tV (by simp)
              have RR := b10.all
              have hzr := HC1.out.2.1
              rw [HR.out.2.2.2.2.2.1] at b10
              have hRV := HR.out.1.on tyV
              obtain ⟨Ah, ch, rfl, _, _⟩ := hRV.rows.form
              obtain ⟨Ae, ce, rfl, _, _⟩ := hRV.ents.form
              obtain ⟨_, Ar, cr, rfl, _, _, _, hrr⟩ := hRV.row
              have hcr : c = lgC i := by
                have h := HR.out.2.2.2.2.2.2
                rw [HL.out.2.1] at h
                show c = lgC i
                have h2 : (lgCs N)[i]? = some (lgC i) := by unfold lgCs; rw [List.getElem?_map, List.getElem?_range hlti]; rfl
                rw [h2] at h
                injection h with h
                exact h.symm
              have hrow : r.c.row = [⟨2, (i : Int), ⟨#[]⟩⟩] := by rw [HR.out.2.2.2.1]; show c.row = _; rw [hcr]; rfl
              rw [hrow] at hrr
              obtain ⟨br, offr, rfl, _, hcell⟩ := hrr (by simp [valCells, Val.cells])
              have BN : V.cell? ⟨br, offr + 1, none⟩ = some (.int .i64 i) := hcell 1 _ rfl
              have hrl : r.rows.length = (mway i N).length := by
                rw [HR.out.2.2.2.1]
                show (mproof (txRows t) i).length = _
                rw [mproof_len (txRows t).length (txRows t) i (Nat.le_refl _) (by rw [txRows_len, HCH.out]; exact hlti), txRows_len, HCH.out]
              obtain ⟨nr, hnr⟩ : ∃ n, n = r.rows.length := ⟨_, rfl⟩
              have hnd : ¬ (d : Int) < (nr : Int) := by have := mway_le d N i HND.out; omega
              have hel : r.ents.length = 0 := by rw [HR.out.2.2.2.1]; show (mproof ([t].map entry) 0).length = 0; rw [mproof_few _ _ (by simp)]; rfl
              have B5 : V.cell? ⟨g10, 5, none⟩ = some (.slice (some ⟨br, offr, none⟩) 1 cr) := by rw [b10.cell 5, show (1 : Nat) = r.c.row.length by rw [hrow]; rfl]; rfl
              have B6 : V.cell? ⟨g10, 6, none⟩ = some (.slice Ah nr ch) := by rw [b10.cell 6, hnr]; rfl
              have B8 : V.cell? ⟨g10, 8, none⟩ = some (.slice Ae 0 ce) := by rw [b10.cell 8, ← hel]; rfl
              have hrb : r.blk = newBlo [] [t] := by
                have h := HR.out.2.2.2.2.1
                rw [HR.out.2.2.2.1]
                show bl = _
                injection h with h
                exact h.symm
              have hbn : r.blk.n = 1 := by rw [hrb]; rfl
              have C2 := (H9.out.1.turns t9V (by simp)).cell 2
              simp only [List.getElem?_cons_zero, List.getElem?_cons_succ] at C2
              obtain ⟨bB, offB, cB, hvB, _, _, rgB⟩ := blo_at (H9.out.2.1.keep (t9V.keeps0 _)).blks HL.out.1.ok.blo 0 (by show (0 : Nat) < 1; omega)
              injection hvB with e1 e2 e3
              subst e1 e3
              clear e2
              rw [Nat.zero_mul, Nat.add_zero] at rgB
              have hbk := newBlo_ok [] [t]
              obtain ⟨cs, hcs⟩ : ∃ x, x = (newBlo [] [t]).cells := ⟨_, rfl⟩
              have hcl : cs.length = 66 := by rw [hcs]; exact Blo.cells_len hbk
              have RB : V.rangeAt bB offB cs := by rw [hcs]; exact rgB
              have hzb := size_blo cs hcl
              obtain ⟨hh, hhh⟩ : ∃ x, x = bloH (newBlo [] [t]) := ⟨_, rfl⟩
              have hhl : hh.length = 32 := by rw [hhh]; exact bloH_len _
              have FH := Lib.hid (show ∀ W, Calls Try.prog 22 #[.agg cs.toArray] W fun e w' => e = .returned (.agg (bvs hh).toArray) ∧ Turns [] W w' by rw [hcs, hhh]; exact fun W => CHash_any (newBlo [] [t]) hbk W)
              have HBD := Lib.hid (built_dig 1 hh hhl)
              have CK1 := Lib.hid (show ∀ W, Turns [] V W → Calls Try.prog 39 #[.agg rcs.toArray, .agg (digCells 1 hh).toArray] W fun e w' => e = .returned (.bool true) ∧ Turns [] W w' from fun W tW => by
                have h := Check_yes r HR.out.2.1 _ _ _ W (hRV.on tW)
                rw [HR.out.2.2.1, ← HR.out.2.2.2.2.2.1, hbn, hrb, ← hhh] at h
                exact h)
              have HTV := Lib.hid (HTS.out.trans tsV (by simp))
              have S0 : Turns [] V V := Turns.refl _ _
              clear hg10 t18 hV tV tyV tsV t9V b10 hRV hrr hcr hrow hcell hrl hnr hel hrb hbn rgB hbk hcs hcl hhh
              go_upto_region 20 with fail
              refine rk0 (fun W => Turns [] V W) (fun _ => True) 36 36 ?_
              rw [← HVV.out]
              refine rkA 0 60 1 (v := ?_) ?_ (.mk' S0 trivial) ?_
              rotate_left
              · intro W hS; go_simp; all_goals with_reducible rfl
              try simp only [sI, sS, sZ]
              refine rkA 1 61 3 (v := ?_) ?_ (.mk' S0 trivial) ?_
              rotate_left
              · intro W hS; go_simp; all_goals with_reducible rfl
              try simp only [sI, sS, sZ]
              refine rkA 2 62 7 (v := ?_) ?_ (.mk' S0 trivial) ?_
              rotate_left
              · intro W hS; go_simp; all_goals with_reducible rfl
              try simp only [sI, sS, sZ]
              refine rkA 3 63 15 (v := ?_) ?_ (.mk' S0 trivial) ?_
              rotate_left
              · intro W hS; go_simp; all_goals with_reducible rfl
              try simp only [sI, sS, sZ]
              refine rkA 4 64 31 (v := ?_) ?_ (.mk' S0 trivial) ?_
              rotate_left
              · intro W hS; have c0 := cellL hS B6 (by simp); go_simp; all_goals with_reducible rfl
              try simp only [sI, sS, sZ]
              refine rkA 5 65 63 (v := ?_) ?_ (.mk' S0 trivial) ?_
              rotate_left
              · intro W hS; go_simp; all_goals with_reducible rfl
              try simp only [sI, sS, sZ]
              refine rkA 6 66 127 (v := ?_) ?_ (.mk' S0 trivial) ?_
              rotate_left
              · intro W hS; go_simp; all_goals with_reducible rfl
              try simp only [sI, sS, sZ]
              refine rkA 7 67 255 (v := ?_) ?_ (.mk' S0 trivial) ?_
              rotate_left
              · intro W hS; go_simp; all_goals with_reducible rfl
              try simp only [sI, sS, sZ]
              refine rkA 8 68 511 (v := ?_) ?_ (.mk' S0 trivial) ?_
              rotate_left
              · intro W hS; go_simp; all_goals with_reducible rfl
              try simp only [sI, sS, sZ]
              refine rkA 9 69 1023 (v := ?_) ?_ (.mk' S0 trivial) ?_
              rotate_left
              · intro W hS; go_simp; all_goals with_reducible rfl
              try simp only [sI, sS, sZ]
              refine rkA 10 70 2047 (v := ?_) ?_ (.mk' S0 trivial) ?_
              rotate_left
              · intro W hS; go_simp; all_goals with_reducible rfl
              try simp only [sI, sS, sZ]
              refine rkA 11 71 4095 (v := ?_) ?_ (.mk' S0 trivial) ?_
              rotate_left
              · intro W hS; have c0 := cellL hS B8 (by simp); go_simp; all_goals with_reducible rfl
              try simp only [sI, sS, sZ]
              refine rkA 12 72 8191 (v := ?_) ?_ (.mk' S0 trivial) ?_
              rotate_left
              · intro W hS; go_simp; all_goals with_reducible rfl
              try simp only [sI, sS, sZ]
              refine rkA 13 73 16383 (v := ?_) ?_ (.mk' S0 trivial) ?_
              rotate_left
              · intro W hS; go_simp; all_goals with_reducible rfl
              try simp only [sI, sS, sZ]
              refine rkA 14 74 32767 (v := ?_) ?_ (.mk' S0 trivial) ?_
              rotate_left
              · intro W hS; go_simp; all_goals with_reducible rfl
              try simp only [sI, sS, sZ]
              refine rkA 15 75 65535 (v := ?_) ?_ (.mk' S0 trivial) ?_
              rotate_left
              · intro W hS; go_simp; all_goals with_reducible rfl
              try simp only [sI, sS, sZ]
              refine rkA 16 76 131071 (v := ?_) ?_ (.mk' S0 trivial) ?_
              rotate_left
              · intro W hS; go_simp; all_goals with_reducible rfl
              try simp only [sI, sS, sZ]
              refine rkA 17 77 262143 (v := ?_) ?_ (.mk' S0 trivial) ?_
              rotate_left
              · intro W hS; go_simp; all_goals with_reducible rfl
              try simp only [sI, sS, sZ]
              refine rkA 18 78 524287 (v := ?_) ?_ (.mk' S0 trivial) ?_
              rotate_left
              · intro W hS; have c0 := cellL hS B5 (by simp); go_simp; all_goals with_reducible rfl
              try simp only [sI, sS, sZ]
              refine rkA 19 79 1048575 (v := ?_) ?_ (.mk' S0 trivial) ?_
              rotate_left
              · intro W hS; go_simp; all_goals with_reducible rfl
              try simp only [sI, sS, sZ]
              refine rkA 20 80 2097151 (v := ?_) ?_ (.mk' S0 trivial) ?_
              rotate_left
              · intro W hS; go_simp; all_goals with_reducible rfl
              try simp only [sI, sS, sZ]
              refine rkA 21 81 4194303 (v := ?_) ?_ (.mk' S0 trivial) ?_
              rotate_left
              · intro W hS; have c0 := cellL hS BN (by simp); go_simp; all_goals with_reducible rfl
              try simp only [sI, sS, sZ]
              refine rkA 22 82 8388607 (v := ?_) ?_ (.mk' S0 trivial) ?_
              rotate_left
              · intro W hS; go_simp; all_goals with_reducible rfl
              try simp only [sI, sS, sZ]
              refine rkA 23 83 16777215 (v := ?_) ?_ (.mk' S0 trivial) ?_
              rotate_left
              · intro W hS; go_simp; all_goals with_reducible rfl
              try simp only [sI, sS, sZ]
              refine rkA 24 84 33554431 (v := ?_) ?_ (.mk' S0 trivial) ?_
              rotate_left
              · intro W hS; go_simp; all_goals with_reducible rfl
              try simp only [sI, sS, sZ]
              refine rkA 25 85 67108863 (v := ?_) ?_ (.mk' S0 trivial) ?_
              rotate_left
              · intro W hS; go_simp; all_goals with_reducible rfl
              try simp only [sI, sS, sZ]
              refine rkY 26 86 134217727 rfl (yieldsIf_load_mid (by rfl) _ _ rfl g10 0 (by rfl) rcs _ (fun W hS => rangeV hS RR) Try.underlying81 rfl hzr) (.mk' S0 trivial) ?_
              try simp only [sI, sS, sZ]
              refine rkA 27 87 268435455 (v := ?_) ?_ (.mk' S0 trivial) ?_
              rotate_left
              · intro W hS; go_simp; all_goals with_reducible rfl
              try simp only [sI, sS, sZ]
              refine rkA 28 88 536870911 (v := ?_) ?_ (.mk' S0 trivial) ?_
              rotate_left
              · intro W hS; have c0 := cellL hS C2 (by simp); go_simp; all_goals with_reducible rfl
              try simp only [sI, sS, sZ]
              refine rkA 29 89 1073741823 (v := ?_) ?_ (.mk' S0 trivial) ?_
              rotate_left
              · intro W hS; go_simp; all_goals with_reducible rfl
              try simp only [sI, sS, sZ]
              refine rkY 30 90 2147483647 rfl (yieldsIf_load_mid (by rfl) _ _ rfl bB offB (by rfl) cs _ (fun W hS => rangeV hS RB) Try.underlying28 rfl hzb) (.mk' S0 trivial) ?_
              try simp only [sI, sS, sZ]
              refine rk1 31 4294967295 (fun K hK => ?_)
              go_simp
              refine (FH.out V).mono ?_
              rintro e X91 ⟨rfl, D91⟩
              refine hK _ _ (.mk' ((Turns.refl [] V).trans D91 (by simp)) trivial) ?_
              clear hK K
              try simp only [sI, sS, sZ]
              refine rkY 32 92 8589934591 rfl (yieldsIf_build (by rfl) 62 _ (by rfl) (digCells 1 hh).toArray (by have h := HBD.out; simpa [Act.eval] using h)) (.mk' ((Turns.refl [] V).trans D91 (by simp)) trivial) ?_
              try simp only [sI, sS, sZ]
              refine rk1 33 17179869183 (fun K hK => ?_)
              go_simp
              refine (CK1.out X91 ((Turns.refl [] V).trans D91 (by simp))).mono ?_
              rintro e X93 ⟨rfl, D93⟩
              refine hK _ _ (.mk' (((Turns.refl [] V).trans D91 (by simp)).trans D93 (by simp)) trivial) ?_
              clear hK K
              try simp only [sI, sS, sZ]
              refine rkA 34 94 34359738367 (v := ?_) ?_ (.mk' (((Turns.refl [] V).trans D91 (by simp)).trans D93 (by simp)) trivial) ?_
              rotate_left
              · intro W hS; go_simp; all_goals with_reducible rfl
              try simp only [sI, sS, sZ]
              refine rkA 35 95 68719476735 (v := ?_) ?_ (.mk' (((Turns.refl [] V).trans D91 (by simp)).trans D93 (by simp)) trivial) ?_
              rotate_left
              · intro W hS; go_simp; all_goals with_reducible rfl
              try simp only [sI, sS, sZ]
              refine rkZ ?_
              have HE20 := Lib.hid (HTV.out.trans (((Turns.refl [] V).trans D91 (by simp)).trans D93 (by simp)) (by simp))
              clear RR B5 B6 B8 BN C2 RB hzb hzr hnd S0
              go_wp2_with fail
              go_roundw
              case rel => exact ⟨i + 1, by omega, by go_num, HE20.out⟩
              case measure => (simp [intOf] <;> omega)
            · obtain rfl : N = i := by omega
              have HFF := Lib.hid (below_of' (H9.out.2.2.trans HTS.out (by simp)))
              clear hi hlti R5
              go_wp2_with fail
              go_ret
              exact ⟨rfl, HFF.out⟩
end Go.Proofs.Ytoahnhphfabajaa
