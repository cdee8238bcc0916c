/- LedgerKeeps, walked. -/
import Derived.Test.YtoahnhphfabajaaLdS
namespace Go.Proofs.Ytoahnhphfabajaa
open Go.RowKit
set_option linter.unusedVariables false
set_option maxRecDepth 10000
set_option linter.unusedSimpArgs false
set_option linter.unnecessarySimpa false

/-- One change added again and again. -/
def itL (c : List Chg) : Nat → Led
  | 0 => led0
  | k + 1 => addLed (itL c k) c
theorem itL_next (c : List Chg) : ∀ k, (itL c k).next = (k : Int)
  | 0 => rfl
  | k + 1 => by rw [itL, addLed_next, itL_next c k]; rfl
theorem itL_inv (c : List Chg) (hc : c.length ≤ 1000 ∧ ∀ x ∈ c, x.ok) : ∀ k, k ≤ 9000 → Inv (itL c k)
  | 0, _ => inv0
  | k + 1, h => (itL_inv c hc k (by omega)).add hc (by rw [itL_next]; omega)
theorem itL_all (c : List Chg) : ∀ k, (∀ l ∈ (itL c k).txs, ∀ t ∈ l, t.chs = c) ∧ ∀ t ∈ (itL c k).opn, t.chs = c
  | 0 => ⟨fun l h => by simp [itL, led0] at h, fun l h => by simp [itL, led0] at h⟩
  | k + 1 => by
    obtain ⟨h1, h2⟩ := itL_all c k
    have hp : ∀ t ∈ (pushL (itL c k) c).opn, t.chs = c := by
      intro t ht
      rcases List.mem_append.1 ht with ht | ht
      · exact h2 t ht
      · simp at ht; subst ht; rfl
    rw [itL]
    unfold addLed
    split
    · refine ⟨fun l hl => ?_, fun t ht => by simp [closeL] at ht⟩
      rcases List.mem_append.1 hl with hl | hl
      · exact h1 l hl
      · simp at hl; subst hl; exact hp
    · exact ⟨h1, hp⟩
/-- The first change of a transaction in a deep row of rows. -/
def kpC : Chg := ⟨⟨#[120]⟩, 1, [⟨2, 5, ⟨#[]⟩⟩]⟩
theorem kpC_ok : ([kpC] : List Chg).length ≤ 1000 ∧ ∀ x ∈ [kpC], x.ok :=
  ⟨by simp, by
    intro x hx
    simp at hx
    subst hx
    refine ⟨by show (1 : Nat) ≤ 1000; omega, ⟨by show (-9223372036854775808 : Int) ≤ 1; omega, by show (1 : Int) ≤ _; omega⟩, by show (1 : Nat) ≤ 100; omega, ?_⟩
    intro v hv
    simp [kpC] at hv
    subst hv
    exact ⟨⟨by show (-9223372036854775808 : Int) ≤ 2; omega, by show (2 : Int) ≤ _; omega⟩, ⟨by show (-9223372036854775808 : Int) ≤ 5; omega, by show (5 : Int) ≤ _; omega⟩, none_fits⟩⟩
def KpR (x5 wr : World) (p3 pc : Nat) (k : Nat) : Prop := ∃ ov bv tv, Blk wr p3 [.int .i64 (itL [kpC] k).next, ov, bv, tv] 57 ∧ LedR wr (fun b => pc < b) ov bv tv (itL [kpC] k) ∧ Turns [p3] x5 wr

set_option maxRecDepth 100000 in
set_option maxHeartbeats 16000000 in
theorem LedgerKeeps_walk (n0 : Int) (w : World) (h0 : -9223372036854775808 ≤ n0 ∧ n0 ≤ 9223372036854775807) :
    Calls Try.prog 6 #[.int .i64 n0] w fun e w' => e = .returned (.bool true) ∧ Below w.heap.size w w' := by
  obtain ⟨m, hm, hm7⟩ : ∃ m : Nat, (m : Int) = n0 % 7 ∧ m < 7 := ⟨(n0 % 7).toNat, by omega, by omega⟩
  have WI := fun W => within14_any n0 7 W h0.1 h0.2 (by omega) (by omega)
  rw [← hm] at WI
  have HWI := Lib.hid WI
  have KN := Lib.hid (known14_any w)
  clear WI hm h0
  go_enter Try.func6, Try.ntmps6
  go_wp2_with fail
  refine KN.out.mono ?_
  rintro e w2 ⟨rfl, t2⟩
  have HT2 := Lib.hid t2
  clear t2 KN
  go_wp2_with fail
  refine (HWI.out w2).mono ?_
  rintro e w3 ⟨rfl, rfl⟩
  obtain ⟨p3, hp3⟩ : ∃ x, x = w2.heap.size := ⟨_, rfl⟩
  obtain ⟨x3, hx3⟩ : ∃ x, x = w2.alloc (.cells #[.int .i64 0, .slice none 0 0, .slice none 0 0, .slice none 0 0] 57) := ⟨_, rfl⟩
  have b3 := Blk.new w2 [.int .i64 0, .slice none 0 0, .slice none 0 0, .slice none 0 0] 57
  rw [show w2.alloc (.cells [.int .i64 0, .slice none 0 0, .slice none 0 0, .slice none 0 0].toArray 57) = x3 from hx3.symm, ← hp3] at b3
  have hs3 : x3.heap.size = p3 + 1 := by rw [hx3, hp3]; simp
  have t3 : Turns [] w2 x3 := by rw [hx3]; exact (Turns.refl _ _).alloc _
  obtain ⟨x4, hx4⟩ : ∃ x, x = x3.alloc (.cells #[.int .i64 2, .int .i64 5, .string ⟨#[]⟩] 43) := ⟨_, rfl⟩
  have b4 := Blk.new x3 [.int .i64 2, .int .i64 5, .string ⟨#[]⟩] 43
  rw [show x3.alloc (.cells [.int .i64 2, .int .i64 5, .string ⟨#[]⟩].toArray 43) = x4 from hx4.symm, hs3] at b4
  have hs4 : x4.heap.size = p3 + 2 := by rw [hx4]; simp [hs3]
  have t4 : Turns [] x3 x4 := by rw [hx4]; exact (Turns.refl _ _).alloc _
  obtain ⟨x5, hx5⟩ : ∃ x, x = x4.alloc (.cells #[.string ⟨#[120]⟩, .int .i64 1, .slice (some ⟨p3 + 1, 0, none⟩) 1 1] 33) := ⟨_, rfl⟩
  have b5 := Blk.new x4 [.string ⟨#[120]⟩, .int .i64 1, .slice (some ⟨p3 + 1, 0, none⟩) 1 1] 33
  rw [show x4.alloc (.cells [.string ⟨#[120]⟩, .int .i64 1, .slice (some ⟨p3 + 1, 0, none⟩) 1 1].toArray 33) = x5 from hx5.symm, hs4] at b5
  have hs5 : x5.heap.size = p3 + 3 := by rw [hx5]; simp [hs4]
  have t5 : Turns [] x4 x5 := by rw [hx5]; exact (Turns.refl _ _).alloc _
  have sr : SlS x5 (fun b => p3 < b) 3 (.slice (some ⟨p3 + 1, 0, none⟩) 1 1) 1 (valCells kpC.row) :=
    ⟨rfl, _, _, rfl, Nat.le_refl _, by simp [maxLen], (fun h => by cases h), fun _ => ⟨p3 + 1, 0, rfl, ⟨by omega, by omega⟩, fun j u hu => by rw [Nat.zero_add, (b4.turns t5 (by simp)).cell]; exact hu⟩⟩
  have dc : Deep ChgR x5 (fun b => p3 < b) 3 (.slice (some ⟨p3 + 2, 0, none⟩) 1 1) [kpC] :=
    Deep.mk' (css := [[.string ⟨#[120]⟩, .int .i64 1, .slice (some ⟨p3 + 1, 0, none⟩) 1 1]]) rfl (by intro x hx; simp at hx; subst hx; rfl) (fun i hi hi' => by
      obtain rfl : i = 0 := by simp at hi; omega
      exact ⟨_, rfl, sr⟩)
      ⟨rfl, _, _, rfl, Nat.le_refl _, by simp [maxLen], (fun h => by cases h), fun _ => ⟨p3 + 2, 0, rfl, ⟨by omega, by omega⟩, fun j u hu => by rw [Nat.zero_add, b5.cell]; exact hu⟩⟩
  have HK0 := Lib.hid (show KpR x5 x5 p3 (p3 + 2) 0 from ⟨_, _, _, (b3.turns t4 (by simp)).turns t5 (by simp), LedR.zero, Turns.refl _ _⟩)
  have HDC := Lib.hid (And.intro dc (And.intro b5 (HT2.out.trans ((t3.trans t4 (by simp)).trans t5 (by simp)) (by simp))))
  have HX := Lib.hid (And.intro hx3 (And.intro hx4 (And.intro hx5 (And.intro hp3 (And.intro hs3 (And.intro hs4 hs5))))))
  have HWS := Lib.hid HT2.out.size
  clear hp3 hx3 b3 hs3 t3 hx4 b4 hs4 t4 hx5 b5 hs5 t5 sr dc HWI
  go_upto_region 6 with fail
  rw [← HX.out.1, ← HX.out.2.2.2.1]
  try rw [HX.out.2.2.2.2.1]
  rw [← HX.out.2.1]
  try rw [HX.out.2.2.2.2.2.1]
  rw [← HX.out.2.2.1]
  rw [show p3 + 1 + 1 = p3 + 2 from rfl]
  have hpc3 : p3 < p3 + 2 := by omega
  have hx5s : x5.heap.size = p3 + 2 + 1 := HX.out.2.2.2.2.2.2
  generalize p3 + 2 = pc at *
  have HPC := Lib.hid (And.intro hpc3 hx5s)
  clear hpc3 hx5s
  go_wp2_with fail
  go_loopw [5] (fun i wr => ∃ k : Nat, k ≤ m + 1 ∧ i = .int .i64 k ∧ KpR x5 wr p3 pc k) (fun i _ => (m + 1) - (intOf i).toNat)
  case atStart => exact ⟨0, by omega, rfl, HK0.out⟩
  case round =>
    obtain ⟨k, hk, rfl, ov, bv, tv, bk, lk, tk⟩ := hrel
    obtain ⟨A1, c1, rfl, _⟩ := lk.opn.form
    obtain ⟨A2, c2, rfl, _⟩ := lk.blks.form'
    obtain ⟨A3, c3, rfl, _⟩ := lk.txs.form
    have hinv := itL_inv [kpC] kpC_ok k (by omega)
    have hall := itL_all [kpC] k
    have hnx := itL_next [kpC] k
    have hpc := HPC.out
    by_cases hlt : k < m + 1
    · have hki : (k : Int) < 1 + (m : Int) := by omega
      have r1 := bk.all
      have hz1 := size_led (.int .i64 (itL [kpC] k).next) (.slice A1 (itL [kpC] k).opn.length c1) (.slice A2 (itL [kpC] k).blks.length c2) (.slice A3 (itL [kpC] k).txs.length c3)
      have AD := Lib.hid (Add_any (itL [kpC] k) hinv.ok (hinv.room (by rw [hnx]; omega)) [kpC] kpC_ok _ _ _ _ _ _ wr lk (HDC.out.1.keep ChgR.lasts (tk.keepsB _ (by intro x hx _ h; simp at hx; omega))))
      have H5 := Lib.hid (And.intro bk tk)
      clear hinv hall hnx lk bk tk hpc
      go_wp2_with (first
        | (refine wpList_load_mid rfl 57 (.tmp 3) rfl p3 0 rfl _ _ r1 Try.underlying57 rfl hz1 ?_)
        | fail)
      refine AD.out.mono ?_
      rintro e x6 ⟨ov', bv', tv', cv', rfl, l6, d6, t6⟩
      obtain ⟨A7, c7, rfl, _⟩ := l6.opn.form
      obtain ⟨A8, c8, rfl, _⟩ := l6.blks.form'
      obtain ⟨A9, c9, rfl, _⟩ := l6.txs.form
      obtain ⟨Ac, cc, rfl, _⟩ := d6.form
      obtain ⟨L6, hL6⟩ : ∃ x, x = addLed (itL [kpC] k) [kpC] := ⟨_, rfl⟩
      rw [← hL6] at l6 ⊢
      have HL6 := Lib.hid (show L6 = itL [kpC] (k + 1) from hL6)
      have hz6 := size_led (.int .i64 L6.next) (.slice A7 L6.opn.length c7) (.slice A8 L6.blks.length c8) (.slice A9 L6.txs.length c9)
      have HB6 := Lib.hid (H5.out.1.turns t6 (by simp))
      have H6 := Lib.hid (And.intro l6 t6)
      clear hL6 l6 d6 t6 AD r1
      go_wp2_with (first
        | (refine wpList_store_blk rfl 57 (.tmp 3) (.tmp 28) rfl p3 (by kernel_rfl) [.int .i64 L6.next, .slice A7 L6.opn.length c7, .slice A8 L6.blks.length c8, .slice A9 L6.txs.length c9] _ 57 (by kernel_rfl) HB6.out rfl hz6 (by intro u hu; simp at hu; rcases hu with rfl | rfl | rfl | rfl <;> rfl) (fun w9 hb9 ht9 hs9 => ?_); have HQ9 := Lib.hid (And.intro hb9 ht9); clear hb9 ht9 hs9)
        | fail)
      have HKN := Lib.hid (show KpR x5 w9 p3 pc (k + 1) by
        have hpc := HPC.out
        have hs := H5.out.2.size
        refine ⟨_, _, _, by rw [← HL6.out]; exact HQ9.out.1, by rw [← HL6.out]; exact (H6.out.1.mono (fun j _ hj => by omega)).keep (HQ9.out.2.keepsB _ (by intro x hx _ h; simp at hx; omega)), (H5.out.2.trans H6.out.2 (by simp)).trans HQ9.out.2 (fun x hx => .inl hx)⟩)
      go_roundw
      case rel => exact ⟨k + 1, by omega, by go_num, HKN.out⟩
      case measure => (simp [intOf] <;> omega)
    · obtain rfl : k = m + 1 := by omega
      obtain ⟨L, hL⟩ : ∃ x, x = itL [kpC] (m + 1) := ⟨_, rfl⟩
      rw [← hL] at hinv hall hnx lk bk
      have hki : ¬ (((m + 1 : Nat) : Int)) < 1 + (m : Int) := by omega
      have bC := HDC.out.2.1.turns tk (by simp; omega)
      have kC := bC.cell 0
      have zC := bC.free 0
      simp only [List.getElem?_cons_zero, List.getElem?_cons_succ] at kC
      obtain ⟨wx, hwx⟩ : ∃ x, x = wr.setCell ⟨pc, 0, none⟩ (.string ⟨#[121]⟩) := ⟨_, rfl⟩
      have tx : Turns [pc] wr wx := by rw [hwx]; exact (Turns.refl _ _).setCell (.inl (by simp)) _
      have bx := bk.turns tx (by simp; omega)
      have lx := lk.keep (tx.keepsB _ (by intro x hx _ h; simp at hx; omega))
      have c1x := bx.cell 1
      have c3x := bx.cell 3
      simp only [List.getElem?_cons_zero, List.getElem?_cons_succ] at c1x c3x
      obtain ⟨nT, hnT⟩ : ∃ x, x = L.txs.length := ⟨_, rfl⟩
      obtain ⟨nO, hnO⟩ : ∃ x, x = L.opn.length := ⟨_, rfl⟩
      rw [← hnT] at c3x
      rw [← hnO] at c1x
      have hn1 : nT ≤ 1000 := by rw [hnT]; have := hinv.few; rw [hnx] at this; omega
      have hn2 : nO ≤ 3 := by rw [hnO]; exact hinv.o3
      have HL := Lib.hid (And.intro hinv (And.intro hall (And.intro lx (And.intro hnT hnO))))
      have HBW := Lib.hid (HDC.out.2.2.trans ((tk.mono (L' := [p3, pc]) (by simp)).trans (tx.mono (L' := [p3, pc]) (by simp)) (fun x hx => .inl hx)) (by intro x hx; simp at hx; exact .inr (by have := HX.out.2.2.2.1; have := HWS.out; omega)))
      have HWX := Lib.hid hwx
      clear hinv hall hnx lk bk tk hL bC hwx tx bx lx hnT hnO hpc
      rw [show ((m + 1 : Nat) : Int) = (m : Int) + 1 by omega] at *
      go_upto_region 11 with fail
      rw [← HWX.out]
      clear kC zC
      go_wp2_with fail
      go_loopw [6, 7] (fun i j wr => ∃ k : Nat, k ≤ nT ∧ i = .int .i64 k ∧ wx = wr) (fun i _ _ => nT - (intOf i).toNat)
      case atStart => exact ⟨0, by omega, rfl, rfl⟩
      case round =>
        obtain ⟨k, hk, rfl, rfl⟩ := hrel
        by_cases hlt : k < nT
        · have hki : (k : Int) < (nT : Int) := by omega
          have hkl : k < L.txs.length := by have := HL.out.2.2.2.1; omega
          obtain ⟨b0, off0, cc0, cs0, hv0, _, _, _, rg0, xv, rfl, hx0⟩ := HL.out.2.2.1.txs.at_ (by omega) k hkl
          injection hv0 with e1 e2 e3
          subst e1 e3
          clear e2
          have q0 := rg0 0 _ rfl
          rw [Nat.mul_one, Nat.add_zero] at q0
          have hmem := HL.out.2.1.1 _ (List.getElem_mem hkl)
          have hlen := HL.out.1.ne _ (List.getElem_mem hkl)
          obtain ⟨l, hl⟩ : ∃ l, l = L.txs[k] := ⟨_, rfl⟩
          rw [← hl] at hx0 hmem hlen
          obtain ⟨Ax, cx, rfl, _⟩ := hx0.form
          obtain ⟨nl, hnl⟩ : ∃ x, x = l.length := ⟨_, rfl⟩
          rw [← hnl] at q0 hlen
          have HX0 := Lib.hid (And.intro hx0 (And.intro hmem hnl))
          clear hl rg0 hx0 hmem hnl hkl
          go_wp2_with fail
          go_loopw [7] (fun j wr => ∃ i : Nat, i ≤ nl ∧ j = .int .i64 i ∧ wx = wr) (fun j _ => nl - (intOf j).toNat)
          case atStart => exact ⟨0, by omega, rfl, rfl⟩
          case round =>
            obtain ⟨i, hi, rfl, rfl⟩ := hrel
            by_cases hlt2 : i < nl
            · have hii : (i : Int) < (nl : Int) := by omega
              have hil : i < l.length := by have := HX0.out.2.2; omega
              obtain ⟨b1, off1, cc1, cs1, hv1, _, _, _, rg1, cv1, rfl, hx1⟩ := HX0.out.1.at_ (by omega) i hil
              injection hv1 with e1 e2 e3
              subst e1 e3
              clear e2
              have q1 := rg1 1 _ rfl
              have hch := HX0.out.2.1 _ (List.getElem_mem hil)
              rw [hch] at hx1
              obtain ⟨b2, off2, cc2, cs2, rfl, _, _, _, rg2, rv2, rfl, _⟩ := hx1.at_ (by omega) 0 (by simp)
              have q2 := rg2 0 _ rfl
              simp only [Nat.zero_mul, Nat.add_zero] at q2
              rw [show ([kpC][0]).table = ⟨#[120]⟩ from rfl] at q2
              have hcap : 1 ≤ cc2 ∨ True := .inr trivial
              clear rg1 hx1 rg2 hch hcap
              have hv0' := HX0.out.2.2
              go_wp2_with fail
              go_roundw
              case rel => exact ⟨i + 1, by omega, by go_num, by first | rfl | trivial⟩
              case measure => (simp [intOf] <;> omega)
            · obtain rfl : i = nl := by omega
              go_wp2_with fail
              go_roundw
              case rel => exact ⟨k + 1, by omega, by go_num, by first | rfl | trivial⟩
              case measure => (simp [intOf] <;> omega)
        · obtain rfl : k = nT := by omega
          go_wp2_with fail
          go_loopw [8] (fun j wr => ∃ i : Nat, i ≤ nO ∧ j = .int .i64 i ∧ wx = wr) (fun j _ => nO - (intOf j).toNat)
          case atStart => exact ⟨0, by omega, rfl, rfl⟩
          case round =>
            obtain ⟨i, hi, rfl, rfl⟩ := hrel
            by_cases hlt2 : i < nO
            · have hii : (i : Int) < (nO : Int) := by omega
              have hil : i < L.opn.length := by have := HL.out.2.2.2.2; omega
              have HX0 := Lib.hid (And.intro HL.out.2.2.1.opn (And.intro HL.out.2.1.2 HL.out.2.2.2.2))
              obtain ⟨b1, off1, cc1, cs1, hv1, _, _, _, rg1, cv1, rfl, hx1⟩ := HX0.out.1.at_ (by omega) i hil
              injection hv1 with e1 e2 e3
              subst e1 e3
              clear e2
              have q1 := rg1 1 _ rfl
              have hch := HX0.out.2.1 _ (List.getElem_mem hil)
              rw [hch] at hx1
              obtain ⟨b2, off2, cc2, cs2, rfl, _, _, _, rg2, rv2, rfl, _⟩ := hx1.at_ (by omega) 0 (by simp)
              have q2 := rg2 0 _ rfl
              simp only [Nat.zero_mul, Nat.add_zero] at q2
              rw [show ([kpC][0]).table = ⟨#[120]⟩ from rfl] at q2
              have hcap : 1 ≤ cc2 ∨ True := .inr trivial
              clear rg1 hx1 rg2 hch hcap
              go_wp2_with fail
              go_roundw
              case rel => exact ⟨i + 1, by omega, by go_num, by first | rfl | trivial⟩
              case measure => (simp [intOf] <;> omega)
            · obtain rfl : i = nO := by omega
              go_wp2_with fail
              go_ret
              exact ⟨rfl, below_of' HBW.out⟩
end Go.Proofs.Ytoahnhphfabajaa
