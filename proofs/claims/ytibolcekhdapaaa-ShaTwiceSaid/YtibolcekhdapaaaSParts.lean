/- ShaParts, walked. -/
import Derived.Test.YtibolcekhdapaaaCutS
namespace Go.Proofs.Ytibolcekhdapaaa
open Go.RowKit
set_option linter.unusedVariables false
set_option maxRecDepth 10000
set_option linter.unusedSimpArgs false
set_option linter.unnecessarySimpa false

theorem T22 : SliceTy Try.prog 22 26 (.slice none 0 0) 1 24 := ⟨Try.underlying22, by kernel_rfl, rfl, by omega⟩
/-- A row of one's own of slices of bytes, made behind W0; the bytes lie below B. -/
structure PMine (W0 w : World) (B : Nat) (v : Value) (ps : List (Value × List UInt8)) : Prop where
  own : w.ownsRow W0.heap.size 26 1 v ps.length (ps.map (·.1))
  turns : Turns [] W0 w
  all : ∀ p ∈ ps, Sl w B 1 p.1 p.2.length (bvs p.2)
  one : ∀ p ∈ ps, p.1.oneCell' = true
theorem PMine.nil {W0 w : World} {B : Nat} (t : Turns [] W0 w) : PMine W0 w B (.slice none 0 0) [] := ⟨World.ownsRow_nil _ _ _ _, t, by simp, by simp⟩
theorem PMine.len {W0 w : World} {B : Nat} {v : Value} {ps : List (Value × List UInt8)} (h : PMine W0 w B v ps) : ∃ A c, v = .slice A ps.length c ∧ ps.length ≤ c := by
  obtain ⟨_, A, c, rfl, hc, _⟩ := Sl.of_own h.own
  exact ⟨A, c, rfl, hc⟩
theorem pmine_push {W0 w : World} {B : Nat} {v : Value} {ps : List (Value × List UInt8)} (h : PMine W0 w B v ps) (hB : B ≤ W0.heap.size) (hm : ps.length ≤ 1000000) (p : Value × List UInt8) (h1 : p.1.oneCell' = true) (hp : Sl w B 1 p.1 p.2.length (bvs p.2)) (ty : TypeId) :
    ∃ v' w', (Builtin.append_ #[22, 22] ty #[v, .slice (some ⟨w.heap.size, 0, none⟩) 1 1]).run Try.prog (w.alloc (.cells #[p.1] 26)) = .ok v' w' ∧ PMine W0 w' B v' (ps ++ [p]) := by
  have hx := Sl.new w #[p.1] 26 1 1 rfl (by simp [maxLen])
  obtain ⟨v1, w1, hr1, ap1⟩ := run_append_rd (P := Try.prog) (w.alloc (.cells #[p.1] 26)) T22 ty (h.own.alloc _) hx (by intro u hu; simp at hu; subst hu; exact h1) (by simp only [maxLen]; omega) (by omega) (by have := h.turns.size; simp; omega)
  have tg : Turns v.ownBlock.toList (w.alloc (.cells #[p.1] 26)) w1 := Turns.of_grown ap1.grown (by intro k hk; exact .inl (by simpa using hk))
  have t0 : Turns [] W0 w1 := ((h.turns.alloc _).trans tg (by intro x hx; exact .inr (h.own.lt x (by simpa using hx)).1))
  have hback : ∀ (x : Value) (n : Nat) (xs : List Value), Sl w B 1 x n xs → Sl w1 B 1 x n xs := fun x n xs hs => by
    have hs1 := hs.alloc (Nat.le_trans hB h.turns.size) (.cells #[p.1] 26)
    obtain ⟨hl, A, c, rfl, a1, a2, a3, hr⟩ := hs1
    refine ⟨hl, A, c, rfl, a1, a2, a3, fun hn => ?_⟩
    obtain ⟨b, off, rfl, hb, hc⟩ := hr hn
    refine ⟨b, off, rfl, hb, fun j u hu => ?_⟩
    rw [World.cell?_of_block (w := w.alloc (.cells #[p.1] 26)) (w' := w1) (tg.block b (by have := h.turns.size; simp; omega) (fun hm => by
      have := (h.own.lt b (by simpa using hm)).1
      omega))]
    exact hc j u hu
  refine ⟨v1, w1, hr1, ?_, t0, ?_, ?_⟩
  · have := ap1.own
    simpa using this
  · intro q hq
    rcases List.mem_append.1 hq with hq | hq
    · exact hback _ _ _ (h.all q hq)
    · obtain rfl : q = p := by simpa using hq
      exact hback _ _ _ hp
  · intro q hq
    rcases List.mem_append.1 hq with hq | hq
    · exact h.one q hq
    · obtain rfl : q = p := by simpa using hq
      exact h1
theorem Sl.cell1 {w : World} {B n c : Nat} {A : Option Addr} {xs : List Value} (h : Sl w B 1 (.slice A n c) n xs) {k : Nat} (hk : k < n) : ∃ b off u, A = some ⟨b, off, none⟩ ∧ b < B ∧ xs[k]? = some u ∧ w.cell? ⟨b, off + k, none⟩ = some u := by
  obtain ⟨hl, A', c', hv, _, _, _, hr⟩ := h
  injection hv with e1 _ _
  subst e1
  have hkl : k < xs.length := by omega
  obtain ⟨b, off, e, hb, hc⟩ := hr.at_ hkl
  exact ⟨b, off, _, e, hb, List.getElem?_eq_getElem hkl, hc⟩
theorem PMine.sl {W0 w : World} {B : Nat} {v : Value} {ps : List (Value × List UInt8)} (h : PMine W0 w B v ps) (hB : B ≤ w.heap.size) : Sl w w.heap.size 1 v ps.length (ps.map (·.1)) ∧ ∀ p ∈ ps, Sl w w.heap.size 1 p.1 p.2.length (bvs p.2) := ⟨Sl.of_own h.own, fun p hp => (h.all p hp).more hB⟩
/-- What the loop holds: so many parts, over so many bytes of b. -/
def PartsW (w0 wr : World) (B : Nat) (bs : List UInt8) (k at_ : Nat) (v : Value) : Prop := ∃ ps : List (Value × List UInt8), ps.length = k ∧ flat ps = bs.take at_ ∧ PMine w0 wr B v ps
set_option maxRecDepth 100000 in
set_option maxHeartbeats 2000000 in
theorem ShaParts_walk (A A' : Option Addr) (n c n' c' : Nat) (bs : List UInt8) (zs : List Int) (w : World) (h : Sl w w.heap.size 1 (.slice A n c) n (bvs bs)) (h' : Sl w w.heap.size 1 (.slice A' n' c') n' (zs.map (Value.int .i64))) (hz : ∀ z ∈ zs, -9223372036854775808 ≤ z ∧ z ≤ 9223372036854775807) :
    Calls Try.prog 7 #[.slice A n c, .slice A' n' c'] w fun e w' => e = .returned (.bool true) ∧ Below w.heap.size w w' := by
  have hbn := h.1
  rw [bvs_length, Nat.mul_one] at hbn
  have hzn := h'.1
  rw [List.length_map, Nat.mul_one] at hzn
  obtain ⟨_, _, hv, hnc, hcm, _⟩ := h.form
  injection hv with e1 e2 e3
  subst e3
  clear e1 e2
  have KN := Lib.hid (known_any w)
  have HS := Lib.hid (And.intro h (And.intro h' (And.intro hbn (And.intro hzn (And.intro hnc hcm)))))
  clear h h' hbn hzn hnc hcm
  by_cases h1 : 300 < n
  · have h1i : (300 : Int) < (n : Int) := by omega
    clear h1
    go_enter Try.func7, Try.ntmps7
    go_wp2_with fail
    refine KN.out.mono ?_
    rintro e w1 ⟨rfl, t1⟩
    have HT := Lib.hid (below_of t1)
    clear t1
    go_wp2_with fail
    go_ret
    exact ⟨rfl, HT.out⟩
  by_cases h2 : 20 < n'
  · have h1i : ¬ (300 : Int) < (n : Int) := by omega
    have h2i : (20 : Int) < (n' : Int) := by omega
    clear h1 h2
    go_enter Try.func7, Try.ntmps7
    go_wp2_with fail
    refine KN.out.mono ?_
    rintro e w1 ⟨rfl, t1⟩
    have HT := Lib.hid (below_of t1)
    clear t1
    go_wp2_with fail
    go_ret
    exact ⟨rfl, HT.out⟩
  have h1i : ¬ (300 : Int) < (n : Int) := by omega
  have h2i : ¬ (20 : Int) < (n' : Int) := by omega
  have HB := Lib.hid (And.intro h1 h2)
  have HZ := Lib.hid hz
  clear h1 h2 hz
  go_enter Try.func7, Try.ntmps7
  go_wp2_with fail
  refine KN.out.mono ?_
  rintro e w1 ⟨rfl, t1⟩
  have HT1 := Lib.hid t1
  clear t1 KN
  go_wp2_with fail
  go_loopw [5, 6, 7] (fun v a i wr => ∃ (k q : Nat), k ≤ n' ∧ q ≤ n ∧ i = .int .i64 k ∧ a = .int .i64 q ∧ PartsW w1 wr w.heap.size bs k q v) (fun _ _ i _ => n' - (intOf i).toNat)
  case atStart => exact ⟨0, 0, by omega, by omega, rfl, rfl, [], rfl, rfl, PMine.nil (Turns.refl _ _)⟩
  case round =>
    obtain ⟨k, q, hk, hq, rfl, rfl, ps, hpk, hfl, mp⟩ := hrel
    obtain ⟨A3, c3, rfl, hc3⟩ := mp.len
    rw [hpk] at hc3
    by_cases hlt : k < n'
    · have hki : (k : Int) < (n' : Int) := by omega
      have h'r := HS.out.2.1.below_le (below_of (HT1.out.trans mp.turns (by simp))) (Nat.le_refl _)
      obtain ⟨b, off, u, rfl, _, hu, cb⟩ := h'r.cell1 hlt
      obtain ⟨z, hz, rfl⟩ : ∃ z, zs[k]? = some z ∧ u = .int .i64 z := by
        rw [List.getElem?_map] at hu
        cases hzk : zs[k]? with
        | none => rw [hzk] at hu; cases hu
        | some z => rw [hzk] at hu; injection hu with hu; exact ⟨z, rfl, hu.symm⟩
      have hzb := HZ.out z (List.mem_of_getElem? hz)
      have hqi : (q : Int) ≤ (n : Int) := by omega
      have wq : IntKind.i64.wrap ((n : Int) - (q : Int)) = ((n - q : Nat) : Int) := by rw [IntWalk.i64_in _ (by omega)]; omega
      obtain ⟨m, hm⟩ : ∃ m, m = n - q := ⟨_, rfl⟩
      rw [← hm] at wq
      have hmi : (m : Int) ≤ 300 := by have := HB.out; omega
      obtain ⟨d, hd⟩ : ∃ x : Nat, (x : Int) = z % ((m : Int) + 1) := ⟨(z % ((m : Int) + 1)).toNat, by have := Int.emod_nonneg z (show (m : Int) + 1 ≠ 0 by omega); omega⟩
      have hdm : d ≤ m := by have := Int.emod_lt_of_pos z (show 0 < (m : Int) + 1 by omega); omega
      have wqd : IntKind.i64.wrap ((q : Int) + (d : Int)) = (q : Int) + (d : Int) := IntWalk.i64_in _ (by have := HB.out; omega)
      have hsr := HS.out.1.below_le (below_of (HT1.out.trans mp.turns (by simp))) (Nat.le_refl _)
      have hst := (sl_off hsr hq).to (k := d) (by omega)
      rw [bvs_drop, bvs_take] at hst
      have hrm := run_mid A n c q d (by omega) HS.out.2.2.2.2.1
      have hdl : ((bs.drop q).take d).length = d := by rw [List.length_take, List.length_drop, HS.out.2.2.1]; omega
      obtain ⟨v9, w9, hr9, m9⟩ := pmine_push mp HT1.out.size (by have := HB.out; omega) (.slice (adr A c q) d (c - q), (bs.drop q).take d) rfl (by rw [hdl]; exact hst) 22
      have hfl9 : flat (ps ++ [(Value.slice (adr A c q) d (c - q), (bs.drop q).take d)]) = bs.take (q + d) := by
        rw [List.take_add, ← hfl]; simp [flat]
      obtain ⟨A9, c9, rfl, _⟩ := m9.len
      have hl9 : (ps ++ [(Value.slice (adr A c q) d (c - q), (bs.drop q).take d)]).length = k + 1 := by simp [hpk]
      rw [hl9] at m9 hr9
      have M9 := Lib.hid (show PartsW w1 w9 w.heap.size bs (k + 1) (q + d) (.slice A9 (k + 1) c9) from ⟨_, hl9, hfl9, m9⟩)
      have HD := Lib.hid (And.intro hd (And.intro hdm hm))
      have HQ := Lib.hid hq
      clear hfl mp hsr hst hdl m9 hfl9 hl9 hd hdm hm hlt hk hq hu hz h'r hpk hc3
      go_wp2_with fail
      refine (within_any z ((m : Int) + 1) wr hzb.1 hzb.2 (by omega) (by omega)).mono ?_
      rintro e w5 ⟨rfl, rfl⟩
      rw [← HD.out.1]
      clear wq
      go_wp2_with (first
        | (at_builtin; refine wpList_append_at rfl (.tmp 35) (.tmp 42) rfl hr9 rfl rfl ?_)
        | fail)
      go_roundw
      case rel => exact ⟨k + 1, q + d, by omega, by have := HD.out; have := HQ.out; omega, by go_num, by go_num, M9.out⟩
      case measure => (simp [intOf] <;> omega)
    · obtain rfl : k = n' := by omega
      have hsr := HS.out.1.below_le (below_of (HT1.out.trans mp.turns (by simp))) (Nat.le_refl _)
      have hst := sl_off hsr hq
      rw [bvs_drop] at hst
      have hqi : (q : Int) ≤ (n : Int) := by omega
      have hrm := run_off A n c q hq HS.out.2.2.2.2.1
      have hdl : (bs.drop q).length = n - q := by rw [List.length_drop, HS.out.2.2.1]
      obtain ⟨v9, w9, hr9, m9⟩ := pmine_push mp HT1.out.size (by have := HB.out; omega) (.slice (adr A c q) (n - q) (c - q), bs.drop q) rfl (by rw [hdl]; exact hst) 22
      obtain ⟨ps9, hps9⟩ : ∃ p, p = ps ++ [(Value.slice (adr A c q) (n - q) (c - q), bs.drop q)] := ⟨_, rfl⟩
      have hfl9 : flat ps9 = bs := by
        rw [hps9]
        have : flat (ps ++ [(Value.slice (adr A c q) (n - q) (c - q), bs.drop q)]) = flat ps ++ bs.drop q := by simp [flat]
        rw [this, hfl, List.take_append_drop]
      obtain ⟨A9, c9, rfl, _⟩ := m9.len
      have hl9 : ps9.length = k + 1 := by rw [hps9]; simp [hpk]
      rw [← hps9] at m9 hr9
      rw [hl9] at hr9
      have hs9 := m9.sl (Nat.le_trans (Nat.le_trans HT1.out.size (Nat.le_refl _)) m9.turns.size)
      have SU := Sum_any _ ps9 w9 hs9.1 hs9.2 (by rw [hfl9, HS.out.2.2.1]; have := HB.out; omega) (by rw [hl9]; have := HB.out; omega)
      rw [hfl9, hl9] at SU
      have HSU := Lib.hid SU
      have T9 := Lib.hid (HT1.out.trans m9.turns (by simp))
      have eq1 := eqlS (sha bs) (sha_len bs)
      have eq2 := eqlS (sha []) (sha_len [])
      clear hsr hst hdl hfl mp SU hs9 hl9 hfl9 hps9 m9 hpk hlt hc3
      go_upto_region 14 with (first
        | (at_builtin; refine wpList_append_at rfl (.tmp 47) (.tmp 51) rfl hr9 rfl rfl ?_)
        | fail)
      clear hr9
      go_wp2_with fail
      refine HSU.out.mono ?_
      rintro e x1 ⟨rfl, t1⟩
      have H1 := Lib.hid (T9.out.trans t1 (by simp))
      clear t1
      go_wp2_with fail
      refine (refSum_any A n c w.heap.size bs x1 (HS.out.1.below_le (below_of H1.out) (Nat.le_refl _)) H1.out.size (by have := HB.out; have := HS.out; omega)).mono ?_
      rintro e x2 ⟨rfl, t2⟩
      have H2 := Lib.hid (H1.out.trans t2 (by simp))
      clear t2
      go_wp2_with fail
      refine (Sum_any (.slice none 0 0) [] x2 Sl.nil (by simp) (by simp [flat]) (by simp)).mono ?_
      rintro e x3 ⟨rfl, t3⟩
      rw [show flat [] = [] from rfl]
      have H3 := Lib.hid (H2.out.trans t3 (by simp))
      clear t3
      go_wp2_with fail
      refine (refSum_any none 0 0 0 [] x3 Sl.nil (by omega) (by simp)).mono ?_
      rintro e x4 ⟨rfl, t4⟩
      have H4 := Lib.hid (H3.out.trans t4 (by simp))
      have SN := Sum_two (.slice none 0 0) (.slice none 0 0) [] [] x4 Sl.nil Sl.nil (by simp)
      rw [show ([] : List UInt8) ++ [] = [] from rfl] at SN
      have HSN := Lib.hid SN
      clear t4 SN
      go_wp2_with fail
      refine HSN.out.mono ?_
      rintro e x5 ⟨rfl, t5⟩
      have H5 := Lib.hid (H4.out.trans t5 (by simp))
      clear t5
      go_wp2_with fail
      refine (refSum_any none 0 0 0 [] x5 Sl.nil (by omega) (by simp)).mono ?_
      rintro e x6 ⟨rfl, t6⟩
      have H6 := Lib.hid (H5.out.trans t6 (by simp))
      clear t6
      go_wp2_with fail
      go_ret
      exact ⟨rfl, below_of H6.out⟩
end Go.Proofs.Ytibolcekhdapaaa
