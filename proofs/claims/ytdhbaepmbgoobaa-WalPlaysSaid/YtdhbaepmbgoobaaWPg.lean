/- Bytes are written behind a log's end: (*Log).pages. -/
import Derived.Test.YtdhbaepmbgoobaaWOpen
import Derived.Test.YtdhbaepmbgoobaaLib
namespace Go.Proofs.Ytdhbaepmbgoobaa
open Go.RowKit
set_option linter.unusedVariables false
set_option maxRecDepth 10000
set_option linter.unusedSimpArgs false
set_option linter.unnecessarySimpa false

/-- A row is written, page by page, till an error comes. -/
def wchunks : Nat → DS → Nat → List UInt8 → DS × Int
  | 0, st, _, _ => (st, 0)
  | m + 1, st, k, b => if b = [] then (st, 0) else if st.code = 0 then wchunks m (st.wrote k (pageOf (b.take 64))) (k + 1) (b.drop 64) else (st.wrote k (pageOf (b.take 64)), st.code)
theorem wchunks_nil (m : Nat) (st : DS) (k : Nat) : wchunks m st k [] = (st, 0) := by cases m <;> simp [wchunks]
theorem wchunks_fuel : ∀ (m n : Nat) (st : DS) (k : Nat) (b : List UInt8), b.length ≤ m → b.length ≤ n → wchunks m st k b = wchunks n st k b
  | 0, n, st, k, b, h1, h2 => by
    have : b = [] := List.eq_nil_of_length_eq_zero (by omega)
    subst this
    rw [wchunks_nil, wchunks_nil]
  | m + 1, 0, st, k, b, h1, h2 => by
    have : b = [] := List.eq_nil_of_length_eq_zero (by omega)
    subst this
    rw [wchunks_nil, wchunks_nil]
  | m + 1, n + 1, st, k, b, h1, h2 => by
    rw [wchunks, wchunks]
    by_cases hb : b = []
    · rw [if_pos hb, if_pos hb]
    · rw [if_neg hb, if_neg hb]
      have hp : 0 < b.length := List.length_pos_iff.2 hb
      have hl : (b.drop 64).length = b.length - 64 := List.length_drop
      rw [wchunks_fuel m n _ _ _ (by omega) (by omega)]
theorem wchunks_step (st : DS) (k : Nat) (b : List UInt8) (hb : 0 < b.length) :
    wchunks b.length st k b = if st.code = 0 then wchunks (b.drop 64).length (st.wrote k (pageOf (b.take 64))) (k + 1) (b.drop 64) else (st.wrote k (pageOf (b.take 64)), st.code) := by
  obtain ⟨n, hn⟩ : ∃ n, b.length = n + 1 := ⟨b.length - 1, by omega⟩
  have hl : (b.drop 64).length = b.length - 64 := List.length_drop
  rw [hn, wchunks, if_neg (by intro h; rw [h] at hb; simp at hb), wchunks_fuel n (b.drop 64).length _ _ _ (by omega) (Nat.le_refl _)]
/-- The bytes with what lies ahead of them on their first page. -/
def DS.pagesB (st : DS) (at_ : Nat) (b : List UInt8) : List UInt8 := (pageAt st.now (1 + at_ / 64)).take (at_ % 64) ++ b
/-- What pages leaves, and says. -/
def DS.pages (st : DS) (at_ : Nat) (b : List UInt8) : DS × Int :=
  if (wchunks (st.pagesB at_ b).length st (1 + at_ / 64) (st.pagesB at_ b)).2 = 0 then ((wchunks (st.pagesB at_ b).length st (1 + at_ / 64) (st.pagesB at_ b)).1.sync, (wchunks (st.pagesB at_ b).length st (1 + at_ / 64) (st.pagesB at_ b)).1.syncCode)
  else wchunks (st.pagesB at_ b).length st (1 + at_ / 64) (st.pagesB at_ b)
theorem pages_ok (st : DS) (at_ : Nat) (b : List UInt8) (s1 : DS) (h : wchunks (st.pagesB at_ b).length st (1 + at_ / 64) (st.pagesB at_ b) = (s1, 0)) : st.pages at_ b = (s1.sync, s1.syncCode) := by
  unfold DS.pages; rw [h, if_pos rfl]
theorem pages_no (st : DS) (at_ : Nat) (b : List UInt8) (s1 : DS) (c : Int) (hc : c ≠ 0) (h : wchunks (st.pagesB at_ b).length st (1 + at_ / 64) (st.pagesB at_ b) = (s1, c)) : st.pages at_ b = (s1, c) := by
  unfold DS.pages; rw [h, if_neg hc]
theorem wrote_alive (st : DS) (n : Nat) (pg : List UInt8) (hd : st.dead = false) (hc : st.code = 0) : (st.wrote n pg).dead = false := by
  unfold DS.code at hc
  unfold DS.wrote DS.counted
  by_cases h : st.left = 1
  · rw [if_pos h] at hc; cases hc
  · simp [hd, h]
theorem wrote_wl (st : DS) (n : Nat) (pg : List UInt8) : (st.wrote n pg).writes.length = st.writes.length + 1 := by
  unfold DS.wrote DS.counted; simp
theorem code_two (st : DS) : st.code = 0 ∨ st.code = 15 := by unfold DS.code; split <;> simp
/-- A slice in a kept block, or ahead of all, reads as it did. -/
theorem sl_kept {w0 w w' : World} {X : List Nat} {n c m size : Nat} {A : Option Addr} {xs : List Value} (h : Sl w w.heap.size size (.slice A n c) m xs) (b : Below w0.heap.size w0 w) (b' : Below w0.heap.size w0 w') (sm : Same X w w') (hv : ∀ x, (Value.slice A n c).ownBlock = some x → x ∈ X ∨ x < w0.heap.size) : Sl w' w'.heap.size size (.slice A n c) m xs := by
  obtain ⟨hl, A', c', he, h1, h2, h3, hr⟩ := h
  refine ⟨hl, A', c', he, h1, h2, h3, fun hn => ?_⟩
  obtain ⟨x, off, rfl, hb, hc⟩ := hr hn
  injection he with e1 e2 e3
  subst e1
  have hh : w'.heap[x]? = w.heap[x]? := by
    rcases hv x rfl with hx | hx
    · exact sm x hx
    · rw [b.block x hx, b'.block x hx]
  refine ⟨x, off, rfl, ?_, fun j u hu => (World.cell?_of_block hh).trans (hc j u hu)⟩
  rcases Nat.lt_or_ge x w'.heap.size with h | h
  · exact h
  · rw [Array.getElem?_eq_none h, Array.getElem?_eq_getElem hb] at hh
    cases hh
/-- Two rows of bytes, one behind the other. -/
theorem Cat2_any (w : World) (v1 v2 : Value) (b1 b2 : List UInt8) (h1 : Sl w w.heap.size 1 v1 b1.length (bvs b1)) (h2 : Sl w w.heap.size 1 v2 b2.length (bvs b2)) (hn : b1.length + b2.length ≤ 1000000000) :
    Calls Try.prog 34 #[.slice (some ⟨w.heap.size, 0, none⟩) 2 2] (w.alloc (.cells #[v1, v2] 34)) fun e w' => ∃ v', e = .returned v' ∧ w'.ownsRow w.heap.size 5 1 v' (b1 ++ b2).length (bvs (b1 ++ b2)) ∧ Below w.heap.size w w' := by
  have s1 := h1.alloc (Nat.le_refl _) (.cells #[v1, v2] 34)
  have s2 := h2.alloc (Nat.le_refl _) (.cells #[v1, v2] 34)
  have s3 := Sl.new w #[v1, v2] 34 2 1 rfl (by simp [maxLen])
  refine (Concat_any _ [(v1, b1), (v2, b2)] _ (s3.more (by simp)) ?_ (by simp [flat]; omega) (by simp)).mono ?_
  · intro p hp
    simp at hp
    rcases hp with rfl | rfl
    · exact s1.more (by simp)
    · exact s2.more (by simp)
  rintro e w1 ⟨v1, rfl, own1, bel1⟩
  exact ⟨_, rfl, own_more (own_cast own1 (by simp [flat]) (by simp [flat])) (by simp), ((Below.refl _ _).alloc (Nat.le_refl _) _).trans (bel1.mono (by simp))⟩
theorem Same.trans {X : List Nat} {a b c : World} (h : Same X a b) (k : Same X b c) : Same X a c := fun x hx => (k x hx).trans (h x hx)
theorem Same.sub {X Y : List Nat} {a b : World} (h : Same X a b) (hY : ∀ x ∈ Y, x ∈ X) : Same Y a b := fun x hx => h x (hY x hx)
theorem At.same {w0 w w' : World} {B g p : Nat} {st : DS} {X : List Nat} (h : At w0 w B g p st X) (t : Turns [] w w') : Same X w w' := fun x hx => t.block x (h.side x hx).2 (by simp)

/-- The loop: what is left to be written. -/
def PgR (w0 : World) (B g p : Nat) (X : List Nat) (Y0 : World) (res : DS × Int) (b k : Value) (wr : World) : Prop :=
  ∃ (kk : Nat) (A1 : Option Addr) (c1 : Nat) (bc : List UInt8) (s1 : DS), k = .int .i64 kk ∧ b = .slice A1 bc.length c1 ∧ Sl wr wr.heap.size 1 (.slice A1 bc.length c1) bc.length (bvs bc) ∧ (∀ x, (Value.slice A1 bc.length c1).ownBlock = some x → x ∈ X ∨ x < w0.heap.size) ∧ At w0 wr B g p s1 X ∧ Same X Y0 wr ∧ s1.dead = false ∧ 1 ≤ kk ∧ kk ≤ p ∧ (kk - 1) * 64 + bc.length ≤ (p - 1) * 64 ∧ s1.writes.length ≤ 900000 + kk ∧ res = wchunks bc.length s1 kk bc

set_option maxRecDepth 100000 in
set_option maxHeartbeats 8000000 in
theorem pages_any {w0 w : World} {B g p : Nat} {st : DS} {X : List Nat} (h : At w0 w B g p st X) (gl at_ : Nat) (ct : Int) (hg : gl ∈ X) (hb : Blk w gl (LG g at_ ct) 86)
    (A : Option Addr) (c : Nat) (bs : List UInt8) (hs : Sl w w.heap.size 1 (.slice A bs.length c) bs.length (bvs bs)) (hA : ∀ x, (Value.slice A bs.length c).ownBlock = some x → x ∈ X ∨ x < w0.heap.size) (hd : st.dead = false) (hne : 0 < bs.length) (hroom : at_ + bs.length ≤ (p - 1) * 64) (hwl : st.writes.length ≤ 900000) :
    Calls Try.prog 33 #[.pointer (some ⟨gl, 0, none⟩), .slice A bs.length c] w (Done w0 w B g p (st.pages at_ bs).1 X (st.pages at_ bs).2) := by
  have hp := h.pages
  have LD := Lib.hid (IntLoad_any ⟨gl, 1, none⟩ at_ w (by have := hb.cell 1; simpa [LG] using this))
  have pok := pages_ok st at_ bs
  have pno := pages_no st at_ bs
  have hpl := pageAt_length st.now (1 + at_ / 64) p h.lens.2 (by omega)
  obtain ⟨b0, hb0⟩ : ∃ b0, b0 = st.pagesB at_ bs := ⟨_, rfl⟩
  obtain ⟨k0, hk0⟩ : ∃ k0, k0 = 1 + at_ / 64 := ⟨_, rfl⟩
  obtain ⟨res, hres⟩ : ∃ res, res = wchunks (st.pagesB at_ bs).length st (1 + at_ / 64) (st.pagesB at_ bs) := ⟨_, rfl⟩
  rw [← hres] at pok pno
  rw [← hb0, ← hk0] at hres
  obtain ⟨fin, hfin⟩ : ∃ f, f = st.pages at_ bs := ⟨_, rfl⟩
  rw [← hfin] at pok pno ⊢
  have hb0' := hb0
  unfold DS.pagesB at hb0
  rw [← hk0] at hb0 hpl
  have hl0 : b0.length = at_ % 64 + bs.length := by rw [hb0, List.length_append, List.length_take, hpl]; omega
  have hk1 : 1 ≤ k0 := by omega
  have hkr : (k0 - 1) * 64 + b0.length ≤ (p - 1) * 64 := by omega
  have hkp : k0 < p := by omega
  have hat : at_ ≤ 300000 := by omega
  have c0 := hb.cell 0
  simp only [LG, List.getElem?_cons_zero] at c0
  have HS := Lib.hid hs
  have HA := Lib.hid hA
  have H0 := Lib.hid (And.intro h hb)
  have HP := Lib.hid (And.intro pok pno)
  have HR := Lib.hid hres
  have HB := Lib.hid hb0
  have HL := Lib.hid (And.intro hl0 (And.intro hkr hwl))
  have hq2 := Lib.hid (show 1 + ((at_ : Int) / 64) = k0 by omega)
  have hqb : 0 ≤ (at_ : Int) / 64 ∧ (at_ : Int) / 64 ≤ 10000 := by omega
  have HK0 := Lib.hid hk0
  clear hk0
  have HD0 := Lib.hid hd
  clear hd h hb hs hA pok pno hres hb0 hfin hb0' hl0 hkr hwl
  go_enter Try.func33, Try.ntmps33
  go_wp2_with fail
  refine LD.out.mono ?_
  rintro e ww ⟨rfl, rfl⟩
  by_cases hr : at_ % 64 = 0
  · have hr' : (at_ : Int) % 64 = 0 := by omega
    have e0 : b0 = bs := by rw [HB.out, hr]; simp
    subst e0
    clear HB
    obtain ⟨Y0, hY0⟩ : ∃ Y, Y = w := ⟨_, rfl⟩
    subst hY0
    have SM := Lib.hid (show Same X Y0 Y0 from fun x hx => rfl)
    have BL := Lib.hid H0.out.2
    go_wp2_with fail
    rw [hq2.out]
    clear hr' hr
    go_loopw [1, 6] (fun b k wr => PgR w0 B g p X Y0 res b k wr) (fun b _ _ => lenV b)
    case atStart => exact ⟨k0, A, c, b0, st, (by first | rfl | go_num), rfl, HS.out, HA.out, H0.out.1, (fun x hx => rfl), HD0.out, hk1, by omega, HL.out.2.1, by have := HL.out.2.2; omega, HR.out⟩
    case round =>
      obtain ⟨kk, A1, c1, bc, s1, rfl, rfl, hsl, hown, hat1, hsm, hds, hk1', hkp', hkr', hwl', hres'⟩ := hrel
      obtain ⟨Y, hY⟩ : ∃ Y, Y = wr := ⟨_, rfl⟩
      subst hY
      have hcb : bc.length ≤ c1 ∧ c1 ≤ 9223372036854775807 := by
        obtain ⟨_, _, _, ee, h1, h2, _⟩ := hsl
        injection ee with _ _ e3
        subst e3
        unfold maxLen at h2
        omega
      have hbc : bc.length ≤ 300000 := by omega
      have hg1 : gl ∈ X := (fun x hx => hx) gl hg
      have bl := hsm.blk hg1 BL.out
      have c0 := bl.cell 0
      simp only [LG, List.getElem?_cons_zero] at c0
      by_cases hz : bc.length = 0
      · have SY := Lib.hid (Sync_at hat1)
        have hbn : bc = [] := List.eq_nil_of_length_eq_zero hz
        have hF := HP.out.1 s1 (by rw [hres', hbn, wchunks_nil])
        have HF := Lib.hid (And.intro hF hsm)
        clear hF hsm hsl hown hat1 hres' hbn bl HR
        rw [hz]
        go_wp2_with fail
        refine SY.out.mono ?_
        rintro e y9 ⟨rfl, a9, s9⟩
        go_wp2_with fail
        go_ret
        rw [HF.out.1]
        exact ⟨rfl, a9.sub (fun x hx => hx), SM.out.trans ((HF.out.2.trans s9).sub (fun x hx => hx))⟩
      · obtain ⟨m, hm⟩ : ∃ m, m = min bc.length 64 := ⟨_, rfl⟩
        have hmb : m ≤ bc.length := by omega
        have hm64 : m ≤ 64 := by omega
        have hm0 : 0 < m := by omega
        have etk : bc.take 64 = bc.take m := by
          rw [hm]
          rcases Nat.le_total bc.length 64 with h | h
          · rw [Nat.min_eq_left h, List.take_length, List.take_of_length_le h]
          · rw [Nat.min_eq_right h]
        have edr : bc.drop 64 = bc.drop m := by
          rw [hm]
          rcases Nat.le_total bc.length 64 with h | h
          · rw [Nat.min_eq_left h, List.drop_length, List.drop_of_length_le h]
          · rw [Nat.min_eq_right h]
        have hst := wchunks_step s1 kk bc (by omega)
        rw [etk, edr, ← hres'] at hst
        obtain ⟨pg, hpg⟩ : ∃ pg, pg = bc.take m := ⟨_, rfl⟩
        have hpgl : pg.length = m := by rw [hpg, List.length_take]; omega
        have hpt : Sl Y Y.heap.size 1 (.slice A1 m c1) m (bvs pg) := by
          have h1 := hsl.to hmb
          rw [bvs_take, ← hpg] at h1
          exact h1
        obtain ⟨cd, hcd⟩ : ∃ cd, cd = s1.code := ⟨_, rfl⟩
        have WR := Write_at hat1.drew kk (.slice A1 m c1) m pg hpt.drew (by omega) (by omega) hds (by omega)
        rw [← hcd] at WR
        replace WR := Lib.hid WR
        have hdl : (bc.drop m).length = bc.length - m := List.length_drop
        have HD := Lib.hid (And.intro hds (And.intro hdl (And.intro hsl (And.intro hown (And.intro hat1 hsm)))))
        have HT := Lib.hid (And.intro hst (And.intro hpg hcd))
        have hkk : kk < p := by omega
        have MM := Lib.hid (show (if 64 < (bc.length : Int) then (64 : Int) else (bc.length : Int)) = m by split <;> omega)
        have hmI : (m : Int) ≤ 64 := by omega
        have zI : (0 : Int) < bc.length := by omega
        have HKR := Lib.hid hkr'
        have HMN := Lib.hid (show m = 64 ∨ m = bc.length by omega)
        clear hds hdl hsl hown hat1 hsm hst hcd hpt etk edr hpgl hres' bl hm hpg hz hkr'
        go_upto_region 11 with fail
        rw [MM.out]
        refine reg_begin (fun W => W.cell? ⟨gl, 0, none⟩ = some (.pointer (some ⟨g, 0, none⟩))) (fun _ => True) 10 10 #[false, false, false, false, false, false, false, false, false, false] (by kernel_rfl) (by kernel_rfl) (by kernel_rfl) ?_
        refine reg_take 0 48 9 #[true, false, false, false, false, false, false, false, false, false] (by rfl) (v := ?_) rfl rfl (by kernel_rfl) (by kernel_rfl) (by kernel_rfl) (by kernel_rfl) (fun _ _ _ h => h) (by rfl) ?_ (Till.mk' c0 trivial) ?_
        rotate_left
        · intro W hS; go_simp; all_goals with_reducible rfl
        try simp only [List.setIfInBounds_toArray, List.set_cons_succ, List.set_cons_zero]
        refine reg_take 1 49 8 #[true, true, false, false, false, false, false, false, false, false] (by rfl) (v := ?_) rfl rfl (by kernel_rfl) (by kernel_rfl) (by kernel_rfl) (by kernel_rfl) (fun _ _ _ h => h) (by rfl) ?_ (Till.mk' c0 trivial) ?_
        rotate_left
        · intro W hS; go_simp; all_goals with_reducible rfl
        try simp only [List.setIfInBounds_toArray, List.set_cons_succ, List.set_cons_zero]
        refine reg_take 2 50 7 #[true, true, true, false, false, false, false, false, false, false] (by rfl) (v := ?_) rfl rfl (by kernel_rfl) (by kernel_rfl) (by kernel_rfl) (by kernel_rfl) (fun _ _ _ h => h) (by rfl) ?_ (Till.mk' c0 trivial) ?_
        rotate_left
        · intro W hS; go_simp; all_goals with_reducible rfl
        try simp only [List.setIfInBounds_toArray, List.set_cons_succ, List.set_cons_zero]
        refine reg_take 3 51 6 #[true, true, true, true, false, false, false, false, false, false] (by rfl) (v := ?_) rfl rfl (by kernel_rfl) (by kernel_rfl) (by kernel_rfl) (by kernel_rfl) (fun _ _ _ h => h) (by rfl) ?_ (Till.mk' c0 trivial) ?_
        rotate_left
        · intro W hS; have c9 : W.cell? ⟨gl, 0, none⟩ = some (.pointer (some ⟨g, 0, none⟩)) := hS; go_simp; all_goals with_reducible rfl
        try simp only [List.setIfInBounds_toArray, List.set_cons_succ, List.set_cons_zero]
        refine reg_take 4 52 5 #[true, true, true, true, true, false, false, false, false, false] (by rfl) (v := ?_) rfl rfl (by kernel_rfl) (by kernel_rfl) (by kernel_rfl) (by kernel_rfl) (fun _ _ _ h => h) (by rfl) ?_ (Till.mk' c0 trivial) ?_
        rotate_left
        · intro W hS; go_simp; all_goals with_reducible rfl
        try simp only [List.setIfInBounds_toArray, List.set_cons_succ, List.set_cons_zero]
        refine reg_take 5 53 4 #[true, true, true, true, true, true, false, false, false, false] (by rfl) (v := ?_) rfl rfl (by kernel_rfl) (by kernel_rfl) (by kernel_rfl) (by kernel_rfl) (fun _ _ _ h => h) (by rfl) ?_ (Till.mk' c0 trivial) ?_
        rotate_left
        · intro W hS; go_simp; all_goals with_reducible rfl
        try simp only [List.setIfInBounds_toArray, List.set_cons_succ, List.set_cons_zero]
        refine reg_take 6 54 3 #[true, true, true, true, true, true, true, false, false, false] (by rfl) (v := ?_) rfl rfl (by kernel_rfl) (by kernel_rfl) (by kernel_rfl) (by kernel_rfl) (fun _ _ _ h => h) (by rfl) ?_ (Till.mk' c0 trivial) ?_
        rotate_left
        · intro W hS; go_simp; all_goals with_reducible rfl
        try simp only [List.setIfInBounds_toArray, List.set_cons_succ, List.set_cons_zero]
        refine reg_take 7 55 2 #[true, true, true, true, true, true, true, true, false, false] (by rfl) (v := ?_) rfl rfl (by kernel_rfl) (by kernel_rfl) (by kernel_rfl) (by kernel_rfl) (fun _ _ _ h => h) (by rfl) ?_ (Till.mk' c0 trivial) ?_
        rotate_left
        · intro W hS; have c9 := run_to A1 bc.length c1 m hmb hcb.1 W; go_simp; all_goals with_reducible rfl
        try simp only [List.setIfInBounds_toArray, List.set_cons_succ, List.set_cons_zero]
        refine reg_one 8 1 #[true, true, true, true, true, true, true, true, true, false] (by kernel_rfl) rfl (by rfl) (by kernel_rfl) (fun K hK => ?_)
        go_simp
        refine WR.out.mono ?_
        rintro e y1 ⟨rfl, a1, sm1⟩
        refine hK _ _ (Till.mk' ((sm1.cell hg1).trans c0) trivial) ?_
        clear hK K
        try simp only [List.setIfInBounds_toArray, List.set_cons_succ, List.set_cons_zero]
        refine reg_take 9 10 0 #[true, true, true, true, true, true, true, true, true, true] (by rfl) (v := ?_) rfl rfl (by kernel_rfl) (by kernel_rfl) (by kernel_rfl) (by kernel_rfl) (fun _ _ _ h => h) (by rfl) ?_ (Till.mk' ((sm1.cell hg1).trans c0) trivial) ?_
        rotate_left
        · intro W hS; go_simp; all_goals with_reducible rfl
        try simp only [List.setIfInBounds_toArray, List.set_cons_succ, List.set_cons_zero]
        refine reg_done (by kernel_rfl) ?_ _
        have ro := run_off A1 bc.length c1 m hmb hcb.1
        have hc2 : cd = 0 ∨ cd = 15 := by rw [HT.out.2.2]; exact code_two s1
        rcases hc2 with hc | hc
        · subst hc
          have hal := wrote_alive s1 kk (pageOf pg) HD.out.1 HT.out.2.2.symm
          have hst := HT.out.1
          rw [if_pos HT.out.2.2.symm, ← HT.out.2.1] at hst
          have hso := sl_off HD.out.2.2.1 hmb
          rw [bvs_drop, ← HD.out.2.1] at hso
          have hown2 : ∀ x, (Value.slice (adr A1 c1 m) (bc.drop m).length (c1 - m)).ownBlock = some x → x ∈ X ∨ x < w0.heap.size := by
            intro x hx
            apply HD.out.2.2.2.1 x
            unfold adr at hx
            split at hx
            · cases A1 with
              | none => simp [Value.ownBlock] at hx
              | some a => simpa [Value.ownBlock] using hx
            · cases A1 with
              | none => simp [Value.ownBlock] at hx
              | some a => simpa [Value.ownBlock, addr_block] using hx
          have hs9 := sl_kept hso HD.out.2.2.2.2.1.bel a1.bel sm1 hown2
          have HF := Lib.hid (And.intro hs9 (And.intro hown2 (And.intro a1 (And.intro (HD.out.2.2.2.2.2.trans sm1) (And.intro hal hst)))))
          have hwl2 := wrote_wl s1 kk (pageOf pg)
          have HW := Lib.hid (show (s1.wrote kk (pageOf pg)).writes.length ≤ 900000 + (kk + 1) by omega)
          have hln : (bc.drop m).length = bc.length - m := HD.out.2.1
          clear hs9 hown2 a1 sm1 hal hst hso hwl2 hwl'
          have rz : (Value.slice (adr A1 c1 m) (bc.length - m) (c1 - m)) = .slice (adr A1 c1 m) (bc.drop m).length (c1 - m) := by rw [hln]
          go_wp2_with fail
          go_roundw
          case rel => exact ⟨kk + 1, adr A1 c1 m, c1 - m, bc.drop m, s1.wrote kk (pageOf pg), by go_num, rfl, HF.out.1, HF.out.2.1, HF.out.2.2.1, HF.out.2.2.2.1, HF.out.2.2.2.2.1, by omega, by omega, by (have := HKR.out; have := HMN.out; omega), HW.out, HF.out.2.2.2.2.2⟩
          case measure => (simp [lenV] <;> omega)
        · subst hc
          have hF := HP.out.2 (s1.wrote kk (pageOf pg)) 15 (by decide) (by rw [HT.out.1, if_neg (by rw [← HT.out.2.2]; decide), ← HT.out.2.1, ← HT.out.2.2])
          have HF := Lib.hid (And.intro hF (And.intro a1 (HD.out.2.2.2.2.2.trans sm1)))
          clear hF a1 sm1
          go_wp2_with fail
          go_ret
          rw [HF.out.1]
          exact ⟨rfl, HF.out.2.1.sub (fun x hx => hx), SM.out.trans (HF.out.2.2.sub (fun x hx => hx))⟩
  · have hr' : 0 < (at_ : Int) % 64 := by omega
    clear hr
    have RD := Lib.hid (Read_at H0.out.1 k0 hkp HD0.out)
    go_wp2_with fail
    rw [hq2.out]
    refine RD.out.mono ?_
    rintro e y1 ⟨xb, cx, rfl, s1, hx1, hx2, _, a1, sm1⟩
    obtain ⟨r, hrr⟩ : ∃ r, r = at_ % 64 := ⟨_, rfl⟩
    have hrI : (at_ : Int) % 64 = r := by omega
    have hr64 : r ≤ 64 := by omega
    have HRR := Lib.hid hrr
    have HRI := Lib.hid hrI
    clear hrr hrI
    have s2 : Sl y1 y1.heap.size 1 (.slice (some ⟨xb, 0, none⟩) r cx) (((pageAt st.now k0).take r)).length (bvs ((pageAt st.now k0).take r)) := by
      have h1 := s1.to hr64
      rw [bvs_take] at h1
      rw [List.length_take, hpl, Nat.min_eq_left hr64]
      exact h1
    have s3 := sl_kept HS.out H0.out.1.bel a1.bel sm1 HA.out
    have CT := Lib.hid (Cat2_any y1 _ _ _ _ s2 s3 (by rw [List.length_take, hpl]; have := HL.out.1; omega))
    have rt := run_to (some ⟨xb, 0, none⟩) 64 cx r hr64 hx1
    rw [← HRI.out] at rt
    have H1 := Lib.hid (And.intro a1 sm1)
    clear s1 s2 s3 a1 sm1 RD
    go_wp2_with fail
    refine CT.out.mono ?_
    rintro e Y0 ⟨v2, rfl, o2, bel2⟩
    rw [HRR.out, ← HB.out] at o2
    obtain ⟨y, cy, rfl, _, _, hy3, hy4, _⟩ := own_cells o2 (by have := HL.out.1; omega)
    have t2 := Turns.of_below (L := []) bel2
    have H2 := Lib.hid (H1.out.1.more t2 hy3 hy4)
    have SM := Lib.hid (show Same X w Y0 from H1.out.2.trans ((H1.out.1.same t2).sub (fun z hz => List.mem_cons_of_mem _ hz)))
    have BL := Lib.hid (SM.out.blk hg H0.out.2)
    have HS2 := Lib.hid (Sl.of_own o2)
    clear o2 bel2 t2 CT rt
    go_wp2_with fail
    clear hr'
    go_loopw [1, 6] (fun b k wr => PgR w0 B g p (y :: xb :: X) Y0 res b k wr) (fun b _ _ => lenV b)
    case atStart => exact ⟨k0, some ⟨y, 0, none⟩, cy, b0, st, (by first | rfl | go_num), rfl, HS2.out, (by intro z hz; simp [Value.ownBlock] at hz; subst hz; simp), H2.out, (fun x hx => rfl), HD0.out, hk1, by omega, HL.out.2.1, by have := HL.out.2.2; omega, HR.out⟩
    case round =>
      obtain ⟨kk, A1, c1, bc, s1, rfl, rfl, hsl, hown, hat1, hsm, hds, hk1', hkp', hkr', hwl', hres'⟩ := hrel
      obtain ⟨Y, hY⟩ : ∃ Y, Y = wr := ⟨_, rfl⟩
      subst hY
      have hcb : bc.length ≤ c1 ∧ c1 ≤ 9223372036854775807 := by
        obtain ⟨_, _, _, ee, h1, h2, _⟩ := hsl
        injection ee with _ _ e3
        subst e3
        unfold maxLen at h2
        omega
      have hbc : bc.length ≤ 300000 := by omega
      have hg1 : gl ∈ (y :: xb :: X) := (fun z hz => List.mem_cons_of_mem _ (List.mem_cons_of_mem _ hz)) gl hg
      have bl := hsm.blk hg1 BL.out
      have c0 := bl.cell 0
      simp only [LG, List.getElem?_cons_zero] at c0
      by_cases hz : bc.length = 0
      · have SY := Lib.hid (Sync_at hat1)
        have hbn : bc = [] := List.eq_nil_of_length_eq_zero hz
        have hF := HP.out.1 s1 (by rw [hres', hbn, wchunks_nil])
        have HF := Lib.hid (And.intro hF hsm)
        clear hF hsm hsl hown hat1 hres' hbn bl HR
        rw [hz]
        go_wp2_with fail
        refine SY.out.mono ?_
        rintro e y9 ⟨rfl, a9, s9⟩
        go_wp2_with fail
        go_ret
        rw [HF.out.1]
        exact ⟨rfl, a9.sub (fun z hz => List.mem_cons_of_mem _ (List.mem_cons_of_mem _ hz)), SM.out.trans ((HF.out.2.trans s9).sub (fun z hz => List.mem_cons_of_mem _ (List.mem_cons_of_mem _ hz)))⟩
      · obtain ⟨m, hm⟩ : ∃ m, m = min bc.length 64 := ⟨_, rfl⟩
        have hmb : m ≤ bc.length := by omega
        have hm64 : m ≤ 64 := by omega
        have hm0 : 0 < m := by omega
        have etk : bc.take 64 = bc.take m := by
          rw [hm]
          rcases Nat.le_total bc.length 64 with h | h
          · rw [Nat.min_eq_left h, List.take_length, List.take_of_length_le h]
          · rw [Nat.min_eq_right h]
        have edr : bc.drop 64 = bc.drop m := by
          rw [hm]
          rcases Nat.le_total bc.length 64 with h | h
          · rw [Nat.min_eq_left h, List.drop_length, List.drop_of_length_le h]
          · rw [Nat.min_eq_right h]
        have hst := wchunks_step s1 kk bc (by omega)
        rw [etk, edr, ← hres'] at hst
        obtain ⟨pg, hpg⟩ : ∃ pg, pg = bc.take m := ⟨_, rfl⟩
        have hpgl : pg.length = m := by rw [hpg, List.length_take]; omega
        have hpt : Sl Y Y.heap.size 1 (.slice A1 m c1) m (bvs pg) := by
          have h1 := hsl.to hmb
          rw [bvs_take, ← hpg] at h1
          exact h1
        obtain ⟨cd, hcd⟩ : ∃ cd, cd = s1.code := ⟨_, rfl⟩
        have WR := Write_at hat1.drew kk (.slice A1 m c1) m pg hpt.drew (by omega) (by omega) hds (by omega)
        rw [← hcd] at WR
        replace WR := Lib.hid WR
        have hdl : (bc.drop m).length = bc.length - m := List.length_drop
        have HD := Lib.hid (And.intro hds (And.intro hdl (And.intro hsl (And.intro hown (And.intro hat1 hsm)))))
        have HT := Lib.hid (And.intro hst (And.intro hpg hcd))
        have hkk : kk < p := by omega
        have MM := Lib.hid (show (if 64 < (bc.length : Int) then (64 : Int) else (bc.length : Int)) = m by split <;> omega)
        have hmI : (m : Int) ≤ 64 := by omega
        have zI : (0 : Int) < bc.length := by omega
        have HKR := Lib.hid hkr'
        have HMN := Lib.hid (show m = 64 ∨ m = bc.length by omega)
        clear hds hdl hsl hown hat1 hsm hst hcd hpt etk edr hpgl hres' bl hm hpg hz hkr'
        go_upto_region 11 with fail
        rw [MM.out]
        refine reg_begin (fun W => W.cell? ⟨gl, 0, none⟩ = some (.pointer (some ⟨g, 0, none⟩))) (fun _ => True) 10 10 #[false, false, false, false, false, false, false, false, false, false] (by kernel_rfl) (by kernel_rfl) (by kernel_rfl) ?_
        refine reg_take 0 48 9 #[true, false, false, false, false, false, false, false, false, false] (by rfl) (v := ?_) rfl rfl (by kernel_rfl) (by kernel_rfl) (by kernel_rfl) (by kernel_rfl) (fun _ _ _ h => h) (by rfl) ?_ (Till.mk' c0 trivial) ?_
        rotate_left
        · intro W hS; go_simp; all_goals with_reducible rfl
        try simp only [List.setIfInBounds_toArray, List.set_cons_succ, List.set_cons_zero]
        refine reg_take 1 49 8 #[true, true, false, false, false, false, false, false, false, false] (by rfl) (v := ?_) rfl rfl (by kernel_rfl) (by kernel_rfl) (by kernel_rfl) (by kernel_rfl) (fun _ _ _ h => h) (by rfl) ?_ (Till.mk' c0 trivial) ?_
        rotate_left
        · intro W hS; go_simp; all_goals with_reducible rfl
        try simp only [List.setIfInBounds_toArray, List.set_cons_succ, List.set_cons_zero]
        refine reg_take 2 50 7 #[true, true, true, false, false, false, false, false, false, false] (by rfl) (v := ?_) rfl rfl (by kernel_rfl) (by kernel_rfl) (by kernel_rfl) (by kernel_rfl) (fun _ _ _ h => h) (by rfl) ?_ (Till.mk' c0 trivial) ?_
        rotate_left
        · intro W hS; go_simp; all_goals with_reducible rfl
        try simp only [List.setIfInBounds_toArray, List.set_cons_succ, List.set_cons_zero]
        refine reg_take 3 51 6 #[true, true, true, true, false, false, false, false, false, false] (by rfl) (v := ?_) rfl rfl (by kernel_rfl) (by kernel_rfl) (by kernel_rfl) (by kernel_rfl) (fun _ _ _ h => h) (by rfl) ?_ (Till.mk' c0 trivial) ?_
        rotate_left
        · intro W hS; have c9 : W.cell? ⟨gl, 0, none⟩ = some (.pointer (some ⟨g, 0, none⟩)) := hS; go_simp; all_goals with_reducible rfl
        try simp only [List.setIfInBounds_toArray, List.set_cons_succ, List.set_cons_zero]
        refine reg_take 4 52 5 #[true, true, true, true, true, false, false, false, false, false] (by rfl) (v := ?_) rfl rfl (by kernel_rfl) (by kernel_rfl) (by kernel_rfl) (by kernel_rfl) (fun _ _ _ h => h) (by rfl) ?_ (Till.mk' c0 trivial) ?_
        rotate_left
        · intro W hS; go_simp; all_goals with_reducible rfl
        try simp only [List.setIfInBounds_toArray, List.set_cons_succ, List.set_cons_zero]
        refine reg_take 5 53 4 #[true, true, true, true, true, true, false, false, false, false] (by rfl) (v := ?_) rfl rfl (by kernel_rfl) (by kernel_rfl) (by kernel_rfl) (by kernel_rfl) (fun _ _ _ h => h) (by rfl) ?_ (Till.mk' c0 trivial) ?_
        rotate_left
        · intro W hS; go_simp; all_goals with_reducible rfl
        try simp only [List.setIfInBounds_toArray, List.set_cons_succ, List.set_cons_zero]
        refine reg_take 6 54 3 #[true, true, true, true, true, true, true, false, false, false] (by rfl) (v := ?_) rfl rfl (by kernel_rfl) (by kernel_rfl) (by kernel_rfl) (by kernel_rfl) (fun _ _ _ h => h) (by rfl) ?_ (Till.mk' c0 trivial) ?_
        rotate_left
        · intro W hS; go_simp; all_goals with_reducible rfl
        try simp only [List.setIfInBounds_toArray, List.set_cons_succ, List.set_cons_zero]
        refine reg_take 7 55 2 #[true, true, true, true, true, true, true, true, false, false] (by rfl) (v := ?_) rfl rfl (by kernel_rfl) (by kernel_rfl) (by kernel_rfl) (by kernel_rfl) (fun _ _ _ h => h) (by rfl) ?_ (Till.mk' c0 trivial) ?_
        rotate_left
        · intro W hS; have c9 := run_to A1 bc.length c1 m hmb hcb.1 W; go_simp; all_goals with_reducible rfl
        try simp only [List.setIfInBounds_toArray, List.set_cons_succ, List.set_cons_zero]
        refine reg_one 8 1 #[true, true, true, true, true, true, true, true, true, false] (by kernel_rfl) rfl (by rfl) (by kernel_rfl) (fun K hK => ?_)
        go_simp
        refine WR.out.mono ?_
        rintro e y1 ⟨rfl, a1, sm1⟩
        refine hK _ _ (Till.mk' ((sm1.cell hg1).trans c0) trivial) ?_
        clear hK K
        try simp only [List.setIfInBounds_toArray, List.set_cons_succ, List.set_cons_zero]
        refine reg_take 9 10 0 #[true, true, true, true, true, true, true, true, true, true] (by rfl) (v := ?_) rfl rfl (by kernel_rfl) (by kernel_rfl) (by kernel_rfl) (by kernel_rfl) (fun _ _ _ h => h) (by rfl) ?_ (Till.mk' ((sm1.cell hg1).trans c0) trivial) ?_
        rotate_left
        · intro W hS; go_simp; all_goals with_reducible rfl
        try simp only [List.setIfInBounds_toArray, List.set_cons_succ, List.set_cons_zero]
        refine reg_done (by kernel_rfl) ?_ _
        have ro := run_off A1 bc.length c1 m hmb hcb.1
        have hc2 : cd = 0 ∨ cd = 15 := by rw [HT.out.2.2]; exact code_two s1
        rcases hc2 with hc | hc
        · subst hc
          have hal := wrote_alive s1 kk (pageOf pg) HD.out.1 HT.out.2.2.symm
          have hst := HT.out.1
          rw [if_pos HT.out.2.2.symm, ← HT.out.2.1] at hst
          have hso := sl_off HD.out.2.2.1 hmb
          rw [bvs_drop, ← HD.out.2.1] at hso
          have hown2 : ∀ x, (Value.slice (adr A1 c1 m) (bc.drop m).length (c1 - m)).ownBlock = some x → x ∈ (y :: xb :: X) ∨ x < w0.heap.size := by
            intro x hx
            apply HD.out.2.2.2.1 x
            unfold adr at hx
            split at hx
            · cases A1 with
              | none => simp [Value.ownBlock] at hx
              | some a => simpa [Value.ownBlock] using hx
            · cases A1 with
              | none => simp [Value.ownBlock] at hx
              | some a => simpa [Value.ownBlock, addr_block] using hx
          have hs9 := sl_kept hso HD.out.2.2.2.2.1.bel a1.bel sm1 hown2
          have HF := Lib.hid (And.intro hs9 (And.intro hown2 (And.intro a1 (And.intro (HD.out.2.2.2.2.2.trans sm1) (And.intro hal hst)))))
          have hwl2 := wrote_wl s1 kk (pageOf pg)
          have HW := Lib.hid (show (s1.wrote kk (pageOf pg)).writes.length ≤ 900000 + (kk + 1) by omega)
          have hln : (bc.drop m).length = bc.length - m := HD.out.2.1
          clear hs9 hown2 a1 sm1 hal hst hso hwl2 hwl'
          have rz : (Value.slice (adr A1 c1 m) (bc.length - m) (c1 - m)) = .slice (adr A1 c1 m) (bc.drop m).length (c1 - m) := by rw [hln]
          go_wp2_with fail
          go_roundw
          case rel => exact ⟨kk + 1, adr A1 c1 m, c1 - m, bc.drop m, s1.wrote kk (pageOf pg), by go_num, rfl, HF.out.1, HF.out.2.1, HF.out.2.2.1, HF.out.2.2.2.1, HF.out.2.2.2.2.1, by omega, by omega, by (have := HKR.out; have := HMN.out; omega), HW.out, HF.out.2.2.2.2.2⟩
          case measure => (simp [lenV] <;> omega)
        · subst hc
          have hF := HP.out.2 (s1.wrote kk (pageOf pg)) 15 (by decide) (by rw [HT.out.1, if_neg (by rw [← HT.out.2.2]; decide), ← HT.out.2.1, ← HT.out.2.2])
          have HF := Lib.hid (And.intro hF (And.intro a1 (HD.out.2.2.2.2.2.trans sm1)))
          clear hF a1 sm1
          go_wp2_with fail
          go_ret
          rw [HF.out.1]
          exact ⟨rfl, HF.out.2.1.sub (fun z hz => List.mem_cons_of_mem _ (List.mem_cons_of_mem _ hz)), SM.out.trans (HF.out.2.2.sub (fun z hz => List.mem_cons_of_mem _ (List.mem_cons_of_mem _ hz)))⟩
end Go.Proofs.Ytdhbaepmbgoobaa
