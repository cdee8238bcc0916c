/- Bytes are written over; what may not be is refused. -/
import Derived.Test.YtdhbaepmbgoobaaDiskS
namespace Go.Proofs.Ytdhbaepmbgoobaa
open Go.RowKit
set_option linter.unusedVariables false
set_option maxRecDepth 10000
set_option linter.unusedSimpArgs false
set_option linter.unnecessarySimpa false

/-- A Write that is refused. -/
theorem Write_bad (w : World) (B : Nat) (D : DL) (p : Nat) (n : Int) (l : Nat) (A : Option Addr) (c : Nat) (st : DS) (h : DiskIs w B D p st) (hl : l ≤ 9223372036854775807) (hc : st.checked p n l ≠ 0) :
    Calls Try.prog 17 #[.pointer (some ⟨D.g, 0, none⟩), .int .i64 n, .slice A l c] w fun e w' => e = .returned (.int .i64 (st.checked p n l)) ∧ w = w' := by
  have CH := Lib.hid (checked_any w B D p st n l h)
  generalize st.checked p n l = q at *
  clear h
  go_enter Try.func17, Try.ntmps17
  go_wp2_with fail
  refine CH.out.mono ?_
  rintro e' ww ⟨rfl, rfl⟩
  go_wp2_with fail
  go_ret
  exact ⟨rfl, rfl⟩

/-- May these bytes be written over? -/
def tamperOk (p : Nat) (n a : Int) (l : Nat) : Prop := 0 ≤ n ∧ n < p ∧ 0 ≤ a ∧ a ≤ 64 ∧ (l : Int) ≤ 64 - a
theorem Tamper_bad (w : World) (B : Nat) (D : DL) (p l : Nat) (n a : Int) (A : Option Addr) (c : Nat) (st : DS) (h : DiskIs w B D p st) (hl : l ≤ 9223372036854775807) (hno : ¬ tamperOk p n a l) :
    Calls Try.prog 24 #[.pointer (some ⟨D.g, 0, none⟩), .int .i64 n, .int .i64 a, .slice A l c] w fun e w' => e = .returned (.bool false) ∧ w = w' := by
  have c3 : w.cell? ⟨D.g, 3, none⟩ = some (.slice (some ⟨D.m, 0, none⟩) p p) := h.head.cell 3
  have hp := h.pages
  unfold tamperOk at hno
  clear h
  by_cases h0 : n < 0
  · clear hno
    go_enter Try.func24, Try.ntmps24
    go_wp2_with fail
    go_ret
    exact ⟨rfl, rfl⟩
  by_cases h1 : (p : Int) ≤ n
  · clear hno
    go_enter Try.func24, Try.ntmps24
    go_wp2_with fail
    go_ret
    exact ⟨rfl, rfl⟩
  by_cases h2 : a < 0
  · clear hno
    go_enter Try.func24, Try.ntmps24
    go_wp2_with fail
    go_ret
    exact ⟨rfl, rfl⟩
  by_cases h3 : 64 < a
  · clear hno
    go_enter Try.func24, Try.ntmps24
    go_wp2_with fail
    go_ret
    exact ⟨rfl, rfl⟩
  by_cases h4 : 64 - a < (l : Int)
  · clear hno
    go_enter Try.func24, Try.ntmps24
    go_wp2_with fail
    go_ret
    exact ⟨rfl, rfl⟩
  exact absurd ⟨by omega, by omega, by omega, by omega, by omega⟩ hno
def DS.tamper (st : DS) (n a : Nat) (bs : List UInt8) : DS := ⟨st.left, st.dead, spl st.synced (n * 64 + a) bs, spl st.now (n * 64 + a) bs, st.writes⟩
def DS.tamperN (st : DS) (n a : Nat) (bs : List UInt8) : DS := ⟨st.left, st.dead, st.synced, spl st.now (n * 64 + a) bs, st.writes⟩
theorem tamper_now {w w' : World} {D : DL} {p B k : Nat} {bs : List UInt8} {st : DS} (d : DiskIs w B D p st) (h : Blk w' D.m (spl (bvs st.now) k (bvs bs)) 99) (t : Turns [D.m] w w') : DiskDid w B D p ⟨st.left, st.dead, st.synced, spl st.now k bs, st.writes⟩ w' D := by
  have n1 : D.g ∉ [D.m] := by simpa using d.ap1.2.1
  have n2 : D.s ∉ [D.m] := by simpa using d.ap1.2.2
  have e1 : spl (bvs st.now) k (bvs bs) = bvs (spl st.now k bs) := by unfold bvs; rw [← spl_map]
  rw [e1] at h
  refine ⟨⟨d.head.turns t n1, d.syn.turns t n2, h, ?_, d.lenS, by rw [spl_length]; exact d.lenN, d.left0, d.pages, d.ap1, d.ap2, d.low⟩, ⟨rfl, rfl, rfl⟩, t.mono (fun x hx => .inl (by simp at hx; subst hx; simp [DL.all])), fun x hx => .inl hx⟩
  exact own_turns d.own t (by intro g hg hm; simp at hm; subst hm; exact d.ap2.2.2 hg)
theorem tamper_syn {w w' : World} {D : DL} {p B k : Nat} {bs : List UInt8} {st : DS} (d : DiskIs w B D p st) (h : Blk w' D.s (spl (bvs st.synced) k (bvs bs)) 99) (t : Turns [D.s] w w') : DiskDid w B D p ⟨st.left, st.dead, spl st.synced k bs, st.now, st.writes⟩ w' D := by
  have n1 : D.g ∉ [D.s] := by simpa using d.ap1.1
  have n2 : D.m ∉ [D.s] := by simpa using Ne.symm d.ap1.2.2
  have e1 : spl (bvs st.synced) k (bvs bs) = bvs (spl st.synced k bs) := by unfold bvs; rw [← spl_map]
  rw [e1] at h
  refine ⟨⟨d.head.turns t n1, h, d.now.turns t n2, ?_, by rw [spl_length]; exact d.lenS, d.lenN, d.left0, d.pages, d.ap1, d.ap2, d.low⟩, ⟨rfl, rfl, rfl⟩, t.mono (fun x hx => .inl (by simp at hx; subst hx; simp [DL.all])), fun x hx => .inl hx⟩
  exact own_turns d.own t (by intro g hg hm; simp at hm; subst hm; exact d.ap2.2.1 hg)

set_option maxHeartbeats 1000000 in
theorem Tamper_ok (w : World) (B : Nat) (D : DL) (p n a : Nat) (st : DS) (v : Value) (bs : List UInt8) (h : DiskIs w B D p st) (hb : Sl w w.heap.size 1 v bs.length (bvs bs)) (hv : ∀ x ∈ D.all, v.ownBlock ≠ some x) (hn : n < p) (ha : a ≤ 64) (hl : bs.length ≤ 64 - a) :
    Calls Try.prog 24 #[.pointer (some ⟨D.g, 0, none⟩), .int .i64 n, .int .i64 a, v] w fun e w' => e = .returned (.bool true) ∧ DiskDid w B D p (st.tamper n a bs) w' D := by
  have hp := h.pages
  have hb' := hb
  obtain ⟨_, A, c, rfl, hnc, hcm, hA, hrd⟩ := hb
  clear hA hrd
  have c2 : w.cell? ⟨D.g, 2, none⟩ = some (.slice (some ⟨D.s, 0, none⟩) p p) := h.head.cell 2
  have c3 : w.cell? ⟨D.g, 3, none⟩ = some (.slice (some ⟨D.m, 0, none⟩) p p) := h.head.cell 3
  have hl' : (bs.length : Int) ≤ 64 - (a : Int) := by omega
  by_cases h64 : a = 64
  · subst h64
    have hb0 : bs = [] := List.eq_nil_of_length_eq_zero (by omega)
    subst hb0
    replace hb' : Sl w w.heap.size 1 (.slice A 0 c) 0 (bvs []) := hb'
    have hmin : min 0 0 * 1 = 0 := rfl
    have htk : (bvs []).take 0 = bvs [] := rfl
    clear hl hl' ha
    go_enter Try.func24, Try.ntmps24
    go_wp2_with fail
    have hr1 := run_copy_blk (s := 34) (o := n * 64) (dLen := 0) (dCap := 0) T8 3 h.now hb' (bvs_one _) (by rw [bvs_length, h.lenN]; omega)
    rw [hmin, htk] at hr1
    obtain ⟨v1, w1, hr1, rfl, hb1, t1⟩ := hr1
    have T1 := tamper_now h hb1 t1
    have hb2 := t1.slice hb' (Nat.le_refl _) (by intro x hx; simp at hx; subst hx; exact hv _ (by simp [DL.all]))
    have c2' : w1.cell? ⟨D.g, 2, none⟩ = some (.slice (some ⟨D.s, 0, none⟩) p p) := T1.is.head.cell 2
    have hr2 := run_copy_blk (s := 34) (o := n * 64) (dLen := 0) (dCap := 0) T8 3 T1.is.syn hb2 (bvs_one _) (by rw [bvs_length, T1.is.lenS]; omega)
    rw [hmin, htk] at hr2
    obtain ⟨v2, w2, hr2, rfl, hb3, t2⟩ := hr2
    have T2 := T1.trans (tamper_syn T1.is hb3 t2)
    clear T1 hb1 t1 hb2 t2 hb3 h hb' hv
    rw [hr1]
    go_wp2_with fail
    try (rw [hr2]; go_wp2_with fail)
    go_ret
    exact ⟨rfl, T2⟩
  · have hmin : min bs.length (64 - a) * 1 = bs.length := by omega
    have htk : (bvs bs).take bs.length = bvs bs := by rw [← bvs_length bs, List.take_length]
    go_enter Try.func24, Try.ntmps24
    go_wp2_with fail
    have hr1 := run_copy_blk (s := 34) (o := n * 64 + a) (dLen := 64 - a) (dCap := 64 - a) T8 3 h.now hb' (bvs_one _) (by rw [bvs_length, h.lenN]; omega)
    rw [hmin, htk] at hr1
    obtain ⟨v1, w1, hr1, rfl, hb1, t1⟩ := hr1
    have T1 := tamper_now h hb1 t1
    have hb2 := t1.slice hb' (Nat.le_refl _) (by intro x hx; simp at hx; subst hx; exact hv _ (by simp [DL.all]))
    have c2' : w1.cell? ⟨D.g, 2, none⟩ = some (.slice (some ⟨D.s, 0, none⟩) p p) := T1.is.head.cell 2
    have hr2 := run_copy_blk (s := 34) (o := n * 64 + a) (dLen := 64 - a) (dCap := 64 - a) T8 3 T1.is.syn hb2 (bvs_one _) (by rw [bvs_length, T1.is.lenS]; omega)
    rw [hmin, htk] at hr2
    obtain ⟨v2, w2, hr2, rfl, hb3, t2⟩ := hr2
    have T2 := T1.trans (tamper_syn T1.is hb3 t2)
    clear T1 hb1 t1 hb2 t2 hb3 h hb' hv
    rw [hr1]
    go_wp2_with fail
    try (rw [hr2]; go_wp2_with fail)
    go_ret
    exact ⟨rfl, T2⟩
end Go.Proofs.Ytdhbaepmbgoobaa
