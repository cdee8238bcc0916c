/- A page is written. -/
import Derived.Test.YtdhbaepmbgoobaaDiskN
import Derived.Test.YtdhbaepmbgoobaaCopy
import Derived.Test.YtdhbaepmbgoobaaDiskA
import Derived.Test.YtdhbaepmbgoobaaRegl
import Derived.Test.YtdhbaepmbgoobaaFill
import Derived.Deep.WholeRow
namespace Go.Proofs.Ytdhbaepmbgoobaa
open Go.RowKit
set_option linter.unusedVariables false
set_option maxRecDepth 10000
set_option linter.unusedSimpArgs false
set_option linter.unnecessarySimpa false

/-- A page of these bytes, noughts behind. -/
def pageOf (b : List UInt8) : List UInt8 := b ++ List.replicate (64 - b.length) 0
theorem pageOf_length (b : List UInt8) (h : b.length ≤ 64) : (pageOf b).length = 64 := by unfold pageOf; simp; omega
theorem spl_page (b : List UInt8) (h : b.length ≤ 64) : spl (List.replicate 64 (0 : UInt8)) 0 b = pageOf b := by
  apply List.ext_getElem?
  intro k
  unfold pageOf
  by_cases hk : k < b.length
  · have := spl_in b (List.replicate 64 (0 : UInt8)) 0 k hk (by simp; omega)
    rw [Nat.zero_add] at this
    rw [this, List.getElem?_append_left hk]
  · rw [spl_out _ _ _ _ (by omega), List.getElem?_append_right (by omega)]
    simp only [List.getElem?_replicate]
    by_cases h2 : k < 64
    · rw [if_pos h2, if_pos (by omega)]
    · rw [if_neg h2, if_neg (by omega)]

/-- What an operation that answers with a number leaves. -/
def DDid (w : World) (B : Nat) (D : DL) (p : Nat) (st : DS) (c : Int) (e : Ending) (w' : World) : Prop := ∃ D', e = .returned (.int .i64 c) ∧ DiskDid w B D p st w' D'
/-- An operation is counted. -/
def DS.counted (st : DS) : DS := ⟨if 0 < st.left then st.left - 1 else st.left, st.dead || decide (st.left = 1), st.synced, st.now, st.writes⟩
def DS.code (st : DS) : Int := if st.left = 1 then 15 else 0
/-- A page is written. -/
def DS.wrote (st : DS) (n : Nat) (pg : List UInt8) : DS := DS.counted ⟨st.left, st.dead, st.synced, spl st.now (n * 64) pg, st.writes ++ [(n, pg)]⟩

set_option maxRecDepth 100000 in
set_option maxHeartbeats 1000000 in
theorem Write_any (w : World) (B : Nat) (D : DL) (p n : Nat) (st : DS) (v : Value) (l : Nat) (bs : List UInt8) (h : DiskIs w B D p st) (hb : Sl w w.heap.size 1 v l (bvs bs)) (hn : n < p) (hl : bs.length ≤ 64) (hd : st.dead = false) (hwl : st.writes.length ≤ 1000000) :
    Calls Try.prog 17 #[.pointer (some ⟨D.g, 0, none⟩), .int .i64 n, v] w (DDid w B D p (st.wrote n (pageOf bs)) st.code) := by
  obtain rfl : bs.length = l := by have := hb.1; rw [bvs_length] at this; omega
  have hb' := hb
  obtain ⟨_, A, c, rfl, hnc, hcm, hA, hrd⟩ := hb
  clear hnc hcm hA hrd
  have CH := checked_any w B D p st n bs.length h
  have hc0 : st.checked p n bs.length = 0 := by unfold DS.checked; rw [hd, if_neg (by simp), if_neg (by omega)]
  rw [hc0] at CH
  have CH' := Lib.hid CH
  clear CH hc0
  go_enter Try.func17, Try.ntmps17
  go_wp2_with fail
  refine CH'.out.mono ?_
  rintro e' ww ⟨rfl, rfl⟩
  clear CH'
  go_wp2_with fail
  rw [show (#[.int .u8 0, .int .u8 0, .int .u8 0, .int .u8 0, .int .u8 0, .int .u8 0, .int .u8 0, .int .u8 0, .int .u8 0, .int .u8 0, .int .u8 0, .int .u8 0, .int .u8 0, .int .u8 0, .int .u8 0, .int .u8 0, .int .u8 0, .int .u8 0, .int .u8 0, .int .u8 0, .int .u8 0, .int .u8 0, .int .u8 0, .int .u8 0, .int .u8 0, .int .u8 0, .int .u8 0, .int .u8 0, .int .u8 0, .int .u8 0, .int .u8 0, .int .u8 0, .int .u8 0, .int .u8 0, .int .u8 0, .int .u8 0, .int .u8 0, .int .u8 0, .int .u8 0, .int .u8 0, .int .u8 0, .int .u8 0, .int .u8 0, .int .u8 0, .int .u8 0, .int .u8 0, .int .u8 0, .int .u8 0, .int .u8 0, .int .u8 0, .int .u8 0, .int .u8 0, .int .u8 0, .int .u8 0, .int .u8 0, .int .u8 0, .int .u8 0, .int .u8 0, .int .u8 0, .int .u8 0, .int .u8 0, .int .u8 0, .int .u8 0, .int .u8 0] : Array Value) = (bvs (List.replicate 64 0)).toArray from rfl]
  obtain ⟨W1, hW1⟩ : ∃ W1, W1 = w.alloc (.cells (bvs (List.replicate 64 0)).toArray 99) := ⟨_, rfl⟩
  have hB1 : Blk W1 w.heap.size (bvs (List.replicate 64 0)) 99 := by rw [hW1]; exact Blk.new _ _ _
  have hb1 : Sl W1 w.heap.size 1 (.slice A bs.length c) bs.length (bvs bs) := by rw [hW1]; exact hb'.alloc (Nat.le_refl _) _
  have t1 : Turns [w.heap.size] w W1 := by rw [hW1]; exact (Turns.refl _ _).alloc _
  rw [← hW1]
  have hcp := run_copy_sl (s := 34) T8 3 (o := 0) (dLen := 64) (dCap := 64) hB1 hb1 (bvs_one _) (by rw [bvs_length]; simp; omega)
  have hmin : min bs.length 64 = bs.length := by omega
  rw [hmin, show (bvs bs).take bs.length = bvs bs by rw [← bvs_length bs, List.take_length]] at hcp
  rw [hcp]
  have hP := hB1.setCells (bvs bs) 0
  have e0 : spl (bvs (List.replicate 64 0)) 0 (bvs bs) = bvs (pageOf bs) := by
    unfold bvs; rw [← spl_map, spl_page bs hl]
  rw [e0] at hP
  have t2 := Turns.setCells (b := w.heap.size) (L := [w.heap.size]) (a := w) (.inl (by simp)) (bvs bs) 0 t1
  obtain ⟨W2, hW2⟩ : ∃ W2, W2 = W1.setCells w.heap.size 0 (bvs bs) := ⟨_, rfl⟩
  rw [← hW2] at hP t2 ⊢
  have hnew : ∀ x ∈ [w.heap.size], x ∉ D.all := by intro x hx; simp at hx; subst hx; intro hm; have := h.lt _ hm; omega
  have D2 := h.turns t2 hnew
  have tw := t2.mono (L' := D.all) (fun x hx => .inr (by simp at hx; omega))
  have hPn : w.heap.size ∉ D.all := hnew _ (by simp)
  have hpl := pageOf_length bs hl
  obtain ⟨P, hPe⟩ : ∃ P, P = w.heap.size := ⟨_, rfl⟩
  rw [← hPe] at hP hPn ⊢
  have hPe' := Lib.hid hPe
  clear hPe
  clear hW1 hW2 hB1 hb1 t1 hcp t2 hnew e0 hmin
  obtain ⟨pg, hpg⟩ : ∃ pg, pg = pageOf bs := ⟨_, rfl⟩
  rw [← hpg] at hP hpl
  have hpg' := Lib.hid hpg
  clear hpg
  have hsz : (Try.prog.info? 99).map (·.size) = some (bvs pg).length := by rw [bvs_length, hpl]; kernel_rfl
  have hS6 : W2.cell? ⟨D.g, 3, none⟩ = some (.slice (some ⟨D.m, 0, none⟩) p p) ∧ W2.rangeAt P 0 (bvs pg) := ⟨D2.head.cell 3, by
    have := hP.range 0 64
    rwa [List.drop_zero, List.take_of_length_le (by rw [bvs_length]; omega)] at this⟩
  go_wp2_with fail
  refine reg_begin (fun W => W.cell? ⟨D.g, 3, none⟩ = some (.slice (some ⟨D.m, 0, none⟩) p p) ∧ W.rangeAt P 0 (bvs pg)) (fun _ => True) 8 8 #[false, false, false, false, false, false, false, false] (by kernel_rfl) (by kernel_rfl) (by kernel_rfl) ?_
  refine reg_take 0 20 7 #[true, false, false, false, false, false, false, false] (by rfl) (v := ?_) rfl rfl (by kernel_rfl) (by kernel_rfl) (by kernel_rfl) (by kernel_rfl) (fun _ _ _ h => h) (by rfl) ?_ (Till.mk' hS6 trivial) ?_
  rotate_left
  · rintro W ⟨hS1, hS2⟩; go_simp; all_goals with_reducible rfl
  try simp only [List.setIfInBounds_toArray, List.set_cons_succ, List.set_cons_zero]
  refine reg_take 1 21 6 #[true, true, false, false, false, false, false, false] (by rfl) (v := ?_) rfl rfl (by kernel_rfl) (by kernel_rfl) (by kernel_rfl) (by kernel_rfl) (fun _ _ _ h => h) (by rfl) ?_ (Till.mk' hS6 trivial) ?_
  rotate_left
  · rintro W ⟨hS1, hS2⟩; go_simp; all_goals with_reducible rfl
  try simp only [List.setIfInBounds_toArray, List.set_cons_succ, List.set_cons_zero]
  refine reg_take 2 22 5 #[true, true, true, false, false, false, false, false] (by rfl) (v := ?_) rfl rfl (by kernel_rfl) (by kernel_rfl) (by kernel_rfl) (by kernel_rfl) (fun _ _ _ h => h) (by rfl) ?_ (Till.mk' hS6 trivial) ?_
  rotate_left
  · rintro W ⟨hS1, hS2⟩; go_simp; all_goals with_reducible rfl
  try simp only [List.setIfInBounds_toArray, List.set_cons_succ, List.set_cons_zero]
  refine reg_take 3 23 4 #[true, true, true, true, false, false, false, false] (by rfl) (v := ?_) rfl rfl (by kernel_rfl) (by kernel_rfl) (by kernel_rfl) (by kernel_rfl) (fun _ _ _ h => h) (by rfl) ?_ (Till.mk' hS6 trivial) ?_
  rotate_left
  · rintro W ⟨hS1, hS2⟩; go_simp; all_goals with_reducible rfl
  try simp only [List.setIfInBounds_toArray, List.set_cons_succ, List.set_cons_zero]
  refine reg_take 4 24 3 #[true, true, true, true, true, false, false, false] (by rfl) (v := ?_) rfl rfl (by kernel_rfl) (by kernel_rfl) (by kernel_rfl) (by kernel_rfl) (fun _ _ _ h => h) (by rfl) ?_ (Till.mk' hS6 trivial) ?_
  rotate_left
  · rintro W ⟨hS1, hS2⟩; go_simp; all_goals with_reducible rfl
  try simp only [List.setIfInBounds_toArray, List.set_cons_succ, List.set_cons_zero]
  refine reg_take_y 5 25 2 #[true, true, true, true, true, true, false, false] (by rfl) rfl rfl (by kernel_rfl) (by kernel_rfl) (by kernel_rfl) (by kernel_rfl) (fun _ _ _ h => h) (yieldsIf_load_mid (by rfl) _ _ rfl P 0 (by rfl) (bvs pg) _ (fun W h => h.2) Try.underlying99 rfl hsz) (Till.mk' hS6 trivial) ?_
  try simp only [List.setIfInBounds_toArray, List.set_cons_succ, List.set_cons_zero]
  refine reg_take 6 26 1 #[true, true, true, true, true, true, true, false] (by rfl) (v := ?_) rfl rfl (by kernel_rfl) (by kernel_rfl) (by kernel_rfl) (by kernel_rfl) (fun _ _ _ h => h) (by rfl) ?_ (Till.mk' hS6 trivial) ?_
  rotate_left
  · rintro W ⟨hS1, hS2⟩; go_simp; all_goals with_reducible rfl
  try simp only [List.setIfInBounds_toArray, List.set_cons_succ, List.set_cons_zero]
  refine reg_one 7 0 #[true, true, true, true, true, true, true, true] (by kernel_rfl) rfl (by rfl) (by kernel_rfl) (fun K hK => ?_)
  refine wp_store_mid _ _ _ (by rfl) D.m (n * 64) (bvs pg).toArray (by rfl) (by rfl) (D2.now.drew.there (n * 64) 64 (by rw [bvs_length, D2.lenN]; omega) |> fun h => by simpa [bvs_length, hpl] using h) (by simpa using hsz) (all_oneCell_toArray (bvs_one _)) ?_
  have hS7 : (fun W => W.cell? ⟨D.g, 3, none⟩ = some (.slice (some ⟨D.m, 0, none⟩) p p) ∧ W.rangeAt P 0 (bvs pg)) (W2.drew.setCells D.m (n * 64) (bvs pg)) := ⟨(D2.head.drew.otherCells (Ne.symm D2.ap1.2.1) (bvs pg) (n * 64)).cell 3, by
    have := (hP.drew.otherCells (b := D.m) (fun e => hPn (by simp [DL.all, e])) (bvs pg) (n * 64)).range 0 64
    rwa [List.drop_zero, List.take_of_length_le (by rw [bvs_length]; omega)] at this⟩
  refine hK _ _ (Till.mk' hS7 trivial) ?_
  clear hK K
  try simp only [List.setIfInBounds_toArray, List.set_cons_succ, List.set_cons_zero]
  refine reg_done (by kernel_rfl) ?_ _
  have D3 : DiskIs (W2.drew.setCells D.m (n * 64) (bvs pg)) B D p ⟨st.left, st.dead, st.synced, spl st.now (n * 64) pg, st.writes⟩ := by
    have e1 : spl (bvs st.now) (n * 64) (bvs pg) = bvs (spl st.now (n * 64) pg) := by unfold bvs; rw [← spl_map]
    refine ⟨D2.head.drew.otherCells (Ne.symm D2.ap1.2.1) _ _, D2.syn.drew.otherCells (Ne.symm D2.ap1.2.2) _ _, e1 ▸ D2.now.drew.setCells _ _, ?_, D2.lenS, by rw [spl_length]; exact D2.lenN, D2.left0, D2.pages, D2.ap1, D2.ap2, D2.low⟩
    obtain ⟨h1, h2⟩ := D2.own
    refine ⟨h1, ?_⟩
    rcases h2 with h2 | ⟨g, cap, cur, hv, hg, hh, r⟩
    · exact Or.inl h2
    · have hne : D.m ≠ g := by intro e; exact D2.ap2.2.2 (by rw [hv, e]; rfl)
      exact Or.inr ⟨g, cap, cur, hv, hg, by
        have := Turns.setCells (a := W2) (L := [D.m]) (b := D.m) (.inl (by simp)) (bvs pg) (n * 64) (Turns.refl [D.m] W2).drew
        rw [this.block g (Array.getElem?_eq_some_iff.1 hh).1 (by simpa using Ne.symm hne)]
        exact hh, r⟩
  have t3 : Turns D.all w (W2.drew.setCells D.m (n * 64) (bvs pg)) := Turns.setCells (.inl (by simp [DL.all])) _ _ tw.drew
  have hP3 : Blk (W2.drew.setCells D.m (n * 64) (bvs pg)) P (bvs pg) 99 := hP.drew.otherCells (fun e => hPn (by simp [DL.all, e])) _ _
  generalize W2.drew.setCells D.m (n * 64) (bvs pg) = W3 at *
  have hS8 : W3.rangeAt P 0 (bvs pg) := hS7.2
  have c4 : W3.cell? ⟨D.g, 4, none⟩ = some D.v := D3.head.cell 4
  clear hS6 hS7 D2 tw hP h hb'
  have own3 : W3.ownsRow B 101 65 D.v st.writes.length (flatW st.writes) := D3.own
  have hz63 : ∃ Z : Array Value, Z.size = 65 ∧ ∀ w, (zeroValue 101).run Try.prog w = .ok (.agg Z) w :=
    ⟨#[.int .i64 0] ++ Array.replicate 64 (.int .u8 0), by simp, (zero_of_info (P := Try.prog) (n := 65) (by kernel_rfl)).1⟩
  obtain ⟨Z, hZ, hz63⟩ := hz63
  have hbl : (bvs pg).length = 64 := by rw [bvs_length, hpl]
  have hfill := fill_pair (.int .i64 n) (bvs pg) Z (by omega)
  have hbs := fun w => build_one (P := Try.prog) T63 (by omega) (Value.int .i64 n :: bvs pg) (by simp [hbl]) w
  have c4' : ∀ o, (W3.alloc o).cell? ⟨D.g, 4, none⟩ = some D.v := fun o => by rw [World.cell?_alloc_lt _ _ _ D3.head.lt]; exact c4
  have hPv : D.v.ownBlock ≠ some P := fun e => hPn (by simp [DL.all, e])
  have hPg : D.g ≠ P := fun e => hPn (by simp [DL.all, e])
  have hZ0 : ¬ Z = #[] := by intro e; rw [e] at hZ; simp at hZ
  go_wp2_with fail
  refine reg_begin (fun W => W.rangeAt P 0 (bvs pg)) (fun W => W.cell? ⟨D.g, 4, none⟩ = some D.v) 12 13 #[false, false, false, false, false, false, false, false, false, false, false, false, false] (by kernel_rfl) (by kernel_rfl) (by kernel_rfl) ?_
  refine reg_take 0 27 12 #[true, false, false, false, false, false, false, false, false, false, false, false, false] (by rfl) (v := ?_) rfl rfl (by kernel_rfl) (by kernel_rfl) (by kernel_rfl) (by kernel_rfl) (fun _ _ _ h => h) (by rfl) ?_ (Till.mk' hS8 c4) ?_
  rotate_left
  · intro W hS; go_simp; all_goals with_reducible rfl
  try simp only [List.setIfInBounds_toArray, List.set_cons_succ, List.set_cons_zero]
  refine reg_take 1 28 11 #[true, true, false, false, false, false, false, false, false, false, false, false, false] (by rfl) (v := ?_) rfl rfl (by kernel_rfl) (by kernel_rfl) (by kernel_rfl) (by kernel_rfl) (fun _ _ _ h => h) (by rfl) ?_ (Till.mk' hS8 c4) ?_
  rotate_left
  · intro W hS; go_simp; all_goals with_reducible rfl
  try simp only [List.setIfInBounds_toArray, List.set_cons_succ, List.set_cons_zero]
  refine reg_take 2 29 10 #[true, true, true, false, false, false, false, false, false, false, false, false, false] (by rfl) (v := ?_) rfl rfl (by kernel_rfl) (by kernel_rfl) (by kernel_rfl) (by kernel_rfl) (fun _ _ _ h => h) (by rfl) ?_ (Till.mk' hS8 c4) ?_
  rotate_left
  · intro W hS; go_simp; all_goals with_reducible rfl
  try simp only [List.setIfInBounds_toArray, List.set_cons_succ, List.set_cons_zero]
  refine reg_take 3 30 9 #[true, true, true, true, false, false, false, false, false, false, false, false, false] (by rfl) (v := ?_) rfl rfl (by kernel_rfl) (by kernel_rfl) (by kernel_rfl) (by kernel_rfl) (fun _ _ _ h => h) (by rfl) ?_ (Till.mk' hS8 c4) ?_
  rotate_left
  · intro W hS; go_simp; all_goals with_reducible rfl
  try simp only [List.setIfInBounds_toArray, List.set_cons_succ, List.set_cons_zero]
  refine reg_take_t 4 31 8 #[true, true, true, true, true, false, false, false, false, false, false, false, false] (by rfl) (v := ?_) rfl rfl (by kernel_rfl) (by kernel_rfl) (by kernel_rfl) (by kernel_rfl) (fun _ _ _ h => h) (by rfl) (by kernel_rfl) (by kernel_rfl) ?_ (Till.mk' hS8 c4) ?_
  rotate_left
  · rintro W ⟨hS, hT⟩; go_simp; all_goals with_reducible rfl
  try simp only [List.setIfInBounds_toArray, List.set_cons_succ, List.set_cons_zero]
  refine reg_take 5 32 7 #[true, true, true, true, true, true, false, false, false, false, false, false, false] (by rfl) (v := ?_) rfl rfl (by kernel_rfl) (by kernel_rfl) (by kernel_rfl) (by kernel_rfl) (fun _ _ _ h => h) (by rfl) ?_ (Till.mk' hS8 c4) ?_
  rotate_left
  · intro W hS; go_simp; all_goals with_reducible rfl
  try simp only [List.setIfInBounds_toArray, List.set_cons_succ, List.set_cons_zero]
  refine reg_take_y 6 33 6 #[true, true, true, true, true, true, true, false, false, false, false, false, false] (by rfl) rfl rfl (by kernel_rfl) (by kernel_rfl) (by kernel_rfl) (by kernel_rfl) (fun _ _ _ h => h) (yieldsIf_load_mid (by rfl) _ _ rfl P 0 (by rfl) (bvs pg) _ (fun W h => h) Try.underlying99 rfl hsz) (Till.mk' hS8 c4) ?_
  try simp only [List.setIfInBounds_toArray, List.set_cons_succ, List.set_cons_zero]
  refine reg_take 7 34 5 #[true, true, true, true, true, true, true, true, false, false, false, false, false] (by rfl) (v := ?_) rfl rfl (by kernel_rfl) (by kernel_rfl) (by kernel_rfl) (by kernel_rfl) (fun _ _ _ h => h) (by rfl) ?_ (Till.mk' hS8 c4) ?_
  rotate_left
  · intro W hS; go_simp; all_goals with_reducible rfl
  try simp only [List.setIfInBounds_toArray, List.set_cons_succ, List.set_cons_zero]
  refine reg_one 8 4 #[true, true, true, true, true, true, true, true, true, false, false, false, false] (by kernel_rfl) rfl (by rfl) (by kernel_rfl) (fun K hK => ?_)
  refine wp_build_one T63 (by omega) (Value.int .i64 n :: bvs pg) (by simp [hbl]) (.tmp 34) rfl (by rfl) ?_
  refine hK _ _ (Till.mk' (World.rangeAt_alloc hS8 _) (c4' _)) ?_
  clear hK K
  try simp only [List.setIfInBounds_toArray, List.set_cons_succ, List.set_cons_zero]
  refine reg_one 9 3 #[true, true, true, true, true, true, true, true, true, true, false, false, false] (by kernel_rfl) rfl (by rfl) (by kernel_rfl) (fun K hK => ?_)
  have hrun := (run_append_rd (W3.drew.alloc (.cells (Value.int .i64 n :: bvs pg).toArray 101)) T63 64 (own3.drew.alloc (.cells (Value.int .i64 n :: bvs pg).toArray 101)) (Sl.new W3.drew (Value.int .i64 n :: bvs pg).toArray 101 1 65 (by simp [hbl]) (by simp [maxLen])) (by intro u hu; simp at hu; rcases hu with rfl | hu; rfl; exact bvs_one _ u hu) (by simp only [maxLen]; omega) (by omega) (by have := D3.low.1; have := D3.head.lt; simp; omega))
  refine wp_append_run (vs := D.v) (vx := .slice (some ⟨W3.heap.size, 0, none⟩) 1 1) _ (.tmp 31) (.tmp 35) rfl (by rfl) (by rfl) hrun ?_
  clear hrun
  intro v7 W7 ap
  obtain ⟨A7, C7, rfl⟩ := own_form ap.own
  have hP7 : Blk W7 P (bvs pg) 99 := apd_blk ap (hP3.drew.alloc _) hPv
  have hS9 : W7.rangeAt P 0 (bvs pg) := by have := hP7.range 0 64; rwa [List.drop_zero, List.take_of_length_le (by omega)] at this
  have DD := writes_did D3 ap
  have hd7 := apd_blk ap (D3.head.drew.alloc _) D3.ap2.1
  have c7 : W7.cell? ⟨D.g, 4, none⟩ = some D.v := hd7.cell 4
  have f7 := hd7.free 4
  have hS12 : (W7.setCell ⟨D.g, 4, none⟩ (.slice A7 (st.writes.length + 1) C7)).rangeAt P 0 (bvs pg) := by have := (hP7.other (p := ⟨D.g, 4, none⟩) hPg (.slice A7 (st.writes.length + 1) C7)).range 0 64; rwa [List.drop_zero, List.take_of_length_le (by omega)] at this
  refine hK _ _ (Till.mk' hS9 c7) ?_
  clear hK K
  try simp only [List.setIfInBounds_toArray, List.set_cons_succ, List.set_cons_zero]
  refine reg_take 10 37 2 #[true, true, true, true, true, true, true, true, true, true, true, false, false] (by rfl) (v := ?_) rfl rfl (by kernel_rfl) (by kernel_rfl) (by kernel_rfl) (by kernel_rfl) (fun _ _ _ h => h) (by rfl) ?_ (Till.mk' hS9 c7) ?_
  rotate_left
  · intro W hS; go_simp; all_goals with_reducible rfl
  try simp only [List.setIfInBounds_toArray, List.set_cons_succ, List.set_cons_zero]
  refine reg_take 11 38 1 #[true, true, true, true, true, true, true, true, true, true, true, true, false] (by rfl) (v := ?_) rfl rfl (by kernel_rfl) (by kernel_rfl) (by kernel_rfl) (by kernel_rfl) (fun _ _ _ h => h) (by rfl) ?_ (Till.mk' hS9 c7) ?_
  rotate_left
  · intro W hS; go_simp; all_goals with_reducible rfl
  try simp only [List.setIfInBounds_toArray, List.set_cons_succ, List.set_cons_zero]
  refine reg_one 12 0 #[true, true, true, true, true, true, true, true, true, true, true, true, true] (by kernel_rfl) rfl (by rfl) (by kernel_rfl) (fun K hK => ?_)
  go_simp
  refine hK _ _ (Till.past hS12 (by kernel_rfl)) ?_
  clear hK K
  try simp only [List.setIfInBounds_toArray, List.set_cons_succ, List.set_cons_zero]
  refine reg_done (by kernel_rfl) ?_ _
  clear ap hP7 hS9 hd7 c7 f7 hS12
  have DD0 : DiskDid w B D p _ _ D := ⟨D3, ⟨rfl, rfl, rfl⟩, t3, fun _ hx => .inl hx⟩
  have DDW := DD0.trans DD
  have ST := Lib.hid (step_did _ B _ p _ DDW.is)
  rw [hpg'.out] at ST DDW
  clear DD DD0 D3 t3 hP3 hS8 c4 own3 hz63 hbl hfill hbs c4' hPv hPg hZ0 hpg' hsz hpl hPn hPe' hZ hwl hd hl hn
  generalize W7.setCell { block := D.g, off := 4 } (Value.slice A7 (st.writes.length + 1) C7) = W8 at *
  by_cases hq : st.left = 1
  · rw [decide_eq_true hq] at ST
    have HQ := Lib.hid hq
    clear hq
    go_wp2_with fail
    refine ST.out.mono ?_
    rintro e' w9 ⟨rfl, DE⟩
    have DF := DDW.trans DE
    go_wp2_with fail
    go_ret
    exact ⟨_, by unfold DS.code; rw [if_pos HQ.out]; rfl, by rw [← decide_eq_true HQ.out] at DF; exact DF⟩
  · rw [decide_eq_false hq] at ST
    have HQ := Lib.hid hq
    clear hq
    go_wp2_with fail
    refine ST.out.mono ?_
    rintro e' w9 ⟨rfl, DE⟩
    have DF := DDW.trans DE
    go_wp2_with fail
    go_ret
    exact ⟨_, by unfold DS.code; rw [if_neg HQ.out]; rfl, by rw [← decide_eq_false HQ.out] at DF; exact DF⟩
end Go.Proofs.Ytdhbaepmbgoobaa
