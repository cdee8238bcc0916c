/- Rows that are filled one by one; own copies of transactions. -/
import Derived.Test.YtoahnhphfabajaaGreatNdk
import Derived.Test.YtoahnhphfabajaaGreatLdH
import Derived.Test.YtoahnhphfabajaaGreatGD
namespace Go.Proofs.YtoahnhphfabajaaGreat
open Go.RowKit
set_option linter.unusedVariables false
set_option maxRecDepth 10000
set_option linter.unusedSimpArgs false
set_option linter.unnecessarySimpa false

theorem run_make_ty {t e : TypeId} {z : Value} {size bytes : Nat} (T : SliceTy Tryz.prog t e z size bytes) (n : Nat) (hb : bytes ≤ 1000) (hn : n ≤ 1000000) (w : World) :
    (Instr.makeSlice t (.int .i64 (n : Int)) (.int .i64 (n : Int))).run Tryz.prog w = .ok (.slice (some ⟨w.heap.size, 0, none⟩) n n) (w.alloc (.cells (madeCells z.cells (n * size)) e)) := by
  obtain ⟨i, hi, hz, hsz, hby⟩ := info_parts T.info
  have hbn : (i.bytes : Int) * (n : Int) ≤ 281474976710656 := by
    rw [hby]
    have h1 : bytes * n ≤ 1000 * 1000000 := Nat.mul_le_mul hb hn
    have h2 : ((bytes * n : Nat) : Int) = (bytes : Int) * (n : Int) := by simp
    omega
  have hr := run_make (P := Tryz.prog) w _ _ i _ T.und hi hz .i64 .i64 n n (by omega) (by omega) hbn (by omega)
  simp only [Int.toNat_natCast] at hr
  rw [hr, hsz]

def chunks {α : Type} (size : Nat) : Nat → List α → List (List α)
  | 0, _ => []
  | n + 1, l => l.take size :: chunks size n (l.drop size)
theorem chunks_len {α : Type} (size : Nat) : ∀ (n : Nat) (l : List α), (chunks size n l).length = n
  | 0, _ => rfl
  | n + 1, l => by rw [chunks, List.length_cons, chunks_len size n]
theorem chunks_flat {α : Type} (size : Nat) : ∀ (n : Nat) (l : List α), l.length = n * size → (chunks size n l).flatten = l
  | 0, l, h => by rw [Nat.zero_mul] at h; rw [List.eq_nil_of_length_eq_zero h]; rfl
  | n + 1, l, h => by
    rw [chunks, List.flatten_cons, chunks_flat size n _ (by rw [List.length_drop, h, Nat.succ_mul]; omega), List.take_append_drop]
theorem chunks_get {α : Type} (size : Nat) : ∀ (n : Nat) (l : List α) (i : Nat) (h : i < (chunks size n l).length), (chunks size n l)[i] = (l.drop (i * size)).take size
  | 0, _, i, h => by simp [chunks] at h
  | n + 1, l, 0, h => by simp [chunks]
  | n + 1, l, i + 1, h => by
    have := chunks_get size n (l.drop size) i (by rw [chunks, List.length_cons] at h; omega)
    simp only [chunks, List.getElem_cons_succ]
    rw [this, List.drop_drop, Nat.succ_mul, Nat.add_comm size]

/-- The first k of n elements are laid into block g. -/
structure Fill {α : Type} (R : World → (Nat → Prop) → List Value → α → Prop) (w : World) (S : Nat → Prop) (size g : Nat) (t : TypeId) (n k : Nat) (l : List α) : Prop where
  ex : ∃ cells, Blk w g cells t ∧ cells.length = n * size ∧ ∀ i (h : i < l.length), i < k → R w S ((cells.drop (i * size)).take size) l[i]
section
variable {α : Type} {R : World → (Nat → Prop) → List Value → α → Prop} {w w' : World} {S S' : Nat → Prop} {size g n k : Nat} {t : TypeId} {l : List α}
theorem Fill.start (w : World) (cs : Array Value) (t : TypeId) (hc : cs.size = n * size) : Fill R (w.alloc (.cells cs t)) S size w.heap.size t n 0 l :=
  ⟨cs.toList, Blk.new w cs.toList t, by simpa using hc, fun i _ h => by omega⟩
theorem Fill.lt (h : Fill R w S size g t n k l) : g < w.heap.size := by obtain ⟨c, hb, _⟩ := h.ex; exact hb.lt
theorem Fill.on (hR : Lasts R) {L : List Nat} (h : Fill R w S size g t n k l) (d : Turns L w w') (hg : g ∉ L) (hS : ∀ x ∈ L, x < w.heap.size → ¬ S x) : Fill R w' S size g t n k l := by
  obtain ⟨c, hb, hl, hr⟩ := h.ex
  exact ⟨c, hb.turns d hg, hl, fun i hi hk => hR.keep (hr i hi hk) (d.keepsB S hS)⟩
theorem Fill.there (h : Fill R w S size g t n k l) (hk : k < n) : w.there g (k * size) size := by
  obtain ⟨c, hb, hl, _⟩ := h.ex
  refine hb.there _ _ ?_
  rw [hl]
  have := Nat.mul_le_mul_right size (show k + 1 ≤ n by omega)
  rw [Nat.succ_mul] at this
  exact this
theorem drop_take_get {β : Type} (c : List β) (a m j : Nat) : ((c.drop a).take m)[j]? = if j < m then c[a + j]? else none := by
  rw [List.getElem?_take]
  split
  · rw [List.getElem?_drop]
  · rfl
theorem Fill.put (hR : Lasts R) (h : Fill R w S size g t n k l) (hg : ¬ S g) {cs : List Value} (hcs : cs.length = size) (hk : k < n) (hkl : k < l.length) (hx : R w S cs l[k]) :
    Fill R (w.setCells g (k * size) cs) S size g t n (k + 1) l := by
  obtain ⟨c, hb, hl, hr⟩ := h.ex
  have hmul := Nat.mul_le_mul_right size (show k + 1 ≤ n by omega)
  rw [Nat.succ_mul] at hmul
  have tg : Turns [g] w (w.setCells g (k * size) cs) := Turns.setCells (.inl (by simp)) cs _ (Turns.refl _ _)
  have kp : Keeps S w (w.setCells g (k * size) cs) := tg.keepsB S (by intro x hx _; simp at hx; subst hx; exact hg)
  refine ⟨spl c (k * size) cs, hb.setCells cs (k * size), by rw [spl_length, hl], fun i hi hik => ?_⟩
  by_cases e : i = k
  · subst e
    have : ((spl c (i * size) cs).drop (i * size)).take size = cs := by
      apply List.ext_getElem?
      intro j
      rw [drop_take_get]
      split
      · next hj => exact spl_in cs c _ j (by omega) (by omega)
      · next hj => rw [List.getElem?_eq_none (by omega)]
    rw [this]
    exact hR.keep hx kp
  · have hmi := Nat.mul_le_mul_right size (show i + 1 ≤ k by omega)
    rw [Nat.succ_mul] at hmi
    have : ((spl c (k * size) cs).drop (i * size)).take size = (c.drop (i * size)).take size := by
      apply List.ext_getElem?
      intro j
      rw [drop_take_get, drop_take_get]
      split
      · next hj => rw [spl_out _ _ _ _ (.inl (by omega))]
      · rfl
    rw [this]
    exact hR.keep (hr i hi (by omega)) kp
theorem Fill.done (hR : Lasts R) (h : Fill R w S size g t n n l) (hn : n = l.length) (hm : n ≤ maxLen) (hS : ∀ k, k < w.heap.size → S k → S' k) (hg : S' g) : Deep R w S' size (.slice (some ⟨g, 0, none⟩) n n) l := by
  subst hn
  obtain ⟨c, hb, hl, hr⟩ := h.ex
  refine Deep.mk' (css := chunks size l.length c) (chunks_len _ _ _) (fun x hx => ?_) (fun i hi hi' => ?_) ?_
  · obtain ⟨i, hi, rfl⟩ := List.mem_iff_getElem.1 hx
    rw [chunks_get, List.length_take, List.length_drop, hl]
    rw [chunks_len] at hi
    have := Nat.mul_le_mul_right size (show i + 1 ≤ l.length by omega)
    rw [Nat.succ_mul] at this
    omega
  · rw [chunks_get]
    exact hR.mono (hr i hi hi) hS
  · rw [chunks_flat size _ _ hl]
    exact ⟨hl, _, _, rfl, Nat.le_refl _, hm, (fun h => by cases h), fun _ => ⟨g, 0, rfl, ⟨hg, hb.lt⟩, fun j u hu => by rw [Nat.zero_add, hb.cell]; exact hu⟩⟩
end
set_option maxRecDepth 100000 in
set_option maxHeartbeats 4000000 in
theorem ownTx_any (t : Txn) (ht : t.ok) (cv : Value) (S : Nat → Prop) (w0 : World) (hd : Deep ChgR w0 S 3 cv t.chs) :
    Calls Tryz.prog 37 #[.agg #[.int .i64 t.id, cv]] w0 fun e w' => ∃ g, e = .returned (.agg #[.int .i64 t.id, .slice (some ⟨g, 0, none⟩) t.chs.length t.chs.length]) ∧ Deep ChgR w' (fun b => w0.heap.size ≤ b) 3 (.slice (some ⟨g, 0, none⟩) t.chs.length t.chs.length) t.chs ∧ Turns [] w0 w' := by
  obtain ⟨A, cp, rfl, hcp, _⟩ := hd.form
  obtain ⟨p, hp⟩ : ∃ p, p = w0.heap.size := ⟨_, rfl⟩
  obtain ⟨w, hw⟩ : ∃ x, x = w0.alloc (.cells #[.int .i64 t.id, .slice A t.chs.length cp] 45) := ⟨_, rfl⟩
  have bc := Blk.new w0 [.int .i64 t.id, .slice A t.chs.length cp] 45
  have t0 := (Turns.refl [] w0).alloc (.cells #[.int .i64 t.id, .slice A t.chs.length cp] 45)
  have hs0 : w.heap.size = w0.heap.size + 1 := by rw [hw]; simp
  rw [show w0.alloc (.cells [.int .i64 t.id, .slice A t.chs.length cp].toArray 45) = w from hw.symm, ← hp] at bc
  rw [← hw] at t0
  obtain ⟨q, hq⟩ : ∃ p, p = w.heap.size := ⟨_, rfl⟩
  obtain ⟨w1, hw1⟩ : ∃ x, x = w.alloc (.cells #[.int .i64 0, .slice none 0 0] 45) := ⟨_, rfl⟩
  have bq := Blk.new w [.int .i64 0, .slice none 0 0] 45
  have t1 := (Turns.refl [] w).alloc (.cells #[.int .i64 0, .slice none 0 0] 45)
  have hs1 : w1.heap.size = w.heap.size + 1 := by rw [hw1]; simp
  rw [show w.alloc (.cells [.int .i64 0, .slice none 0 0].toArray 45) = w1 from hw1.symm, ← hq] at bq
  rw [← hw1] at t1
  obtain ⟨n, hn⟩ : ∃ n, n = t.chs.length := ⟨_, rfl⟩
  have hn1 : n ≤ 1000 := by rw [hn]; exact ht.len
  have hmk := run_make_ty TChg n (by omega) (by omega) w1
  obtain ⟨g, hg⟩ : ∃ g, g = w1.heap.size := ⟨_, rfl⟩
  obtain ⟨w2, hw2⟩ : ∃ x, x = w1.alloc (.cells (madeCells (Value.agg #[.string ⟨#[]⟩, .int .i64 0, .slice none 0 0]).cells (n * 3)) 67) := ⟨_, rfl⟩
  have f0 : Fill ChgR w2 (fun b => w2.heap.size ≤ b) 3 g 67 n 0 t.chs := by
    have := Fill.start (R := ChgR) (S := fun b => w2.heap.size ≤ b) (n := n) (size := 3) (l := t.chs) w1 (madeCells (Value.agg #[.string ⟨#[]⟩, .int .i64 0, .slice none 0 0]).cells (n * 3)) 67 (size_madeCells _ _)
    rwa [← hw2, ← hg] at this
  have t2 : Turns [] w1 w2 := by rw [hw2]; exact (Turns.refl _ _).alloc _
  have hs2 : w2.heap.size = w1.heap.size + 1 := by rw [hw2]; simp
  rw [← hw2, ← hg] at hmk
  have HW := Lib.hid (And.intro hw hw1)
  have HPG := Lib.hid (And.intro hp (And.intro hq (And.intro hg (And.intro hs0 (And.intro hs1 hs2)))))
  have HN := Lib.hid hn
  have t02 := (t0.trans t1 (by simp)).trans t2 (by simp)
  have HT0 := Lib.hid t02
  have HT := Lib.hid ht
  have HD := Lib.hid hd
  have HF0 := Lib.hid f0
  have HBP := Lib.hid (bc.turns (t1.trans t2 (by simp)) (by simp))
  have HBQ := Lib.hid (bq.turns t2 (by simp))
  have c1 := ((bc.turns t1 (by simp)).cell 1)
  have c2 := ((bc.turns (t1.trans t2 (by simp)) (by simp)).cell 1)
  simp only [List.getElem?_cons_zero, List.getElem?_cons_succ] at c1 c2
  rw [← hn] at c1 c2
  have HP := Lib.hid (And.intro hp (show p + 1 = q by omega))
  have hgp : p < g := by omega
  have hgq : q < g := by omega
  have hg2 : g < w2.heap.size := by omega
  rw [← hn]
  clear bc t0 hw hw1 hw2 hp hq hg hs0 hs1 hs2 ht hd hn hcp f0 bq t1 t2 t02
  rw [HN.out.symm] at HW
  go_enter Tryz.func37, Tryz.ntmps37
  go_upto_region 1 with fail
  rw [← HW.out.1, ← HW.out.2, ← HP.out.1, HP.out.2]
  go_wp2_with fail
  go_loopw [4, 5, 13] (fun j y i wr => ∃ k : Nat, k ≤ n ∧ i = .int .i64 k ∧ Fill ChgR wr (fun b => w2.heap.size ≤ b) 3 g 67 n k t.chs ∧ Turns [g] w2 wr) (fun _ _ i _ => n - (intOf i).toNat)
  case atStart => exact ⟨0, by omega, rfl, HF0.out, Turns.refl _ _⟩
  case round =>
    obtain ⟨k, hk, rfl, f0, t0⟩ := hrel
    by_cases hlt : k < n
    · have hki : (k : Int) < (n : Int) := by omega
      have hkl : k < t.chs.length := by have := HN.out; omega
      have tw : Turns [] w0 wr := HT0.out.trans t0 (by intro x hx; simp at hx; exact .inr (by have := HPG.out; omega))
      obtain ⟨b, off, cc, cs, hv, hS, hb, hcl, rg0, hR0⟩ := HD.out.at_ (by omega) k hkl
      injection hv with e1 e2 e3
      subst e1 e3
      clear e2
      have rg := rangeV tw rg0
      have hR := hR0.on tw
      clear rg0 hR0
      have hck := HT.out.chs _ (List.getElem_mem hkl)
      have hx0 : ∀ v cs', ChgR v (fun b => w2.heap.size ≤ b) cs' t.chs[k] → ChgR v (fun b => w2.heap.size ≤ b) cs' t.chs[k] := fun _ _ h => h
      obtain ⟨c, hc⟩ : ∃ c, c = t.chs[k] := ⟨_, rfl⟩
      rw [← hc] at hR hck
      obtain ⟨rv, rfl, hsl⟩ := hR
      obtain ⟨Ar, cr, rfl, _⟩ := hsl.form'
      have hz1 := size_chg c.table c.op (.slice Ar c.row.length cr)
      obtain ⟨X1, hX1⟩ : ∃ X1, X1 = wr.alloc (.cells #[.string c.table, .int .i64 c.op, .slice Ar c.row.length cr] 67) := ⟨_, rfl⟩
      have b5 := Blk.new wr [.string c.table, .int .i64 c.op, .slice Ar c.row.length cr] 67
      rw [show wr.alloc (.cells [.string c.table, .int .i64 c.op, .slice Ar c.row.length cr].toArray 67) = X1 from hX1.symm] at b5
      obtain ⟨p5, hp5⟩ : ∃ q, q = wr.heap.size := ⟨_, rfl⟩
      have hX1s : X1.heap.size = p5 + 1 := by rw [hX1, hp5]; simp
      rw [← hp5] at b5
      have tX : Turns [] wr X1 := by rw [hX1]; exact (Turns.refl _ _).alloc _
      have c52 := b5.cell 2
      simp only [List.getElem?_cons_zero, List.getElem?_cons_succ] at c52
      have CV := Lib.hid (CloneVal_any (.slice Ar c.row.length cr) c.row.length (valCells c.row) (valCells_one _) X1 ((tX.slice hsl.sl (Nat.le_refl _) (by simp)).more tX.size) (by have := hck.len; omega))
      have HX1 := Lib.hid hX1
      have HP5 := Lib.hid hp5
      have HX := Lib.hid (And.intro hX1s (And.intro tX b5))
      have HF := Lib.hid f0
      have HTW := Lib.hid (And.intro tw t0)
      have HC := Lib.hid hc
      clear f0 t0 tw hck hc hsl hcl hX1 hp5 tX b5 hb hx0 c1 c2 hmk
      go_upto_region 5 with (first
        | (refine wpList_load_mid rfl 67 (.tmp 16) rfl b (off + k * 3) rfl _ _ rg Tryz.underlying67 rfl hz1 ?_)
        | fail)
      rw [← HX1.out, ← HP5.out]
      go_wp2_with fail
      refine CV.out.mono ?_
      rintro e x2 ⟨v20, rfl, o20, t20⟩
      obtain ⟨A20, c20, rfl⟩ := own_formV o20
      have b52 := HX.out.2.2.turns t20 (by simp)
      have k52 := b52.cell 2
      have z52 := b52.free 2
      simp only [List.getElem?_cons_zero, List.getElem?_cons_succ] at k52
      obtain ⟨x3, hx3⟩ : ∃ x, x = x2.setCell ⟨p5, 2, none⟩ (.slice A20 c.row.length c20) := ⟨_, rfl⟩
      have b53 : Blk x3 p5 [.string c.table, .int .i64 c.op, .slice A20 c.row.length c20] 67 := by rw [hx3]; exact b52.set 2 _
      have t23 : Turns [p5] x2 x3 := by rw [hx3]; exact (Turns.refl _ _).setCell (.inl (by simp)) _
      have hpw := HP5.out
      have t3 : Turns [] wr x3 := (HX.out.2.1.trans t20 (by simp)).trans t23 (by intro x hx; simp at hx; exact .inr (by omega))
      have f3 := HF.out.on ChgR.lasts t3 (by simp) (by simp)
      have hgw := HF.out.lt
      have hw2r := HTW.out.2.size
      have sl3 : SlS x3 (fun b => w2.heap.size ≤ b) 3 (.slice A20 c.row.length c20) c.row.length (valCells c.row) :=
        ((SlS.of_own (S := fun b => X1.heap.size ≤ b) o20 (fun k hk => (o20.lt k hk).1)).keep (t23.keepsB _ (by intro x hx _; simp at hx; have := HX.out.1; omega))).mono (fun k _ hk => by have := HX.out.1; omega)
      have th := f3.there hlt
      have f4 := f3.put ChgR.lasts (show ¬ w2.heap.size ≤ g by omega) (cs := [.string c.table, .int .i64 c.op, .slice A20 c.row.length c20]) rfl hlt hkl (by rw [← HC.out]; exact ⟨_, rfl, sl3⟩)
      have t4 : Turns [g] w2 (x3.setCells g (k * 3) [.string c.table, .int .i64 c.op, .slice A20 c.row.length c20]) := (HTW.out.2.trans t3 (by simp)).trans (Turns.setCells (L := [g]) (.inl (by simp)) _ _ (Turns.refl _ _)) (fun x hx => .inl hx)
      have HFIN := Lib.hid (And.intro f4 t4)
      have hz2 := size_chg c.table c.op (.slice A20 c.row.length c20)
      have r53 := b53.all
      have HX3 := Lib.hid hx3
      clear f3 f4 t4 sl3 t3 t23 hx3 b53 b52 o20 t20 rg c52 CV hpw
      go_upto_region 6 with fail
      rw [← HX3.out]
      go_wp2_with (first
        | (refine wpList_load_mid rfl 67 (.tmp 5) rfl p5 0 rfl _ _ r53 Tryz.underlying67 rfl hz2 ?_)
        | (refine wpList_store_mid rfl 67 (.tmp 25) (.tmp 24) rfl g (k * 3) #[.string c.table, .int .i64 c.op, .slice A20 c.row.length c20] (by kernel_rfl) (by kernel_rfl) th hz2 (by kernel_rfl) ?_)
        | fail)
      go_roundw
      case rel => exact ⟨k + 1, by omega, by go_num, HFIN.out.1, HFIN.out.2⟩
      case measure => (simp [intOf] <;> omega)
    · obtain rfl : k = n := by omega
      have tw : Turns [] w0 wr := HT0.out.trans t0 (by intro x hx; simp at hx; exact .inr (by have := HPG.out; omega))
      have c0 := (HBP.out.turns t0 (by simp; omega)).cell 0
      simp only [List.getElem?_cons_zero, List.getElem?_cons_succ] at c0
      have bq := HBQ.out.turns t0 (by simp; omega)
      have hgw := f0.lt
      have DD := f0.done ChgR.lasts (S' := fun b => w0.heap.size ≤ b) HN.out (by simp only [maxLen]; omega) (fun j _ hj => by have := HPG.out; omega) (by have := HPG.out; omega)
      have HB := Lib.hid bq
      have HF := Lib.hid (And.intro DD tw)
      have HQX := Lib.hid (show w0.heap.size ≤ q ∧ q < w2.heap.size ∧ q ≠ g by have := HPG.out; omega)
      have hzt := size_tx t.id (.slice (some ⟨g, 0, none⟩) k k)
      have hft : Turns [] w2 wr → True := fun _ => trivial
      have HTG := Lib.hid (And.intro t0 f0)
      clear f0 t0 tw bq DD c1 c2 hmk hft hgw
      go_wp2_with (first
        | (refine wpList_store_blk rfl 45 (.tmp 2) (.tmp 30) rfl q (by kernel_rfl) [.int .i64 t.id, .slice (some ⟨g, 0, none⟩) k k] [.int .i64 0, .slice none 0 0] 45 (by kernel_rfl) HB.out rfl hzt (by intro u hu; simp at hu; rcases hu with rfl | rfl <;> rfl) (fun w9 hb9 ht9 hs9 => ?_); have HQ9 := Lib.hid (And.intro hb9 ht9); clear hb9 ht9 hs9)
        | fail)
      refine bodyPost_ret (results_cell_row rfl _ _ q _ _ _ _ (by kernel_rfl) HQ9.out.1 Tryz.underlying45 rfl (by rw [List.size_toArray]; exact hzt)) rfl ?_
      refine ⟨g, rfl, ?_, HF.out.2.trans HQ9.out.2 (by intro x hx; simp at hx; exact .inr (by have := HQX.out; omega))⟩
      have fq := HTG.out.2.on ChgR.lasts HQ9.out.2 (by intro hx; simp at hx; have := HQX.out; omega) (by intro x hx _; simp at hx; have := HQX.out; omega)
      exact fq.done ChgR.lasts HN.out (by simp only [maxLen]; omega) (fun j _ hj => by have := HPG.out; omega) (by have := HPG.out; omega)
end Go.Proofs.YtoahnhphfabajaaGreat
