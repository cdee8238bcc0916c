/- Own copies of rows of transactions; deep rows of one's own. -/
import Derived.Test.YtoahnhphfabajaaGreatLdI
namespace Go.Proofs.YtoahnhphfabajaaGreat
open Go.RowKit
set_option linter.unusedVariables false
set_option maxRecDepth 10000
set_option linter.unusedSimpArgs false
set_option linter.unnecessarySimpa false

section
variable {α : Type} {R : World → (Nat → Prop) → List Value → α → Prop} {w w' : World} {S S' : Nat → Prop} {size base g n : Nat} {e : TypeId} {v : Value} {l : List α}
theorem DeepO.form (h : DeepO R w S size base e v l) : ∃ A c, v = .slice A l.length c := by obtain ⟨xs, h⟩ := h.own; exact own_formV h
theorem Fill.doneO (h : Fill R w S size g e n n l) (hn : n = l.length) (hm : n ≤ maxLen) (hb : base ≤ g) : DeepO R w S size base e (.slice (some ⟨g, 0, none⟩) n n) l := by
  subst hn
  obtain ⟨c, hbk, hl, hr⟩ := h.ex
  refine ⟨chunks size l.length c, chunks_len _ _ _, fun x hx => ?_, fun i hi hi' => ?_, ?_⟩
  · obtain ⟨i, hi, rfl⟩ := List.mem_iff_getElem.1 hx
    rw [chunks_get, List.length_take, List.length_drop, hl]
    rw [chunks_len] at hi
    have := Nat.mul_le_mul_right size (show i + 1 ≤ l.length by omega)
    rw [Nat.succ_mul] at this
    omega
  · rw [chunks_get]
    exact hr i hi hi
  · rw [chunks_flat size _ _ hl]
    refine ⟨hl, .inr ⟨g, l.length, c.toArray, rfl, hb, hbk, Nat.le_refl _, hm, by simp [hl], ?_⟩⟩
    rw [← hl]
    exact List.take_of_length_le (by simp)
/-- One element more, which was just laid into a block of its own. -/
theorem DeepO.push (hR : Lasts R) {t : TypeId} {z : Value} {bytes : Nat} (T : SliceTy Tryz.prog t e z size bytes) (h : DeepO R w S size base e v l) {cs : List Value} {x : α} (hx : R w S cs x) (hcs : cs.length = size) (h1 : ∀ u ∈ cs, u.oneCell' = true)
    (h1l : ∀ c, ∀ y, R w S c y → ∀ u ∈ c, u.oneCell' = true) (hb : base ≤ w.heap.size) (hl : l.length ≤ 100000) (hown : ∀ k, v.ownBlock = some k → ¬ S k) (ty : TypeId) (hbs : bytes ≤ 100 ∧ size ≤ 100) :
    ∃ A' c' w', (Builtin.append_ #[t, t] ty #[v, .slice (some ⟨w.heap.size, 0, none⟩) 1 1]).run Tryz.prog (w.alloc (.cells cs.toArray e)) = .ok (.slice A' (l.length + 1) c') w' ∧
      (∀ S' : Nat → Prop, (∀ k, k < w'.heap.size → S k → S' k) → (∀ k, (Value.slice A' (l.length + 1) c').ownBlock = some k → S' k) → Deep R w' S' size (.slice A' (l.length + 1) c') (l ++ [x])) ∧
      Turns v.ownBlock.toList w w' ∧ (∀ k, (Value.slice A' (l.length + 1) c').ownBlock = some k → (v.ownBlock = some k ∨ w.heap.size ≤ k) ∧ base ≤ k ∧ k < w'.heap.size) := by
  obtain ⟨css, g1, g2, g3, g4⟩ := h
  have ho := g4.alloc (.cells cs.toArray e)
  obtain ⟨v', w', hr, ap⟩ := run_append_rd (P := Tryz.prog) _ T ty ho (Sl.new w cs.toArray e 1 size (by simp [hcs]) (by simp [maxLen])) (by simpa using h1) (by simp only [maxLen]; omega) (by have := Nat.mul_le_mul (show l.length + 1 ≤ 100001 by omega) hbs.1; omega) (by simp; omega)
  have t2 : Turns v.ownBlock.toList w w' := Turns.trans (L' := v.ownBlock.toList) ((Turns.refl _ w).alloc _) (Turns.of_grown ap.grown (by intro k hk; exact .inl (by simpa using hk))) (fun k hk => .inl hk)
  have hlen : css.flatten ++ cs = (css ++ [cs]).flatten := by simp
  have hown' := ap.own
  rw [show cs.toArray.toList = cs by simp, hlen] at hown'
  obtain ⟨A', c', rfl⟩ := own_formV hown'
  have kp : Keeps S w w' := t2.keepsB S (fun k hk _ => hown k (by simpa using hk))
  refine ⟨A', c', w', hr, fun S' hS' hv' => ?_, t2, fun k hk => ⟨?_, hown'.lt k hk⟩⟩
  · refine Deep.mk' (css := css ++ [cs]) (by simp [g1]) (fun c hc => ?_) (fun i hi hi' => ?_) ?_
    · rcases List.mem_append.1 hc with hc | hc
      · exact g2 c hc
      · simp at hc; subst hc; exact hcs
    · by_cases hil : i < l.length
      · have e1 : (css ++ [cs])[i] = css[i]'(by omega) := List.getElem_append_left (by omega)
        have e2 : (l ++ [x])[i] = l[i] := List.getElem_append_left hil
        rw [e1, e2]
        exact hR.mono (hR.keep (g3 i hil (by omega)) kp) hS'
      · obtain rfl : i = l.length := by simp at hi; omega
        have e1 : (css ++ [cs])[l.length]'hi' = cs := by rw [List.getElem_append_right (by omega)]; simp [g1]
        have e2 : (l ++ [x])[l.length]'hi = x := by simp
        rw [e1, e2]
        exact hR.mono (hR.keep hx kp) hS'
    · have := SlS.of_own (S := S') hown' hv'
      simpa using this
  · rcases ap.lies with h | ⟨g, hg, hge⟩
    · exact .inl (by rw [← h]; exact hk)
    · rw [hg] at hk
      injection hk with hk
      subst hk
      simp at hge
      exact .inr (by omega)
end

set_option maxRecDepth 100000 in
set_option maxHeartbeats 4000000 in
theorem ownTxs_any (l : List Txn) (hl : l.length ≤ 1000) (ha : ∀ t ∈ l, t.ok) (v : Value) (S : Nat → Prop) (w0 : World) (hd : Deep TxR w0 S 2 v l) :
    Calls Tryz.prog 60 #[v] w0 fun e w' => ∃ g, e = .returned (.slice (some ⟨g, 0, none⟩) l.length l.length) ∧ DeepO TxR w' (fun b => g < b) 2 w0.heap.size 45 (.slice (some ⟨g, 0, none⟩) l.length l.length) l ∧ Turns [] w0 w' := by
  obtain ⟨A, cp, rfl, hcp, _⟩ := hd.form
  obtain ⟨n, hn⟩ : ∃ n, n = l.length := ⟨_, rfl⟩
  have hn1 : n ≤ 1000 := by rw [hn]; exact hl
  have hmk := run_make_ty TTx n (by omega) (by omega) w0
  obtain ⟨g, hg⟩ : ∃ g, g = w0.heap.size := ⟨_, rfl⟩
  obtain ⟨w2, hw2⟩ : ∃ x, x = w0.alloc (.cells (madeCells (Value.agg #[.int .i64 0, .slice none 0 0]).cells (n * 2)) 45) := ⟨_, rfl⟩
  have f0 : Fill TxR w2 (fun b => g < b) 2 g 45 n 0 l := by
    have := Fill.start (R := TxR) (S := fun b => g < b) (n := n) (size := 2) (l := l) w0 (madeCells (Value.agg #[.int .i64 0, .slice none 0 0]).cells (n * 2)) 45 (size_madeCells _ _)
    rwa [← hw2, ← hg] at this
  have t2 : Turns [] w0 w2 := by rw [hw2]; exact (Turns.refl _ _).alloc _
  have hs2 : w2.heap.size = w0.heap.size + 1 := by rw [hw2]; simp
  rw [← hw2, ← hg] at hmk
  have HPG := Lib.hid (And.intro hg hs2)
  have HN := Lib.hid hn
  have HT0 := Lib.hid t2
  have HT := Lib.hid ha
  have HD := Lib.hid hd
  have HF0 := Lib.hid f0
  rw [← hn]
  clear hw2 hg hs2 ha hd hn hcp f0 t2 hl
  go_enter Tryz.func60, Tryz.ntmps60
  go_wp2_with fail
  go_loopw [4, 5, 11] (fun j y i wr => ∃ k : Nat, k ≤ n ∧ i = .int .i64 k ∧ Fill TxR wr (fun b => g < b) 2 g 45 n k l ∧ Turns [] w0 wr) (fun _ _ i _ => n - (intOf i).toNat)
  case atStart => exact ⟨0, by omega, rfl, HF0.out, HT0.out⟩
  case round =>
    obtain ⟨k, hk, rfl, f0, tw⟩ := hrel
    by_cases hlt : k < n
    · have hki : (k : Int) < (n : Int) := by omega
      have hkl : k < l.length := by have := HN.out; omega
      obtain ⟨b, off, cc, cs, hv, hS, hb, hcl, rg0, hR0⟩ := HD.out.at_ (by omega) k hkl
      injection hv with e1 e2 e3
      subst e1 e3
      clear e2
      have rg := rangeV tw rg0
      have hR := hR0.on tw
      clear rg0 hR0
      have hck := HT.out _ (List.getElem_mem hkl)
      obtain ⟨c, hc⟩ : ∃ c, c = l[k] := ⟨_, rfl⟩
      rw [← hc] at hR hck
      obtain ⟨rv, rfl, hsl⟩ := hR
      obtain ⟨Ar, cr, rfl, _⟩ := hsl.form
      have hz1 := size_tx c.id (.slice Ar c.chs.length cr)
      obtain ⟨X1, hX1⟩ : ∃ X1, X1 = wr.alloc (.cells #[.int .i64 c.id, .slice Ar c.chs.length cr] 45) := ⟨_, rfl⟩
      have b5 := Blk.new wr [.int .i64 c.id, .slice Ar c.chs.length cr] 45
      rw [show wr.alloc (.cells [.int .i64 c.id, .slice Ar c.chs.length cr].toArray 45) = X1 from hX1.symm] at b5
      obtain ⟨p5, hp5⟩ : ∃ q, q = wr.heap.size := ⟨_, rfl⟩
      have hX1s : X1.heap.size = p5 + 1 := by rw [hX1, hp5]; simp
      rw [← hp5] at b5
      have tX : Turns [] wr X1 := by rw [hX1]; exact (Turns.refl _ _).alloc _
      have r5 := b5.all
      have CV := Lib.hid (ownTx_any c hck (.slice Ar c.chs.length cr) S X1 (hsl.keep ChgR.lasts (tX.keeps0 S)))
      have HX1 := Lib.hid hX1
      have HP5 := Lib.hid hp5
      have HX := Lib.hid (And.intro hX1s tX)
      have HF := Lib.hid f0
      have HTW := Lib.hid tw
      have HC := Lib.hid hc
      clear f0 tw hck hc hsl hcl hX1 hp5 tX b5 hb hmk hX1s
      go_upto_region 5 with (first
        | (refine wpList_load_mid rfl 45 (.tmp 14) rfl b (off + k * 2) rfl _ _ rg Tryz.underlying45 rfl hz1 ?_)
        | fail)
      rw [← HX1.out, ← HP5.out]
      go_wp2_with (first
        | (refine wpList_load_mid rfl 45 (.tmp 5) rfl p5 0 rfl _ _ r5 Tryz.underlying45 rfl hz1 ?_)
        | fail)
      refine CV.out.mono ?_
      rintro e x2 ⟨g2, rfl, dd, t20⟩
      have hpw := HP5.out
      have t3 : Turns [] wr x2 := HX.out.2.trans t20 (by simp)
      have f3 := HF.out.on TxR.lasts t3 (by simp) (by simp)
      have hgw := HF.out.lt
      have d3 : Deep ChgR x2 (fun b => g < b) 3 (.slice (some ⟨g2, 0, none⟩) c.chs.length c.chs.length) c.chs := dd.mono ChgR.lasts (fun k _ hk => by have := HX.out.1; omega)
      have th := f3.there hlt
      have f4 := f3.put TxR.lasts (show ¬ g < g by omega) (cs := [.int .i64 c.id, .slice (some ⟨g2, 0, none⟩) c.chs.length c.chs.length]) rfl hlt hkl (by rw [← HC.out]; exact ⟨_, rfl, d3⟩)
      have t4 : Turns [] w0 (x2.setCells g (k * 2) [.int .i64 c.id, .slice (some ⟨g2, 0, none⟩) c.chs.length c.chs.length]) := (HTW.out.trans t3 (by simp)).trans (Turns.setCells (L := [g]) (.inl (by simp)) _ _ (Turns.refl _ _)) (by intro x hx; simp at hx; exact .inr (by have := HPG.out; omega))
      have HFIN := Lib.hid (And.intro f4 t4)
      have hz2 := size_tx c.id (.slice (some ⟨g2, 0, none⟩) c.chs.length c.chs.length)
      clear f3 f4 t4 d3 t3 dd t20 rg r5 CV hpw
      go_wp2_with (first
        | (refine wpList_store_mid rfl 45 (.tmp 20) (.tmp 19) rfl g (k * 2) #[.int .i64 c.id, .slice (some ⟨g2, 0, none⟩) c.chs.length c.chs.length] (by kernel_rfl) (by kernel_rfl) th hz2 (by kernel_rfl) ?_)
        | fail)
      go_roundw
      case rel => exact ⟨k + 1, by omega, by go_num, HFIN.out.1, HFIN.out.2⟩
      case measure => (simp [intOf] <;> omega)
    · obtain rfl : k = n := by omega
      have HF := Lib.hid (And.intro (f0.doneO (base := w0.heap.size) HN.out (by simp only [maxLen]; omega) (by have := HPG.out; omega)) tw)
      clear f0 tw hmk
      go_wp2_with fail
      go_ret
      exact ⟨g, rfl, HF.out.1, HF.out.2⟩

set_option maxHeartbeats 400000 in
theorem CloneBlo_any (v : Value) (n : Nat) (bs : List Value) (h1 : ∀ u ∈ bs, u.oneCell' = true) (w : World) (h : Sl w w.heap.size 66 v n bs) (hn : n ≤ 100000) :
    Calls Tryz.prog 61 #[v] w fun e w' => ∃ v', e = .returned v' ∧ w'.ownsRow w.heap.size 70 66 v' n bs ∧ Turns [] w w' := by
  have h' := h
  obtain ⟨hl, A, c, rfl, hnc, hcm, hA, hrd⟩ := h
  have hnil := fun w => Lib.run_eql_slice_nil (P := Tryz.prog) w 26 70 A n c 0 0 Tryz.underlying26
  rcases A with _ | ad
  · have := hA rfl
    subst this
    have : n = 0 := by omega
    subst this
    have : bs = [] := List.eq_nil_of_length_eq_zero (by omega)
    subst this
    go_enter Tryz.func61, Tryz.ntmps61
    go_wp2_with fail
    go_ret
    exact ⟨_, rfl, World.ownsRow_nil _ _ _ _, Turns.refl _ _⟩
  · have hown : (w.alloc (.cells #[] 70)).ownsRow w.heap.size 70 66 (.slice (some ⟨w.heap.size, 0, none⟩) 0 0) 0 [] :=
      World.ownsRow_made w #[] 0 (Nat.le_refl _) (Nat.zero_le _) (by simp)
    go_enter Tryz.func61, Tryz.ntmps61
    go_wp2_with (at_builtin; refine wpList_append _ rfl (.tmp 5) (.tmp 6) rfl (run_append_rd _ TBlo _ hown (h'.alloc (Nat.le_refl _) _) h1 (by simp only [maxLen]; omega) (by omega) (by simp)) rfl rfl ?_; intro v' w' ap)
    go_ret
    exact ⟨v', rfl, by simpa using ap.own, Turns.of_below (L := []) (ap.below ((Below.refl _ _).alloc (Nat.le_refl _) _) hown (Nat.le_refl _) (by simp))⟩
end Go.Proofs.YtoahnhphfabajaaGreat
