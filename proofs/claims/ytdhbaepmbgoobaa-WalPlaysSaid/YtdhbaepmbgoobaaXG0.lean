/- The document's disk: Sync, Stop. The document's disk: Tamper. -/
import Derived.Test.YtdhbaepmbgoobaaXTw
namespace Go.Proofs.Ytdhbaepmbgoobaa
open Go.RowKit
set_option linter.unusedVariables false
set_option maxRecDepth 10000
set_option linter.unusedSimpArgs false
set_option linter.unnecessarySimpa false

/-- 'append([][64]byte{}, pages...)': pages of its own. -/
theorem run_fresh_pages (w : World) {B p : Nat} {x : Value} {bs : List UInt8} (h : Sl w B 64 x p (bvs bs)) (hB : B ≤ w.heap.size) (hp : 2 ≤ p ∧ p ≤ 4096) (ty : TypeId) :
    ∃ k ck w', (Builtin.append_ #[93, 93] ty #[.slice (some ⟨w.heap.size, 0, none⟩) 0 0, x]).run Try.prog (w.alloc (.cells #[] 98)) = .ok (.slice (some ⟨k, 0, none⟩) p ck) w' ∧
      (∃ tl, Blk w' k (bvs bs ++ tl) 98) ∧ w.heap.size ≤ k ∧ (p ≤ ck ∧ ck ≤ 9223372036854775807) ∧ Turns [] w w' := by
  have hown : (w.alloc (.cells #[] 98)).ownsRow w.heap.size 98 64 (.slice (some ⟨w.heap.size, 0, none⟩) 0 0) 0 [] := World.ownsRow_made w #[] 0 (Nat.le_refl _) (Nat.zero_le _) (by simp)
  obtain ⟨v', w', hr, ap⟩ := run_append_rd (P := Try.prog) _ T64r ty hown (h.alloc hB _) (bvs_one _) (by simp only [maxLen]; omega) (by omega) (by simp)
  have ho := ap.own
  rw [List.nil_append, Nat.zero_add] at ho
  obtain ⟨hl, h2⟩ := ho
  rcases h2 with ⟨_, h0⟩ | ⟨k, cap, cur, rfl, hb, hh, hnc, hcm, hcs, htk⟩
  · omega
  · refine ⟨k, cap, w', hr, ⟨cur.toList.drop (p * 64), ?_⟩, hb, ⟨hnc, by unfold maxLen at hcm; omega⟩, ?_⟩
    · unfold Blk
      rw [hh, ← htk, List.take_append_drop]
    · exact Turns.trans (L' := [w.heap.size]) ((Turns.refl [] w).alloc _) (Turns.of_grown ap.grown (by intro k hk; simp [Value.ownBlock] at hk; simp [hk])) (by intro x hx; simp at hx; simp [hx])
/-- The pages as synced, of their own, new. -/
theorem RIs.syncTo {w w' : World} {B : Nat} {D : RL} {p k ck : Nat} {st : DS} (h : RIs w B D p st) (t : Turns [] w w') (hk : w.heap.size ≤ k) (hb : ∃ tl, Blk w' k (bvs st.now ++ tl) 98) (hc : p ≤ ck ∧ ck ≤ 9223372036854775807) :
    RDid w B D p st.kept (w'.setCell ⟨D.g, 1, none⟩ (.slice (some ⟨k, 0, none⟩) p ck)) ⟨D.g, D.n, k, D.cn, ck, D.v⟩ := by
  have h' := h.turns t (by simp)
  have l1 := h.head.lt
  have hg : D.g ≠ k := by omega
  obtain ⟨tn, hn⟩ := h.now
  obtain ⟨tn', hn'⟩ := h'.now
  have hnk : D.n ≠ k := by have := hn.lt; omega
  obtain ⟨tl, hb⟩ := hb
  refine ⟨⟨?_, ⟨tn', hn'.other (p := ⟨D.g, 1, none⟩) h.ap1.1 _⟩, ⟨tl, hb.other (p := ⟨D.g, 1, none⟩) hg _⟩, RIs.own_other h'.own h.ap2.1 _ _, h.lenN, h.lenN, h.left0, h.pages, ⟨h.caps.1, h.caps.2.1, hc.1, hc.2⟩, ⟨h.ap1.1, hg, hnk⟩, ⟨h.ap2.1, h.ap2.2.1, fun e => ?_⟩, ⟨h.low.1, h.low.2.1, ?_⟩⟩, rfl, (t.mono (by simp)).setCell (p := ⟨D.g, 1, none⟩) (.inl (by simp [RL.all])) _, fun x hx => ?_⟩
  · have := h'.head.set 1 (.slice (some ⟨k, 0, none⟩) p ck)
    exact this
  · have := (h.own.lt k e).2; omega
  · show B ≤ k
    have := h.low.1; omega
  · simp only [RL.all, List.mem_cons] at hx ⊢
    rcases hx with hx | hx | hx | hx
    · exact .inl (.inl hx)
    · exact .inl (.inr (.inl hx))
    · exact .inr (by omega)
    · exact .inl (.inr (.inr (.inr hx)))
/-- The Writes are let go. -/
theorem RIs.letgo {w : World} {B : Nat} {D : RL} {p : Nat} {st : DS} (h : RIs w B D p st) : RDid w B D p st.clear (w.setCell ⟨D.g, 2, none⟩ (.slice none 0 0)) ⟨D.g, D.n, D.k, D.cn, D.ck, .slice none 0 0⟩ := by
  obtain ⟨tn, hn⟩ := h.now
  obtain ⟨tk, hk⟩ := h.syn
  refine ⟨⟨?_, ⟨tn, hn.other (p := ⟨D.g, 2, none⟩) h.ap1.1 _⟩, ⟨tk, hk.other (p := ⟨D.g, 2, none⟩) h.ap1.2.1 _⟩, World.ownsRow_nil _ _ _ _, h.lenS, h.lenN, h.left0, h.pages, h.caps, h.ap1, ⟨by simp [Value.ownBlock], by simp [Value.ownBlock], by simp [Value.ownBlock]⟩, h.low⟩, rfl, (Turns.refl _ _).setCell (p := ⟨D.g, 2, none⟩) (.inl (by simp [RL.all])) _, fun x hx => .inl ?_⟩
  · have := h.head.set 2 (.slice none 0 0)
    exact this
  · simp only [RL.all, List.mem_cons, Value.ownBlock, Option.toList_none, List.not_mem_nil, or_false] at hx ⊢
    rcases hx with hx | hx | hx
    · exact .inl hx
    · exact .inr (.inl hx)
    · exact .inr (.inr (.inl hx))
set_option maxHeartbeats 1000000 in
theorem RStop_any (w : World) (B : Nat) (D : RL) (p : Nat) (st : DS) (n : Int) (h : RIs w B D p st) (hn : -9223372036854775808 ≤ n ∧ n ≤ 9223372036854775807) :
    Calls Try.prog 52 #[.pointer (some ⟨D.g, 0, none⟩), .int .i64 n] w fun e w' => e = .returned (.tuple #[]) ∧ RDid w B D p (st.stop n) w' D := by
  have c3 := h.head.cell 3
  have f3 := h.head.free 3
  simp only [RL.head, List.getElem?_cons_zero, List.getElem?_cons_succ] at c3
  have HF := Lib.hid (h.set3 (max n 0) (by omega))
  obtain ⟨l, hl⟩ : ∃ l, l = st.left := ⟨_, rfl⟩
  rw [← hl] at c3
  by_cases h0 : n < 0
  · have HM := Lib.hid (show max n 0 = 0 by omega)
    have hns : st.stop n = ⟨max n 0, st.dead, st.synced, st.now, st.writes⟩ := rfl
    rw [hns]
    clear h hl hns
    go_enter Try.func52, Try.ntmps52
    go_wp2_with fail
    go_end0
    refine ⟨rfl, ?_⟩
    have := HF.out
    rw [HM.out] at this ⊢
    exact this
  · have HM := Lib.hid (show max n 0 = n by omega)
    have hns : st.stop n = ⟨max n 0, st.dead, st.synced, st.now, st.writes⟩ := rfl
    rw [hns]
    clear h hl hns
    go_enter Try.func52, Try.ntmps52
    go_wp2_with fail
    go_end0
    refine ⟨rfl, ?_⟩
    have := HF.out
    rw [HM.out] at this ⊢
    exact this
set_option maxRecDepth 100000 in
set_option maxHeartbeats 4000000 in
theorem RSync_any (w : World) (B : Nat) (D : RL) (p : Nat) (st : DS) (h : RIs w B D p st) :
    Calls Try.prog 51 #[.pointer (some ⟨D.g, 0, none⟩)] w fun e w' => e = .returned (.int .i64 st.syncCode) ∧ ∃ D', RDid w B D p st.sync w' D' := by
  have hp := h.pages
  have c4 := h.head.cell 4
  simp only [RL.head, List.getElem?_cons_zero, List.getElem?_cons_succ] at c4
  cases hd : st.dead
  · have OP := Rop_any w B D p st h hd
    rw [hd] at c4
    have e1 : st.syncCode = st.code := by unfold DS.syncCode; rw [if_neg (by simp [hd])]
    have e2 : st.sync = if st.left = 1 then st.counted else st.counted.kept.clear := by unfold DS.sync; rw [if_neg (by simp [hd])]
    unfold DS.code at e1
    by_cases hl : st.left = 1
    · rw [if_pos hl] at e1 e2
      rw [decide_eq_true hl] at OP
      have OP := Lib.hid OP
      have HE := Lib.hid (And.intro e1 e2)
      clear h hd hl e1 e2
      go_enter Try.func51, Try.ntmps51
      go_wp2_with fail
      refine OP.out.mono ?_
      rintro e w1 ⟨rfl, hq⟩
      have HQ := Lib.hid hq
      clear hq OP
      go_wp2_with fail
      go_ret
      exact ⟨by rw [HE.out.1]; rfl, _, by rw [HE.out.2]; exact HQ.out⟩
    · rw [if_neg hl] at e1 e2
      rw [decide_eq_false hl] at OP
      have OP := Lib.hid OP
      have HE := Lib.hid (And.intro e1 e2)
      clear h hd hl e1 e2
      go_enter Try.func51, Try.ntmps51
      go_wp2_with fail
      refine OP.out.mono ?_
      rintro e w1 ⟨rfl, hq⟩
      have c0 := hq.is.head.cell 0
      simp only [RL.head, List.getElem?_cons_zero] at c0
      obtain ⟨tl, hnw⟩ := hq.is.now
      have hsl := hnw.sl 0 p D.cn 64 (by rw [List.length_append, bvs_length, hq.is.lenN]; omega) hq.is.caps.1 (by simp only [maxLen]; exact hq.is.caps.2.1)
      rw [List.drop_zero, List.take_left' (by rw [bvs_length, hq.is.lenN])] at hsl
      obtain ⟨k, ck, w2, hr2, hb2, hk2, hc2, t2⟩ := run_fresh_pages w1 hsl (Nat.le_refl _) hp 93
      have S2 := hq.is.syncTo t2 hk2 hb2 hc2
      have c1' := (hq.is.turns t2 (by simp)).head.cell 1
      have f1' := (hq.is.turns t2 (by simp)).head.free 1
      simp only [RL.head, List.getElem?_cons_zero, List.getElem?_cons_succ] at c1'
      have S3 := S2.is.letgo
      have c2' := S2.is.head.cell 2
      have f2' := S2.is.head.free 2
      simp only [RL.head, List.getElem?_cons_zero, List.getElem?_cons_succ] at c2' f2'
      have c0a := cellW ((Turns.refl [] w1).alloc (.cells #[] 98)) c0
      have HF := Lib.hid ((hq.trans S2).trans S3)
      clear hq hsl hb2 hk2 hc2 t2 S2 S3 hnw OP
      go_wp2_with (at_builtin; refine wpList_append_at rfl (.tmp 12) (.tmp 16) rfl hr2 rfl rfl ?_)
      go_ret
      exact ⟨by rw [HE.out.1]; rfl, _, by rw [HE.out.2]; exact HF.out⟩
  · have e1 : st.syncCode = 15 := by unfold DS.syncCode; rw [if_pos hd]
    have e2 : st.sync = st := by unfold DS.sync; rw [if_pos hd]
    rw [hd] at c4
    have HF := Lib.hid (And.intro e1 (And.intro e2 h.did))
    clear h hd e1 e2
    go_enter Try.func51, Try.ntmps51
    go_wp2_with fail
    go_ret
    exact ⟨by rw [HF.out.1]; rfl, _, by rw [HF.out.2.1]; exact HF.out.2.2⟩
end Go.Proofs.Ytdhbaepmbgoobaa
namespace Go.Proofs.Ytdhbaepmbgoobaa
open Go.RowKit
set_option linter.unusedVariables false
set_option linter.unusedSimpArgs false
set_option linter.unnecessarySimpa false

theorem spl_snoc {α : Type} (l vs : List α) (o k : Nat) (hk : k < vs.length) (hl : o + vs.length ≤ l.length) : (spl l o (vs.take k)).set (o + k) vs[k] = spl l o (vs.take (k + 1)) := by
  have h1 : (vs.take k).length = k := by rw [List.length_take]; omega
  have h2 : (vs.take (k + 1)).length = k + 1 := by rw [List.length_take]; omega
  apply List.ext_getElem?
  intro i
  rw [List.getElem?_set]
  by_cases hi : o + k = i
  · subst hi
    rw [if_pos rfl, if_pos (by rw [spl_length]; omega), spl_in _ _ _ _ (by omega) (by omega), List.getElem?_take, if_pos (by omega), List.getElem?_eq_getElem hk]
  · rw [if_neg hi]
    by_cases h3 : i < o ∨ o + k < i
    · rw [spl_out _ _ _ _ (by omega), spl_out _ _ _ _ (by omega)]
    · obtain ⟨j, rfl⟩ : ∃ j, i = o + j := ⟨i - o, by omega⟩
      rw [spl_in _ _ _ _ (by omega) (by omega), spl_in _ _ _ _ (by omega) (by omega), List.getElem?_take, List.getElem?_take, if_pos (by omega), if_pos (by omega)]
theorem RIs.setNow {w : World} {B : Nat} {D : RL} {p k : Nat} {st : DS} (h : RIs w B D p st) (hk : k < p * 64) (x : UInt8) : RDid w B D p ⟨st.left, st.dead, st.synced, st.now.set k x, st.writes⟩ (w.setCell ⟨D.n, k, none⟩ (u8v x)) D := by
  have t := (Turns.refl [D.n] w).setCell (p := ⟨D.n, k, none⟩) (.inl (by simp)) (u8v x)
  refine ⟨⟨h.head.other (p := ⟨D.n, k, none⟩) (Ne.symm h.ap1.1) _, ?_, ?_, own_wL h.own t (by intro y hy; simp at hy; subst hy; exact h.ap2.2.1), h.lenS, by rw [List.length_set]; exact h.lenN, h.left0, h.pages, h.caps, h.ap1, h.ap2, h.low⟩, rfl, t.mono (fun y hy => .inl (by simp at hy; subst hy; simp [RL.all])), fun y hy => .inl hy⟩
  · obtain ⟨tl, h1⟩ := h.now
    refine ⟨tl, ?_⟩
    have h2 := h1.set k (u8v x)
    rw [List.set_append_left _ _ (by rw [bvs_length, h.lenN]; exact hk)] at h2
    have e : (bvs st.now).set k (u8v x) = bvs (st.now.set k x) := by unfold bvs; rw [List.map_set]
    rw [e] at h2
    exact h2
  · obtain ⟨tl, h1⟩ := h.syn
    exact ⟨tl, h1.other (p := ⟨D.n, k, none⟩) h.ap1.2.2 _⟩
theorem RIs.setSyn {w : World} {B : Nat} {D : RL} {p k : Nat} {st : DS} (h : RIs w B D p st) (hk : k < p * 64) (x : UInt8) : RDid w B D p ⟨st.left, st.dead, st.synced.set k x, st.now, st.writes⟩ (w.setCell ⟨D.k, k, none⟩ (u8v x)) D := by
  have t := (Turns.refl [D.k] w).setCell (p := ⟨D.k, k, none⟩) (.inl (by simp)) (u8v x)
  refine ⟨⟨h.head.other (p := ⟨D.k, k, none⟩) (Ne.symm h.ap1.2.1) _, ?_, ?_, own_wL h.own t (by intro y hy; simp at hy; subst hy; exact h.ap2.2.2), by rw [List.length_set]; exact h.lenS, h.lenN, h.left0, h.pages, h.caps, h.ap1, h.ap2, h.low⟩, rfl, t.mono (fun y hy => .inl (by simp at hy; subst hy; simp [RL.all])), fun y hy => .inl hy⟩
  · obtain ⟨tl, h1⟩ := h.now
    exact ⟨tl, h1.other (p := ⟨D.k, k, none⟩) (Ne.symm h.ap1.2.2) _⟩
  · obtain ⟨tl, h1⟩ := h.syn
    refine ⟨tl, ?_⟩
    have h2 := h1.set k (u8v x)
    rw [List.set_append_left _ _ (by rw [bvs_length, h.lenS]; exact hk)] at h2
    have e : (bvs st.synced).set k (u8v x) = bvs (st.synced.set k x) := by unfold bvs; rw [List.map_set]
    rw [e] at h2
    exact h2
theorem RDid.drew {w w1 : World} {B : Nat} {D D1 : RL} {p : Nat} {st1 : DS} (h : RDid w B D p st1 w1 D1) : RDid w B D p st1 w1.drew D1 := ⟨h.is.turns (Turns.refl [] _).drew (by simp), h.same, h.turns.drew, h.fresh⟩
def TmR (w : World) (B : Nat) (D : RL) (p n a : Nat) (st : DS) (bs : List UInt8) (i : Value) (wr : World) : Prop := ∃ k : Nat, k ≤ bs.length ∧ i = .int .i64 k ∧ RDid w B D p (st.tamper n a (bs.take k)) wr D
set_option maxRecDepth 100000 in
set_option maxHeartbeats 8000000 in
theorem RTamper_ok (w : World) (B : Nat) (D : RL) (p n a : Nat) (st : DS) (A : Option Addr) (c : Nat) (bs : List UInt8) (h : RIs w B D p st) (hb : Sl w w.heap.size 1 (.slice A bs.length c) bs.length (bvs bs)) (hA : bs ≠ [] → ∀ y, (Value.slice A bs.length c).ownBlock = some y → y ∉ D.all) (hn : n < p) (ha : a ≤ 64) (hl : bs.length ≤ 64 - a) :
    Calls Try.prog 54 #[.pointer (some ⟨D.g, 0, none⟩), .int .i64 n, .int .i64 a, .slice A bs.length c] w fun e w' => e = .returned (.bool true) ∧ RDid w B D p (st.tamper n a bs) w' D := by
  have hp := h.pages
  have c0 := h.head.cell 0
  simp only [RL.head, List.getElem?_cons_zero] at c0
  have hnl : ¬ ((n : Int) < 0) := by omega
  have hnp : (n : Int) < p := by omega
  have haI : ¬ ((a : Int) < 0) ∧ (a : Int) ≤ 64 := by omega
  have hbl : (bs.length : Int) ≤ 64 - (a : Int) := by omega
  have H0 := Lib.hid (And.intro h (And.intro hb hA))
  have HL := Lib.hid hl
  clear h hb hA hl
  go_enter Try.func54, Try.ntmps54
  go_wp2_with fail
  go_loopw [9] (fun i wr => TmR w B D p n a st bs i wr) (fun i _ => bs.length - (intOf i).toNat)
  case atStart => exact ⟨0, by omega, rfl, by rw [List.take_zero]; exact H0.out.1.did⟩
  case round =>
    obtain ⟨k, hk, rfl, rd⟩ := hrel
    obtain ⟨Y, hY⟩ : ∃ Y, Y = wr := ⟨_, rfl⟩
    subst hY
    by_cases hlt : k < bs.length
    · have hltI : (k : Int) < bs.length := by omega
      obtain ⟨_, _, _, ee, h1, _, _, hrd⟩ := H0.out.2.1
      injection ee with e1 _ e3
      subst e1 e3
      obtain ⟨b5, o5, e5, hb5, hc5⟩ := hrd.at_ (k := k) (by rw [bvs_length]; exact hlt)
      subst e5
      have hx5 : (bvs bs)[k]'(by rw [bvs_length]; exact hlt) = u8v bs[k] := by simp [bvs]
      rw [hx5] at hc5
      have hbD : b5 ∉ D.all := H0.out.2.2 (by intro e; rw [e] at hlt; simp at hlt) b5 rfl
      have hc6 := cellW rd.turns hc5 hbD
      have hk64 : n * 64 + (a + k) < p * 64 := by have := HL.out; omega
      obtain ⟨q, hq⟩ : ∃ q, q = n * 64 + (a + k) := ⟨_, rfl⟩
      obtain ⟨x, hx⟩ : ∃ x, x = bs[k] := ⟨_, rfl⟩
      rw [← hx] at hc5
      rw [← hq] at hk64
      have cf : ∀ (W : World) (s : DS), RDid w B D p s W D → (W.cell? ⟨D.g, 0, none⟩ = some (.slice (some ⟨D.n, 0, none⟩) p D.cn) ∧ W.cell? ⟨D.g, 1, none⟩ = some (.slice (some ⟨D.k, 0, none⟩) p D.ck)) ∧ W.cell? ⟨b5, o5 + k, none⟩ = some (.int .u8 (x.toNat : Int)) := fun W s r => ⟨⟨by have := r.is.head.cell 0; simpa only [RL.head, List.getElem?_cons_zero] using this, by have := r.is.head.cell 1; simpa only [RL.head, List.getElem?_cons_zero, List.getElem?_cons_succ] using this⟩, cellW r.turns hc5 hbD⟩
      have cn : ∀ (W : World) (s : DS), RDid w B D p s W D → ∃ u, W.cell? ⟨D.n, q, none⟩ = some u ∧ W.frozen? ⟨D.n, q, none⟩ = false := fun W s r => by
        obtain ⟨tn, hnw⟩ := r.is.now
        exact ⟨_, (hnw.cell q).trans (List.getElem?_eq_getElem (by rw [List.length_append, bvs_length, r.is.lenN]; omega)), hnw.free q⟩
      have ck : ∀ (W : World) (s : DS), RDid w B D p s W D → ∃ u, W.cell? ⟨D.k, q, none⟩ = some u ∧ W.frozen? ⟨D.k, q, none⟩ = false := fun W s r => by
        obtain ⟨tn, hnw⟩ := r.is.syn
        exact ⟨_, (hnw.cell q).trans (List.getElem?_eq_getElem (by rw [List.length_append, bvs_length, r.is.lenS]; omega)), hnw.free q⟩
      obtain ⟨Yd, hYd⟩ : ∃ Yd, Yd = Y.drew := ⟨_, rfl⟩
      have r0 := rd.drew
      rw [← hYd] at r0
      have S1 := r0.trans (r0.is.setNow hk64 x)
      obtain ⟨W1, hW1⟩ : ∃ W1, W1 = Yd.setCell ⟨D.n, q, none⟩ (u8v x) := ⟨_, rfl⟩
      rw [← hW1] at S1
      obtain ⟨W2, hW2⟩ : ∃ W2, W2 = W1.drew := ⟨_, rfl⟩
      have r2 := S1.drew
      rw [← hW2] at r2
      have S3 := r2.trans (r2.is.setSyn hk64 x)
      obtain ⟨W3, hW3⟩ : ∃ W3, W3 = W2.setCell ⟨D.k, q, none⟩ (u8v x) := ⟨_, rfl⟩
      rw [← hW3] at S3
      have hfin : (⟨st.left, st.dead, (st.tamper n a (bs.take k)).synced.set q x, (st.tamper n a (bs.take k)).now.set q x, st.writes⟩ : DS) = st.tamper n a (bs.take (k + 1)) := by
        have e1 := spl_snoc st.synced bs (n * 64 + a) k hlt (by rw [H0.out.1.lenS]; have := HL.out; omega)
        have e2 := spl_snoc st.now bs (n * 64 + a) k hlt (by rw [H0.out.1.lenN]; have := HL.out; omega)
        unfold DS.tamper
        simp only
        rw [hq, hx, ← Nat.add_assoc, e1, e2]
      have hfn : RDid w B D p (st.tamper n a (bs.take (k + 1))) W3 D := by rw [← hfin]; exact S3
      obtain ⟨u6, q6, f6⟩ := cn Yd _ r0
      obtain ⟨u7, q7, f7⟩ := ck W2 _ r2
      have g0 := cf Yd _ r0
      have g1 := cf W1 _ S1
      have g2 := cf W2 _ r2
      have g3 := cf W3 _ S3
      unfold u8v at hW1 hW3
      have HY := Lib.hid (And.intro hYd (And.intro hW1 (And.intro hW2 hW3)))
      have HF := Lib.hid hfn
      have hak : IntKind.i64.wrap ((a : Int) + (k : Int)) = (a : Int) + (k : Int) := by rw [IntKind.wrap_i64]; have := HL.out; omega
      have HQ := Lib.hid (show q = n * 64 + ((a : Int) + (k : Int)).toNat by omega)
      have hakI : (a : Int) + (k : Int) < 64 ∧ 0 ≤ (a : Int) + (k : Int) := by have := HL.out; omega
      clear hYd hW1 hW2 hW3 r0 S1 r2 S3 hfin hfn cf cn ck hc5 hx hb5 rd hx5 hrd h1 hbD hk64 hq
      go_upto_region 6 with fail
      refine reg_begin (fun W => (W.cell? ⟨D.g, 0, none⟩ = some (.slice (some ⟨D.n, 0, none⟩) p D.cn) ∧ W.cell? ⟨D.g, 1, none⟩ = some (.slice (some ⟨D.k, 0, none⟩) p D.ck)) ∧ W.cell? ⟨b5, o5 + k, none⟩ = some (.int .u8 (x.toNat : Int))) (fun _ => True) 15 15 #[false, false, false, false, false, false, false, false, false, false, false, false, false, false, false] (by kernel_rfl) (by kernel_rfl) (by kernel_rfl) ?_
      rw [← HY.out.1]
      refine reg_take 0 42 14 #[true, false, false, false, false, false, false, false, false, false, false, false, false, false, false] (by rfl) (v := ?_) rfl rfl (by kernel_rfl) (by kernel_rfl) (by kernel_rfl) (by kernel_rfl) (fun _ _ _ h => h) (by rfl) ?_ (Till.mk' g0 trivial) ?_
      rotate_left
      · rintro W ⟨⟨hS1, hS2⟩, hS3⟩; go_simp; all_goals with_reducible rfl
      try simp only [List.setIfInBounds_toArray, List.set_cons_succ, List.set_cons_zero]
      refine reg_take 1 43 13 #[true, true, false, false, false, false, false, false, false, false, false, false, false, false, false] (by rfl) (v := ?_) rfl rfl (by kernel_rfl) (by kernel_rfl) (by kernel_rfl) (by kernel_rfl) (fun _ _ _ h => h) (by rfl) ?_ (Till.mk' g0 trivial) ?_
      rotate_left
      · rintro W ⟨⟨hS1, hS2⟩, hS3⟩; go_simp; all_goals with_reducible rfl
      try simp only [List.setIfInBounds_toArray, List.set_cons_succ, List.set_cons_zero]
      refine reg_take 2 44 12 #[true, true, true, false, false, false, false, false, false, false, false, false, false, false, false] (by rfl) (v := ?_) rfl rfl (by kernel_rfl) (by kernel_rfl) (by kernel_rfl) (by kernel_rfl) (fun _ _ _ h => h) (by rfl) ?_ (Till.mk' g0 trivial) ?_
      rotate_left
      · rintro W ⟨⟨hS1, hS2⟩, hS3⟩; go_simp; all_goals with_reducible rfl
      try simp only [List.setIfInBounds_toArray, List.set_cons_succ, List.set_cons_zero]
      refine reg_take 3 45 11 #[true, true, true, true, false, false, false, false, false, false, false, false, false, false, false] (by rfl) (v := ?_) rfl rfl (by kernel_rfl) (by kernel_rfl) (by kernel_rfl) (by kernel_rfl) (fun _ _ _ h => h) (by rfl) ?_ (Till.mk' g0 trivial) ?_
      rotate_left
      · rintro W ⟨⟨hS1, hS2⟩, hS3⟩; go_simp; all_goals with_reducible rfl
      try simp only [List.setIfInBounds_toArray, List.set_cons_succ, List.set_cons_zero]
      refine reg_take 4 46 10 #[true, true, true, true, true, false, false, false, false, false, false, false, false, false, false] (by rfl) (v := ?_) rfl rfl (by kernel_rfl) (by kernel_rfl) (by kernel_rfl) (by kernel_rfl) (fun _ _ _ h => h) (by rfl) ?_ (Till.mk' g0 trivial) ?_
      rotate_left
      · rintro W ⟨⟨hS1, hS2⟩, hS3⟩; go_simp; all_goals with_reducible rfl
      try simp only [List.setIfInBounds_toArray, List.set_cons_succ, List.set_cons_zero]
      refine reg_take 5 47 9 #[true, true, true, true, true, true, false, false, false, false, false, false, false, false, false] (by rfl) (v := ?_) rfl rfl (by kernel_rfl) (by kernel_rfl) (by kernel_rfl) (by kernel_rfl) (fun _ _ _ h => h) (by rfl) ?_ (Till.mk' g0 trivial) ?_
      rotate_left
      · rintro W ⟨⟨hS1, hS2⟩, hS3⟩; go_simp; all_goals with_reducible rfl
      try simp only [List.setIfInBounds_toArray, List.set_cons_succ, List.set_cons_zero]
      refine reg_take 6 48 8 #[true, true, true, true, true, true, true, false, false, false, false, false, false, false, false] (by rfl) (v := ?_) rfl rfl (by kernel_rfl) (by kernel_rfl) (by kernel_rfl) (by kernel_rfl) (fun _ _ _ h => h) (by rfl) ?_ (Till.mk' g0 trivial) ?_
      rotate_left
      · rintro W ⟨⟨hS1, hS2⟩, hS3⟩; go_simp; all_goals with_reducible rfl
      try simp only [List.setIfInBounds_toArray, List.set_cons_succ, List.set_cons_zero]
      refine reg_take 7 49 7 #[true, true, true, true, true, true, true, true, false, false, false, false, false, false, false] (by rfl) (v := ?_) rfl rfl (by kernel_rfl) (by kernel_rfl) (by kernel_rfl) (by kernel_rfl) (fun _ _ _ h => h) (by rfl) ?_ (Till.mk' g0 trivial) ?_
      rotate_left
      · rintro W ⟨⟨hS1, hS2⟩, hS3⟩; go_simp; all_goals with_reducible rfl
      try simp only [List.setIfInBounds_toArray, List.set_cons_succ, List.set_cons_zero]
      refine reg_take 8 50 6 #[true, true, true, true, true, true, true, true, true, false, false, false, false, false, false] (by rfl) (v := ?_) rfl rfl (by kernel_rfl) (by kernel_rfl) (by kernel_rfl) (by kernel_rfl) (fun _ _ _ h => h) (by rfl) ?_ (Till.mk' g0 trivial) ?_
      rotate_left
      · rintro W ⟨⟨hS1, hS2⟩, hS3⟩; go_simp; all_goals with_reducible rfl
      try simp only [List.setIfInBounds_toArray, List.set_cons_succ, List.set_cons_zero]
      refine reg_take 9 51 5 #[true, true, true, true, true, true, true, true, true, true, false, false, false, false, false] (by rfl) (v := ?_) rfl rfl (by kernel_rfl) (by kernel_rfl) (by kernel_rfl) (by kernel_rfl) (fun _ _ _ h => h) (by rfl) ?_ (Till.mk' g0 trivial) ?_
      rotate_left
      · rintro W ⟨⟨hS1, hS2⟩, hS3⟩; go_simp; all_goals with_reducible rfl
      try simp only [List.setIfInBounds_toArray, List.set_cons_succ, List.set_cons_zero]
      refine reg_take 10 52 4 #[true, true, true, true, true, true, true, true, true, true, true, false, false, false, false] (by rfl) (v := ?_) rfl rfl (by kernel_rfl) (by kernel_rfl) (by kernel_rfl) (by kernel_rfl) (fun _ _ _ h => h) (by rfl) ?_ (Till.mk' g0 trivial) ?_
      rotate_left
      · rintro W ⟨⟨hS1, hS2⟩, hS3⟩; go_simp; all_goals with_reducible rfl
      try simp only [List.setIfInBounds_toArray, List.set_cons_succ, List.set_cons_zero]
      refine reg_take 11 53 3 #[true, true, true, true, true, true, true, true, true, true, true, true, false, false, false] (by rfl) (v := ?_) rfl rfl (by kernel_rfl) (by kernel_rfl) (by kernel_rfl) (by kernel_rfl) (fun _ _ _ h => h) (by rfl) ?_ (Till.mk' g0 trivial) ?_
      rotate_left
      · rintro W ⟨⟨hS1, hS2⟩, hS3⟩; go_simp; all_goals with_reducible rfl
      try simp only [List.setIfInBounds_toArray, List.set_cons_succ, List.set_cons_zero]
      refine reg_take 12 54 2 #[true, true, true, true, true, true, true, true, true, true, true, true, true, false, false] (by rfl) (v := ?_) rfl rfl (by kernel_rfl) (by kernel_rfl) (by kernel_rfl) (by kernel_rfl) (fun _ _ _ h => h) (by rfl) ?_ (Till.mk' g0 trivial) ?_
      rotate_left
      · rintro W ⟨⟨hS1, hS2⟩, hS3⟩; go_simp; all_goals with_reducible rfl
      try simp only [List.setIfInBounds_toArray, List.set_cons_succ, List.set_cons_zero]
      refine reg_take 13 55 1 #[true, true, true, true, true, true, true, true, true, true, true, true, true, true, false] (by rfl) (v := ?_) rfl rfl (by kernel_rfl) (by kernel_rfl) (by kernel_rfl) (by kernel_rfl) (fun _ _ _ h => h) (by rfl) ?_ (Till.mk' g0 trivial) ?_
      rotate_left
      · rintro W ⟨⟨hS1, hS2⟩, hS3⟩; go_simp; all_goals with_reducible rfl
      try simp only [List.setIfInBounds_toArray, List.set_cons_succ, List.set_cons_zero]
      refine reg_one 14 0 #[true, true, true, true, true, true, true, true, true, true, true, true, true, true, true] (by kernel_rfl) rfl (by rfl) (by kernel_rfl) (fun K hK => ?_)
      rw [← HQ.out]
      go_simp
      rw [← HY.out.2.1]
      refine hK _ _ (Till.mk' g1 trivial) ?_
      clear hK K
      try simp only [List.setIfInBounds_toArray, List.set_cons_succ, List.set_cons_zero]
      refine reg_done (by kernel_rfl) ?_ _
      go_upto_region 7 with fail
      refine reg_begin (fun W => (W.cell? ⟨D.g, 0, none⟩ = some (.slice (some ⟨D.n, 0, none⟩) p D.cn) ∧ W.cell? ⟨D.g, 1, none⟩ = some (.slice (some ⟨D.k, 0, none⟩) p D.ck)) ∧ W.cell? ⟨b5, o5 + k, none⟩ = some (.int .u8 (x.toNat : Int))) (fun _ => True) 15 15 #[false, false, false, false, false, false, false, false, false, false, false, false, false, false, false] (by kernel_rfl) (by kernel_rfl) (by kernel_rfl) ?_
      rw [← HY.out.2.2.1]
      refine reg_take 0 56 14 #[true, false, false, false, false, false, false, false, false, false, false, false, false, false, false] (by rfl) (v := ?_) rfl rfl (by kernel_rfl) (by kernel_rfl) (by kernel_rfl) (by kernel_rfl) (fun _ _ _ h => h) (by rfl) ?_ (Till.mk' g2 trivial) ?_
      rotate_left
      · rintro W ⟨⟨hS1, hS2⟩, hS3⟩; go_simp; all_goals with_reducible rfl
      try simp only [List.setIfInBounds_toArray, List.set_cons_succ, List.set_cons_zero]
      refine reg_take 1 57 13 #[true, true, false, false, false, false, false, false, false, false, false, false, false, false, false] (by rfl) (v := ?_) rfl rfl (by kernel_rfl) (by kernel_rfl) (by kernel_rfl) (by kernel_rfl) (fun _ _ _ h => h) (by rfl) ?_ (Till.mk' g2 trivial) ?_
      rotate_left
      · rintro W ⟨⟨hS1, hS2⟩, hS3⟩; go_simp; all_goals with_reducible rfl
      try simp only [List.setIfInBounds_toArray, List.set_cons_succ, List.set_cons_zero]
      refine reg_take 2 58 12 #[true, true, true, false, false, false, false, false, false, false, false, false, false, false, false] (by rfl) (v := ?_) rfl rfl (by kernel_rfl) (by kernel_rfl) (by kernel_rfl) (by kernel_rfl) (fun _ _ _ h => h) (by rfl) ?_ (Till.mk' g2 trivial) ?_
      rotate_left
      · rintro W ⟨⟨hS1, hS2⟩, hS3⟩; go_simp; all_goals with_reducible rfl
      try simp only [List.setIfInBounds_toArray, List.set_cons_succ, List.set_cons_zero]
      refine reg_take 3 59 11 #[true, true, true, true, false, false, false, false, false, false, false, false, false, false, false] (by rfl) (v := ?_) rfl rfl (by kernel_rfl) (by kernel_rfl) (by kernel_rfl) (by kernel_rfl) (fun _ _ _ h => h) (by rfl) ?_ (Till.mk' g2 trivial) ?_
      rotate_left
      · rintro W ⟨⟨hS1, hS2⟩, hS3⟩; go_simp; all_goals with_reducible rfl
      try simp only [List.setIfInBounds_toArray, List.set_cons_succ, List.set_cons_zero]
      refine reg_take 4 60 10 #[true, true, true, true, true, false, false, false, false, false, false, false, false, false, false] (by rfl) (v := ?_) rfl rfl (by kernel_rfl) (by kernel_rfl) (by kernel_rfl) (by kernel_rfl) (fun _ _ _ h => h) (by rfl) ?_ (Till.mk' g2 trivial) ?_
      rotate_left
      · rintro W ⟨⟨hS1, hS2⟩, hS3⟩; go_simp; all_goals with_reducible rfl
      try simp only [List.setIfInBounds_toArray, List.set_cons_succ, List.set_cons_zero]
      refine reg_take 5 61 9 #[true, true, true, true, true, true, false, false, false, false, false, false, false, false, false] (by rfl) (v := ?_) rfl rfl (by kernel_rfl) (by kernel_rfl) (by kernel_rfl) (by kernel_rfl) (fun _ _ _ h => h) (by rfl) ?_ (Till.mk' g2 trivial) ?_
      rotate_left
      · rintro W ⟨⟨hS1, hS2⟩, hS3⟩; go_simp; all_goals with_reducible rfl
      try simp only [List.setIfInBounds_toArray, List.set_cons_succ, List.set_cons_zero]
      refine reg_take 6 62 8 #[true, true, true, true, true, true, true, false, false, false, false, false, false, false, false] (by rfl) (v := ?_) rfl rfl (by kernel_rfl) (by kernel_rfl) (by kernel_rfl) (by kernel_rfl) (fun _ _ _ h => h) (by rfl) ?_ (Till.mk' g2 trivial) ?_
      rotate_left
      · rintro W ⟨⟨hS1, hS2⟩, hS3⟩; go_simp; all_goals with_reducible rfl
      try simp only [List.setIfInBounds_toArray, List.set_cons_succ, List.set_cons_zero]
      refine reg_take 7 63 7 #[true, true, true, true, true, true, true, true, false, false, false, false, false, false, false] (by rfl) (v := ?_) rfl rfl (by kernel_rfl) (by kernel_rfl) (by kernel_rfl) (by kernel_rfl) (fun _ _ _ h => h) (by rfl) ?_ (Till.mk' g2 trivial) ?_
      rotate_left
      · rintro W ⟨⟨hS1, hS2⟩, hS3⟩; go_simp; all_goals with_reducible rfl
      try simp only [List.setIfInBounds_toArray, List.set_cons_succ, List.set_cons_zero]
      refine reg_take 8 64 6 #[true, true, true, true, true, true, true, true, true, false, false, false, false, false, false] (by rfl) (v := ?_) rfl rfl (by kernel_rfl) (by kernel_rfl) (by kernel_rfl) (by kernel_rfl) (fun _ _ _ h => h) (by rfl) ?_ (Till.mk' g2 trivial) ?_
      rotate_left
      · rintro W ⟨⟨hS1, hS2⟩, hS3⟩; go_simp; all_goals with_reducible rfl
      try simp only [List.setIfInBounds_toArray, List.set_cons_succ, List.set_cons_zero]
      refine reg_take 9 65 5 #[true, true, true, true, true, true, true, true, true, true, false, false, false, false, false] (by rfl) (v := ?_) rfl rfl (by kernel_rfl) (by kernel_rfl) (by kernel_rfl) (by kernel_rfl) (fun _ _ _ h => h) (by rfl) ?_ (Till.mk' g2 trivial) ?_
      rotate_left
      · rintro W ⟨⟨hS1, hS2⟩, hS3⟩; go_simp; all_goals with_reducible rfl
      try simp only [List.setIfInBounds_toArray, List.set_cons_succ, List.set_cons_zero]
      refine reg_take 10 66 4 #[true, true, true, true, true, true, true, true, true, true, true, false, false, false, false] (by rfl) (v := ?_) rfl rfl (by kernel_rfl) (by kernel_rfl) (by kernel_rfl) (by kernel_rfl) (fun _ _ _ h => h) (by rfl) ?_ (Till.mk' g2 trivial) ?_
      rotate_left
      · rintro W ⟨⟨hS1, hS2⟩, hS3⟩; go_simp; all_goals with_reducible rfl
      try simp only [List.setIfInBounds_toArray, List.set_cons_succ, List.set_cons_zero]
      refine reg_take 11 67 3 #[true, true, true, true, true, true, true, true, true, true, true, true, false, false, false] (by rfl) (v := ?_) rfl rfl (by kernel_rfl) (by kernel_rfl) (by kernel_rfl) (by kernel_rfl) (fun _ _ _ h => h) (by rfl) ?_ (Till.mk' g2 trivial) ?_
      rotate_left
      · rintro W ⟨⟨hS1, hS2⟩, hS3⟩; go_simp; all_goals with_reducible rfl
      try simp only [List.setIfInBounds_toArray, List.set_cons_succ, List.set_cons_zero]
      refine reg_take 12 68 2 #[true, true, true, true, true, true, true, true, true, true, true, true, true, false, false] (by rfl) (v := ?_) rfl rfl (by kernel_rfl) (by kernel_rfl) (by kernel_rfl) (by kernel_rfl) (fun _ _ _ h => h) (by rfl) ?_ (Till.mk' g2 trivial) ?_
      rotate_left
      · rintro W ⟨⟨hS1, hS2⟩, hS3⟩; go_simp; all_goals with_reducible rfl
      try simp only [List.setIfInBounds_toArray, List.set_cons_succ, List.set_cons_zero]
      refine reg_take 13 69 1 #[true, true, true, true, true, true, true, true, true, true, true, true, true, true, false] (by rfl) (v := ?_) rfl rfl (by kernel_rfl) (by kernel_rfl) (by kernel_rfl) (by kernel_rfl) (fun _ _ _ h => h) (by rfl) ?_ (Till.mk' g2 trivial) ?_
      rotate_left
      · rintro W ⟨⟨hS1, hS2⟩, hS3⟩; go_simp; all_goals with_reducible rfl
      try simp only [List.setIfInBounds_toArray, List.set_cons_succ, List.set_cons_zero]
      refine reg_one 14 0 #[true, true, true, true, true, true, true, true, true, true, true, true, true, true, true] (by kernel_rfl) rfl (by rfl) (by kernel_rfl) (fun K hK => ?_)
      rw [← HQ.out]
      go_simp
      rw [← HY.out.2.2.2]
      refine hK _ _ (Till.mk' g3 trivial) ?_
      clear hK K
      try simp only [List.setIfInBounds_toArray, List.set_cons_succ, List.set_cons_zero]
      refine reg_done (by kernel_rfl) ?_ _
      go_wp2_with fail
      go_roundw
      case rel => exact ⟨k + 1, by omega, by go_num, HF.out⟩
      case measure => (simp [intOf] <;> omega)
    · obtain rfl : k = bs.length := by omega
      rw [List.take_length] at rd
      have HF := Lib.hid rd
      clear rd
      go_wp2_with fail
      go_ret
      exact ⟨rfl, HF.out⟩
set_option maxHeartbeats 4000000 in
theorem RTamper_no (w : World) (B : Nat) (D : RL) (p l : Nat) (n a : Int) (A : Option Addr) (c : Nat) (st : DS) (h : RIs w B D p st) (hl : l ≤ 9223372036854775807) (hno : ¬ tamperOk p n a l) :
    Calls Try.prog 54 #[.pointer (some ⟨D.g, 0, none⟩), .int .i64 n, .int .i64 a, .slice A l c] w fun e w' => e = .returned (.bool false) ∧ w = w' := by
  have c0 := h.head.cell 0
  simp only [RL.head, List.getElem?_cons_zero] at c0
  have hp := h.pages
  unfold tamperOk at hno
  clear h
  have hc : n < 0 ∨ (¬ n < 0 ∧ (p : Int) ≤ n) ∨ (¬ n < 0 ∧ n < p ∧ a < 0) ∨ (¬ n < 0 ∧ n < p ∧ ¬ a < 0 ∧ 64 < a) ∨ (¬ n < 0 ∧ n < p ∧ ¬ a < 0 ∧ a ≤ 64 ∧ 64 - a < (l : Int)) := by omega
  clear hno
  rcases hc with h1 | ⟨h1, h2⟩ | ⟨h1, h2, h3⟩ | ⟨h1, h2, h3, h4⟩ | ⟨h1, h2, h3, h4, h5⟩
  all_goals
    go_enter Try.func54, Try.ntmps54
    go_wp2_with fail
    go_ret
    exact ⟨rfl, rfl⟩
end Go.Proofs.Ytdhbaepmbgoobaa
