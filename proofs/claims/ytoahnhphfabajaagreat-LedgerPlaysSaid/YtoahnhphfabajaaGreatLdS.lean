/- What a ledger keeps, whatever is done; rows that grow; numbers within a bound. -/
import Derived.Test.YtoahnhphfabajaaGreatNdk
namespace Go.Proofs.YtoahnhphfabajaaGreat
open Go.RowKit
set_option linter.unusedVariables false
set_option maxRecDepth 10000
set_option linter.unusedSimpArgs false
set_option linter.unnecessarySimpa false

/-- One element more, the row still one's own: the elements lie in blocks that were there. -/
theorem DeepO.push' {α : Type} {R : World → (Nat → Prop) → List Value → α → Prop} {w : World} {S : Nat → Prop} {size base : Nat} {e : TypeId} {v : Value} {l : List α} (hR : Lasts R) {t : TypeId} {z : Value} {bytes : Nat} (T : SliceTy Tryz.prog t e z size bytes) (h : DeepO R w S size base e v l) {cs : List Value} {x : α} (hx : R w S cs x) (hcs : cs.length = size) (h1 : ∀ u ∈ cs, u.oneCell' = true)
    (hb : base ≤ w.heap.size) (hl : l.length ≤ 100000) (hown : ∀ k, v.ownBlock = some k → ¬ S k) (ty : TypeId) (hbs : bytes ≤ 100 ∧ size ≤ 100) :
    ∃ A' c' w', (Builtin.append_ #[t, t] ty #[v, .slice (some ⟨w.heap.size, 0, none⟩) 1 1]).run Tryz.prog (w.alloc (.cells cs.toArray e)) = .ok (.slice A' (l.length + 1) c') w' ∧
      DeepO R w' S size base e (.slice A' (l.length + 1) c') (l ++ [x]) ∧ Turns v.ownBlock.toList w w' ∧ (∀ k, (Value.slice A' (l.length + 1) c').ownBlock = some k → v.ownBlock = some k ∨ w.heap.size ≤ k) := by
  obtain ⟨css, g1, g2, g3, g4⟩ := h
  have ho := g4.alloc (.cells cs.toArray e)
  obtain ⟨v', w', hr, ap⟩ := run_append_rd (P := Tryz.prog) _ T ty ho (Sl.new w cs.toArray e 1 size (by simp [hcs]) (by simp [maxLen])) (by simpa using h1) (by simp only [maxLen]; omega) (by have := Nat.mul_le_mul (show l.length + 1 ≤ 100001 by omega) hbs.1; omega) (by simp; omega)
  have t2 : Turns v.ownBlock.toList w w' := Turns.trans (L' := v.ownBlock.toList) ((Turns.refl _ w).alloc _) (Turns.of_grown ap.grown (by intro k hk; exact .inl (by simpa using hk))) (fun k hk => .inl hk)
  have hlen : css.flatten ++ cs = (css ++ [cs]).flatten := by simp
  have hown' := ap.own
  rw [show cs.toArray.toList = cs by simp, hlen] at hown'
  obtain ⟨A', c', rfl⟩ := own_formV hown'
  have kp : Keeps S w w' := t2.keepsB S (fun k hk _ => hown k (by simpa using hk))
  refine ⟨A', c', w', hr, ⟨css ++ [cs], by simp [g1], fun c hc => ?_, fun i hi hi' => ?_, by simpa using hown'⟩, t2, fun k hk => ?_⟩
  · rcases List.mem_append.1 hc with hc | hc
    · exact g2 c hc
    · simp at hc; subst hc; exact hcs
  · by_cases hil : i < l.length
    · have e1 : (css ++ [cs])[i] = css[i]'(by omega) := List.getElem_append_left (by omega)
      have e2 : (l ++ [x])[i] = l[i] := List.getElem_append_left hil
      rw [e1, e2]
      exact hR.keep (g3 i hil (by omega)) kp
    · obtain rfl : i = l.length := by simp at hi; omega
      have e1 : (css ++ [cs])[l.length]'hi' = cs := by rw [List.getElem_append_right (by omega)]; simp [g1]
      have e2 : (l ++ [x])[l.length]'hi = x := by simp
      rw [e1, e2]
      exact hR.keep hx kp
  · rcases ap.lies with h | ⟨g, hg, hge⟩
    · exact .inl (by rw [← h]; exact hk)
    · rw [hg] at hk
      injection hk with hk
      subst hk
      simp at hge
      exact .inr (by omega)
theorem DeepO.nil {α : Type} {R : World → (Nat → Prop) → List Value → α → Prop} {w : World} {S : Nat → Prop} {size base : Nat} {e : TypeId} : DeepO R w S size base e (.slice none 0 0) [] :=
  ⟨[], rfl, by simp, fun i h _ => by simp at h, World.ownsRow_nil _ _ _ _⟩

theorem below_of' {w w' : World} (t : Turns [] w w') : Below w.heap.size w w' := t.below (Nat.le_refl _) (by simp)
theorem within14_any (a n : Int) (w : World) (h1 : -9223372036854775808 ≤ a) (h2 : a ≤ 9223372036854775807) (hn : 0 < n) (hn2 : n ≤ 1000000) :
    Calls Tryz.prog 9 #[.int .i64 a, .int .i64 n] w fun e w' => e = .returned (.int .i64 (a % n)) ∧ w = w' := by
  have hne : (n == 0) = false := by simp; omega
  have t1 := (tmod_bounds a n hn).1
  have t2 := (tmod_bounds a n hn).2
  have hv := within_val a n hn
  by_cases ha : 0 ≤ a
  · have e0 : a.tmod n = a % n := Int.tmod_eq_emod_of_nonneg ha
    have e1 := Int.emod_nonneg a (show n ≠ 0 by omega)
    clear hv
    rw [e0] at t1 t2
    clear e0
    go_enter Tryz.func9, Tryz.ntmps9
    go_wp2_with fail
    go_ret
    exact ⟨rfl, rfl⟩
  · rw [hv]
    clear hv
    by_cases hneg : a.tmod n < 0
    · rw [if_pos hneg]
      go_enter Tryz.func9, Tryz.ntmps9
      go_wp2_with fail
      go_ret
      exact ⟨rfl, rfl⟩
    · rw [if_neg hneg]
      go_enter Tryz.func9, Tryz.ntmps9
      go_wp2_with fail
      go_ret
      exact ⟨rfl, rfl⟩

/-- What each ledger that was made by adding and closing is. -/
structure Inv (L : Led) : Prop where
  ok : L.ok
  o3 : L.opn.length ≤ 3
  bt : L.blks.length = L.txs.length
  ln : ((L.txs.flatten.length + L.opn.length : Nat) : Int) = L.next
  id : ∀ i (h : i < (L.txs.flatten ++ L.opn).length), (L.txs.flatten ++ L.opn)[i].id = (i : Int)
  ne : ∀ l ∈ L.txs, 1 ≤ l.length ∧ l.length ≤ 4
  ch : ∀ i (h : i < L.blks.length) (h' : i < L.txs.length), L.blks[i] = newBlo (L.blks.take i) L.txs[i]
theorem flat_ge : ∀ (l : List (List Txn)), (∀ x ∈ l, 1 ≤ x.length) → l.length ≤ l.flatten.length
  | [], _ => by simp
  | a :: l, h => by
    have h1 := h a (by simp)
    have h2 := flat_ge l (fun x hx => h x (by simp [hx]))
    rw [List.flatten_cons, List.length_append, List.length_cons]; omega
theorem Inv.few {L : Led} (h : Inv L) : ((L.txs.length : Nat) : Int) ≤ L.next := by
  have := flat_ge L.txs (fun x hx => (h.ne x hx).1)
  have := h.ln
  omega
theorem inv0 : Inv led0 := ⟨led0_ok, by simp [led0], rfl, rfl, fun i h => by simp [led0] at h, fun l h => by simp [led0] at h, fun i h => by simp [led0] at h⟩
/-- A ledger as Inv says, but for how many are open. -/
structure InvO (L : Led) (d : Nat) : Prop where
  ok : L.ok
  o3 : L.opn.length ≤ d
  bt : L.blks.length = L.txs.length
  ln : ((L.txs.flatten.length + L.opn.length : Nat) : Int) = L.next
  id : ∀ i (h : i < (L.txs.flatten ++ L.opn).length), (L.txs.flatten ++ L.opn)[i].id = (i : Int)
  ne : ∀ l ∈ L.txs, 1 ≤ l.length ∧ l.length ≤ 4
  ch : ∀ i (h : i < L.blks.length) (h' : i < L.txs.length), L.blks[i] = newBlo (L.blks.take i) L.txs[i]
theorem InvO.close {L : Led} (h : InvO L 4) (h0 : 0 < L.opn.length) (hn : L.next ≤ 9999) : Inv (closeL L) := by
  have hf : L.txs.length ≤ L.txs.flatten.length := flat_ge L.txs (fun x hx => (h.ne x hx).1)
  have hln := h.ln
  have hbt := h.bt
  have e : (closeL L).txs.flatten ++ (closeL L).opn = L.txs.flatten ++ L.opn := by simp [closeL]
  refine ⟨closeL_ok h.ok (by omega), by simp [closeL], by simp [closeL, hbt], ?_, ?_, ?_, ?_⟩
  · show (((closeL L).txs.flatten.length + (closeL L).opn.length : Nat) : Int) = L.next
    rw [← List.length_append, e, List.length_append]; exact h.ln
  · intro i hi
    have := h.id i (by rw [← e]; exact hi)
    simp only [e]
    exact this
  · intro l hl
    rcases List.mem_append.1 hl with hl | hl
    · exact h.ne l hl
    · simp at hl; subst hl; exact ⟨h0, h.o3⟩
  · intro i hi hi'
    have hib : i < L.blks.length + 1 := by simpa [closeL] using hi
    by_cases hlt : i < L.blks.length
    · have e1 : (closeL L).blks[i] = L.blks[i] := List.getElem_append_left hlt
      have e2 : (closeL L).txs[i] = L.txs[i]'(by omega) := List.getElem_append_left (by omega)
      have e3 : (closeL L).blks.take i = L.blks.take i := List.take_append_of_le_length (by omega)
      rw [e1, e2, e3]
      exact h.ch i hlt (by omega)
    · obtain rfl : i = L.blks.length := by omega
      have e1 : (closeL L).blks[L.blks.length]'hi = newBlo L.blks L.opn := by simp [closeL]
      have e2 : (closeL L).txs[L.blks.length]'hi' = L.opn := by simp [closeL, hbt]
      have e3 : (closeL L).blks.take L.blks.length = L.blks := by simp [closeL]
      rw [e1, e2, e3]
theorem Inv.o {L : Led} (h : Inv L) (d : Nat) (hd : 3 ≤ d) : InvO L d := ⟨h.ok, by have := h.o3; omega, h.bt, h.ln, h.id, h.ne, h.ch⟩
theorem Inv.close {L : Led} (h : Inv L) (h0 : 0 < L.opn.length) (hn : L.next ≤ 9999) : Inv (closeL L) := (h.o 4 (by omega)).close h0 hn
theorem Inv.push {L : Led} (h : Inv L) {c : List Chg} (hc : c.length ≤ 1000 ∧ ∀ x ∈ c, x.ok) (hn : L.next ≤ 9998) : InvO (pushL L c) (L.opn.length + 1) := by
  have e : (pushL L c).txs.flatten ++ (pushL L c).opn = (L.txs.flatten ++ L.opn) ++ [⟨L.next, c⟩] := by simp [pushL]
  have hln := h.ln
  refine ⟨pushL_ok h.ok hc (by omega) (by have := h.o3; omega), by simp [pushL], h.bt, ?_, ?_, h.ne, h.ch⟩
  · show (((pushL L c).txs.flatten.length + (pushL L c).opn.length : Nat) : Int) = L.next + 1
    rw [← List.length_append, e, List.length_append, List.length_append, ← hln]
    simp
  · intro i hi
    simp only [e]
    by_cases hlt : i < (L.txs.flatten ++ L.opn).length
    · rw [List.getElem_append_left hlt]
      exact h.id i hlt
    · have hi2 : i < (L.txs.flatten ++ L.opn ++ [(⟨L.next, c⟩ : Txn)]).length := by rw [← e]; exact hi
      obtain rfl : i = (L.txs.flatten ++ L.opn).length := by simp at hi2 hlt ⊢; omega
      rw [List.getElem_append_right (Nat.le_refl _)]
      simp only [Nat.sub_self, List.getElem_cons_zero, List.length_append]
      rw [← hln]
theorem Inv.add {L : Led} (h : Inv L) {c : List Chg} (hc : c.length ≤ 1000 ∧ ∀ x ∈ c, x.ok) (hn : L.next ≤ 9998) : Inv (addLed L c) := by
  have hp := h.push hc hn
  have h3 := h.o3
  unfold addLed
  split
  · rename_i h4
    exact InvO.close ⟨hp.ok, by have := hp.o3; omega, hp.bt, hp.ln, hp.id, hp.ne, hp.ch⟩ (by omega) (by show L.next + 1 ≤ 9999; omega)
  · rename_i h4
    exact ⟨hp.ok, by omega, hp.bt, hp.ln, hp.id, hp.ne, hp.ch⟩
theorem addLed_next (L : Led) (c : List Chg) : (addLed L c).next = L.next + 1 := by unfold addLed; split <;> rfl
theorem Inv.room {L : Led} (h : Inv L) (hn : L.next ≤ 9998) : L.next < 100000 ∧ L.opn.length < 1000 ∧ L.blks.length < 100000 ∧ L.txs.length < 100000 := by
  have h1 := h.few
  have h2 := h.bt
  have h3 := h.o3
  omega
end Go.Proofs.YtoahnhphfabajaaGreat
