/- Regions that draw their order: one order is enough. The condition on the world is in two parts: what holds throughout (S), what holds till operation number k has come up (T). -/
import Derived.Test.YtdhbaepmbgoobaaBase
import Derived.OrdersHeld
import Derived.RegionTactic
namespace Go.Proofs.Ytdhbaepmbgoobaa
open Go.RowKit
set_option linter.unusedVariables false
set_option maxRecDepth 10000

section
variable {P : Program} {ops : Array Oper} {Q : Exit → Act → World → Prop} {md : Region.Mode} {S T : World → Prop} {k : Nat}

/-- Both parts, as far as they must hold. -/
def Till (S T : World → Prop) (k : Nat) (l : Array Bool) (w : World) : Prop := S w ∧ (l.getD k true = false → T w)

/-- Whatever order is picked from here on; behind each operation the condition holds. -/
def wpAnyL (P : Program) (md : Region.Mode) (ops : Array Oper) (Q : Exit → Act → World → Prop) (S T : World → Prop) (k : Nat) : Nat → Array Bool → Act → World → Prop
  | 0, listed, a, w => Region.ready md ops listed = [] ∧ Q .normal a w
  | fuel + 1, listed, a, w =>
    (Region.ready md ops listed = [] → Q .normal a w) ∧
    ∀ i ∈ Region.ready md ops listed, wpOp P ops Q i (fun a' w' => Till S T k (listed.setIfInBounds i true) w' ∧ wpAnyL P md ops Q S T k fuel (listed.setIfInBounds i true) a' w') a w

theorem wpAny_of_L : ∀ (fuel : Nat) (listed : Array Bool) (a : Act) (w : World), wpAnyL P md ops Q S T k fuel listed a w → wpAny P md ops Q fuel listed a w
  | 0, _, _, _, h => h
  | fuel + 1, _, _, _, h => ⟨h.1, fun i hi => wpOp_mono (fun a' w' h' => wpAny_of_L fuel _ a' w' h'.2) (h.2 i hi)⟩

theorem Till.unset {l : Array Bool} {w : World} {i : Nat} (h : i ≠ k) : Till S T k (l.setIfInBounds i true) w ↔ Till S T k l w := by
  unfold Till; rw [getD_set_ne true h]

/-- An operation that yields the same wherever S holds and k has not come up; k waits for it. -/
theorem reg_first {i : Nat} {oi : Oper} {v : Value} (hik : i ≠ k) (hi : ops[i]? = some oi) (hsel : ∀ (j : Nat) (o : Oper) cs b, ops[j]? = some o → o.op ≠ .select cs b)
    (hQ : ∀ c a w, Q (.panic c) (a.put oi.dst v) w → Q (.panic c) a w) {S0 : World → Prop}
    (hS0 : (∀ w, S w → S0 w) ∨ ((∀ w, S w → T w → S0 w) ∧ ∀ ok, ops[k]? = some ok → ∃ e ∈ ok.after, Region.binds md e = true ∧ e.on = i)) :
    ∀ (fuel : Nat) (listed : Array Bool) (a : Act) (w : World),
      (∀ j oj, ops[j]? = some oj → j ≠ i → listed.getD j true = false → (∀ e ∈ oj.after, Region.binds md e = true → e.on ≠ i) → oi.apart ops oj = true) →
      ((∀ w, S w → S0 w) ∨ listed.getD k true = false) →
      i ∈ Region.ready md ops listed → YieldsIf P ops S0 oi v a → Till S T k listed w →
      wpAnyL P md ops Q S T k fuel (listed.setIfInBounds i true) (a.put oi.dst v) w → wpAnyL P md ops Q S T k (fuel + 1) listed a w := by
  intro fuel
  have get : ∀ (l : Array Bool) (w : World), ((∀ w, S w → S0 w) ∨ l.getD k true = false) → Till S T k l w → S0 w := by
    intro l w hl hT
    rcases hl with h | h
    · exact h _ hT.1
    · rcases hS0 with h' | h'
      · exact h' _ hT.1
      · exact h'.1 _ hT.1 (hT.2 h)
  induction fuel with
  | zero =>
    intro listed a w _ hk hr hy hS H
    refine ⟨fun h => (by rw [h] at hr; cases hr), fun j hj => ?_⟩
    by_cases hji : j = i
    · subst hji; exact hy.wpOp hi (get _ _ hk hS) ⟨(Till.unset hik).2 hS, H⟩
    · have := ready_mono hj hji
      rw [H.1] at this
      cases this
  | succ fuel ih =>
    intro listed a w hfree hk hr hy hS H
    refine ⟨fun h => (by rw [h] at hr; cases hr), fun j hj => ?_⟩
    by_cases hji : j = i
    · subst hji; exact hy.wpOp hi (get _ _ hk hS) ⟨(Till.unset hik).2 hS, H⟩
    · have h1 := H.2 j (ready_mono hj hji)
      obtain ⟨hjun, oj, hoj, hall⟩ := mem_ready.1 hj
      have hi0 := (mem_ready.1 hr).1
      have hnot : ∀ e ∈ oj.after, Region.binds md e = true → e.on ≠ i := fun e he hb heq => by
        have h1 := hall e he hb
        rw [heq] at h1
        rcases Nat.lt_or_ge i listed.size with h' | h'
        · simp [h'] at hi0 h1; rw [hi0] at h1; cases h1
        · simp [Array.getElem?_eq_none h'] at h1
      have h2 := wpOp_putIf hoj (hfree j oj hoj hji hjun hnot) (fun cs b => hsel i oi cs b hi) (fun cs b => hsel j oj cs b hoj) hQ hy h1
      have hfree' : ∀ k ok, ops[k]? = some ok → k ≠ i → (listed.setIfInBounds j true).getD k true = false →
          (∀ e ∈ ok.after, Region.binds md e = true → e.on ≠ i) → oi.apart ops ok = true := fun k ok hk hki hun hno => by
        refine hfree k ok hk hki ?_ hno
        by_cases hjk : j = k
        · subst hjk; exact hjun
        · rw [getD_set_ne true hjk] at hun; exact hun
      have hk' : (∀ w, S w → S0 w) ∨ (listed.setIfInBounds j true).getD k true = false := by
        rcases hk with h | h
        · exact .inl h
        · rcases hS0 with h' | h'
          · exact .inl h'
          · refine .inr ?_
            have hjk : j ≠ k := by
              intro e; subst e
              obtain ⟨e, he, hb, hon⟩ := h'.2 oj hoj
              exact hnot e he hb hon
            rw [getD_set_ne true hjk]; exact h
      refine wpOp_mono (fun a' w' h3 => ?_) h2
      obtain ⟨h3y, h3s, h3r⟩ := h3
      rw [Array.setIfInBounds_comm _ _ (Ne.symm hji)] at h3s h3r
      have h3s' := (Till.unset hik).1 h3s
      exact ⟨h3s', ih (listed.setIfInBounds j true) a' w' hfree' hk' (ready_mono hr (Ne.symm hji)) h3y h3s' h3r⟩

theorem wpAnyL_all {rs : List Nat} {fuel : Nat} {listed : Array Bool} {a : Act} {w : World} (hr : Region.ready md ops listed = rs) (hne : rs ≠ [])
    (h : ∀ i ∈ rs, wpOp P ops Q i (fun a' w' => Till S T k (listed.setIfInBounds i true) w' ∧ wpAnyL P md ops Q S T k fuel (listed.setIfInBounds i true) a' w') a w) : wpAnyL P md ops Q S T k (fuel + 1) listed a w :=
  ⟨fun h0 => absurd (hr ▸ h0) hne, hr ▸ h⟩

/-- All have come up. -/
theorem reg_done {listed : Array Bool} {a : Act} {w : World} (hr : Region.ready md ops listed = []) (h : Q .normal a w) : ∀ fuel, wpAnyL P md ops Q S T k fuel listed a w
  | 0 => ⟨hr, h⟩
  | _ + 1 => ⟨fun _ => h, by rw [hr]; simp⟩

/-- The beginning: how many operations there are, and that none has come up, written out. -/
theorem reg_begin (S T : World → Prop) (k n : Nat) (l : Array Bool) {id : Nat} {a : Act} {w : World} (hm : P.follows .mixedOrders = true)
    (hn : ops.size = n) (hl : Array.replicate n false = l)
    (h : wpAnyL P .any ops Q S T k n l a w.drew) : (Code.region id ops true).wp P Q a w :=
  wp_region_any hm (wpAny_of_L _ _ _ _ (by rw [hn, hl]; exact h))

/-- Does operation k wait for operation i? -/
def waits (md : Region.Mode) (ops : Array Oper) (k i : Nat) : Bool := match ops[k]? with
  | some ok => ok.after.any fun e => Region.binds md e && e.on == i
  | none => true
theorem waits_spec {k i : Nat} (h : waits md ops k i = true) : ∀ ok, ops[k]? = some ok → ∃ e ∈ ok.after, Region.binds md e = true ∧ e.on = i := by
  intro ok hok
  unfold waits at h
  rw [hok] at h
  obtain ⟨e, he, hb⟩ := Array.any_eq_true'.1 h
  simp only [Bool.and_eq_true, beq_iff_eq] at hb
  exact ⟨e, he, hb.1, hb.2⟩

/-- One operation taken first; what it yields it yields wherever S holds. -/
theorem reg_take (i d n : Nat) (l' : Array Bool) {l : Array Bool} {oi : Oper} {v : Value} {ts : Array Value} {df : List Deferred} {w : World} (hik : (i == k) = false)
    (hi : ops[i]? = some oi) (hd : oi.dst = some d) (hs : Region.noSelect ops = true) (hf : Region.free md ops l i = true) (hr : (Region.ready md ops l).contains i = true) (hl : l.setIfInBounds i true = l')
    (hQ : ∀ c (a : Act) w, Q (.panic c) (a.put (some d) v) w → Q (.panic c) a w)
    (hw : Region.wanted oi (yielded ops ts) = true) (hy : ∀ w, S w → (execOp (Act.eval ⟨ts, df⟩) oi).run P w = .ok (.value v) w) (hS : Till S T k l w)
    (h : wpAnyL P md ops Q S T k n l' ⟨ts.setIfInBounds d v, df⟩ w) : wpAnyL P md ops Q S T k (n + 1) l ⟨ts, df⟩ w := by
  refine reg_first (by simpa using hik) hi (Region.noSelect_spec hs) (by rw [hd]; exact hQ) (S0 := S) (.inl fun _ h => h) n l _ w (Region.free_spec hi hf) (.inl fun _ h => h) (by simpa using hr) (.inl ⟨hw, hy⟩) hS ?_
  rw [hl, hd]; exact h
/-- The same, where T is used: k waits for it. -/
theorem reg_take_t (i d n : Nat) (l' : Array Bool) {l : Array Bool} {oi : Oper} {v : Value} {ts : Array Value} {df : List Deferred} {w : World} (hik : (i == k) = false)
    (hi : ops[i]? = some oi) (hd : oi.dst = some d) (hs : Region.noSelect ops = true) (hf : Region.free md ops l i = true) (hr : (Region.ready md ops l).contains i = true) (hl : l.setIfInBounds i true = l')
    (hQ : ∀ c (a : Act) w, Q (.panic c) (a.put (some d) v) w → Q (.panic c) a w)
    (hw : Region.wanted oi (yielded ops ts) = true) (hk : waits md ops k i = true) (hkl : l.getD k true = false) (hy : ∀ w, (S w ∧ T w) → (execOp (Act.eval ⟨ts, df⟩) oi).run P w = .ok (.value v) w) (hS : Till S T k l w)
    (h : wpAnyL P md ops Q S T k n l' ⟨ts.setIfInBounds d v, df⟩ w) : wpAnyL P md ops Q S T k (n + 1) l ⟨ts, df⟩ w := by
  refine reg_first (by simpa using hik) hi (Region.noSelect_spec hs) (by rw [hd]; exact hQ) (S0 := fun w => S w ∧ T w) (.inr ⟨fun _ h h' => ⟨h, h'⟩, waits_spec hk⟩) n l _ w (Region.free_spec hi hf) (.inr hkl) (by simpa using hr) (.inl ⟨hw, hy⟩) hS ?_
  rw [hl, hd]; exact h
/-- The same, what it yields given as a whole. -/
theorem reg_take_y (i d n : Nat) (l' : Array Bool) {l : Array Bool} {oi : Oper} {v : Value} {ts : Array Value} {df : List Deferred} {w : World} (hik : (i == k) = false)
    (hi : ops[i]? = some oi) (hd : oi.dst = some d) (hs : Region.noSelect ops = true) (hf : Region.free md ops l i = true) (hr : (Region.ready md ops l).contains i = true) (hl : l.setIfInBounds i true = l')
    (hQ : ∀ c (a : Act) w, Q (.panic c) (a.put (some d) v) w → Q (.panic c) a w)
    (hy : YieldsIf P ops S oi v ⟨ts, df⟩) (hS : Till S T k l w)
    (h : wpAnyL P md ops Q S T k n l' ⟨ts.setIfInBounds d v, df⟩ w) : wpAnyL P md ops Q S T k (n + 1) l ⟨ts, df⟩ w := by
  refine reg_first (by simpa using hik) hi (Region.noSelect_spec hs) (by rw [hd]; exact hQ) (S0 := S) (.inl fun _ h => h) n l _ w (Region.free_spec hi hf) (.inl fun _ h => h) (by simpa using hr) hy hS ?_
  rw [hl, hd]; exact h
/-- An operation that its guard passes over. -/
theorem reg_skip (i d n : Nat) (l' : Array Bool) {l : Array Bool} {oi : Oper} {ts : Array Value} {df : List Deferred} {w : World} (hik : (i == k) = false)
    (hi : ops[i]? = some oi) (hd : oi.dst = some d) (hs : Region.noSelect ops = true) (hf : Region.free md ops l i = true) (hr : (Region.ready md ops l).contains i = true) (hl : l.setIfInBounds i true = l')
    (hQ : ∀ c (a : Act) w, Q (.panic c) (a.put (some d) undef) w → Q (.panic c) a w)
    (hw : Region.wanted oi (yielded ops ts) = false) (hS : Till S T k l w)
    (h : wpAnyL P md ops Q S T k n l' ⟨ts.setIfInBounds d undef, df⟩ w) : wpAnyL P md ops Q S T k (n + 1) l ⟨ts, df⟩ w := by
  refine reg_first (by simpa using hik) hi (Region.noSelect_spec hs) (by rw [hd]; exact hQ) (S0 := S) (.inl fun _ h => h) n l _ w (Region.free_spec hi hf) (.inl fun _ h => h) (by simpa using hr) (.inr ⟨hw, rfl⟩) hS ?_
  rw [hl, hd]; exact h
/-- The one operation that may come up. -/
theorem reg_one (j n : Nat) (l' : Array Bool) {l : Array Bool} {o : Oper} {a : Act} {w : World}
    (hr : Region.ready md ops l = [j]) (ho : ops[j]? = some o) (hw : Region.wanted o (yielded ops a.tmps) = true) (hl : l.setIfInBounds j true = l')
    (h : ∀ K' : Act → World → Prop, (∀ a' w', Till S T k l' w' → wpAnyL P md ops Q S T k n l' a' w' → K' a' w') → Oper.wp P o a w K' Q) :
    wpAnyL P md ops Q S T k (n + 1) l a w := by
  refine wpAnyL_all hr (by simp) fun i hi => ?_
  obtain rfl : i = j := by simpa using hi
  refine wpOp_step ho fun K' hK => ?_
  rw [if_pos hw]
  exact h K' fun a' w' hS hh => hK _ _ ⟨by rw [hl]; exact hS, by rw [hl]; exact hh⟩
/-- Two may come up: each way. -/
theorem reg_two (i j n : Nat) (li lj : Array Bool) {l : Array Bool} {oi oj : Oper} {a : Act} {w : World}
    (hr : Region.ready md ops l = [i, j]) (hoi : ops[i]? = some oi) (hoj : ops[j]? = some oj) (hwi : Region.wanted oi (yielded ops a.tmps) = true) (hwj : Region.wanted oj (yielded ops a.tmps) = true)
    (hli : l.setIfInBounds i true = li) (hlj : l.setIfInBounds j true = lj)
    (h1 : ∀ K' : Act → World → Prop, (∀ a' w', Till S T k li w' → wpAnyL P md ops Q S T k n li a' w' → K' a' w') → Oper.wp P oi a w K' Q)
    (h2 : ∀ K' : Act → World → Prop, (∀ a' w', Till S T k lj w' → wpAnyL P md ops Q S T k n lj a' w' → K' a' w') → Oper.wp P oj a w K' Q) :
    wpAnyL P md ops Q S T k (n + 1) l a w := by
  refine wpAnyL_all hr (by simp) fun m hm => ?_
  rcases (by simpa using hm : m = i ∨ m = j) with rfl | rfl
  · refine wpOp_step hoi fun K' hK => ?_
    rw [if_pos hwi]
    exact h1 K' fun a' w' hS hh => hK _ _ ⟨by rw [hli]; exact hS, by rw [hli]; exact hh⟩
  · refine wpOp_step hoj fun K' hK => ?_
    rw [if_pos hwj]
    exact h2 K' fun a' w' hS hh => hK _ _ ⟨by rw [hlj]; exact hS, by rw [hlj]; exact hh⟩
theorem Till.mk' {l : Array Bool} {w : World} (h1 : S w) (h2 : T w) : Till S T k l w := ⟨h1, fun _ => h2⟩
theorem Till.past {l : Array Bool} {w : World} (h1 : S w) (hk : l.getD k true = true) : Till S T k l w := ⟨h1, fun h => by rw [hk] at h; cases h⟩
end
end Go.Proofs.Ytdhbaepmbgoobaa
