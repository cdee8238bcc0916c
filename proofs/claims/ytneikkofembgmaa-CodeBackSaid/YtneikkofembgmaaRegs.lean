/- Regions that draw their order and hold calls that turn the world: taken in one order. -/
import Derived.Test.YtneikkofembgmaaBase
import Derived.OrdersHeld
import Derived.RegionTactic
namespace Go.Proofs.Ytneikkofembgmaa
open Go.RowKit
set_option linter.unusedVariables false

/-- What holds under a stronger condition holds under a weaker one. -/
theorem held_more {P : Program} {md : Region.Mode} {ops : Array Oper} {Q : Exit → Act → World → Prop} {S S' : World → Prop} (hS : ∀ W, S' W → S W) :
    ∀ (fuel : Nat) (listed : Array Bool) (a : Act) (w : World), wpAnyH P md ops Q S' fuel listed a w → wpAnyH P md ops Q S fuel listed a w
  | 0, _, _, _, h => h
  | fuel + 1, _, _, _, h => ⟨h.1, fun i hi => wpOp_mono (fun a' w' h' => ⟨hS _ h'.1, held_more hS fuel _ a' w' h'.2⟩) (h.2 i hi)⟩

/-- The one operation that may come up. -/
theorem held_one {P : Program} {md : Region.Mode} {ops : Array Oper} {Q : Exit → Act → World → Prop} {S : World → Prop} {j : Nat} {o : Oper} {fuel : Nat} {listed : Array Bool} {a : Act} {w : World}
    (hr : Region.ready md ops listed = [j]) (ho : ops[j]? = some o) (hw : Region.wanted o (yielded ops a.tmps) = true)
    (h : ∀ K' : Act → World → Prop, (∀ a' w', S w' → wpAnyH P md ops Q S fuel (listed.setIfInBounds j true) a' w' → K' a' w') → Oper.wp P o a w K' Q) :
    wpAnyH P md ops Q S (fuel + 1) listed a w := by
  refine wpAnyH_all hr (by simp) fun i hi => ?_
  obtain rfl : i = j := by simpa using hi
  refine wpOp_step ho fun K' hK => ?_
  rw [if_pos hw]
  exact h K' fun a' w' hS hh => hK _ _ ⟨hS, hh⟩

/-- The beginning, the draw folded; how many operations there are, and that none has come up, written out. -/
theorem held_begin {P : Program} {ops : Array Oper} {Q : Exit → Act → World → Prop} (S : World → Prop) (n : Nat) (l : Array Bool) {id : Nat} {a : Act} {w : World} (hm : P.follows .mixedOrders = true)
    (hn : ops.size = n) (hl : Array.replicate n false = l)
    (h : wpAnyH P .any ops Q S n l a w.drew) : (Code.region id ops true).wp P Q a w := wp_region_held (S := S) hm (by rw [hn, hl]; exact h)

/-- One operation taken first, the list of what has come up written out. -/
theorem held_take {P : Program} {md : Region.Mode} {ops : Array Oper} {Q : Exit → Act → World → Prop} {S : World → Prop} (i d n : Nat) (l' : Array Bool) {l : Array Bool} {oi : Oper} {v : Value} {ts : Array Value} {df : List Deferred} {w : World}
    (hi : ops[i]? = some oi) (hd : oi.dst = some d) (hs : Region.noSelect ops = true) (hf : Region.free md ops l i = true) (hr : (Region.ready md ops l).contains i = true) (hl : l.setIfInBounds i true = l')
    (hQ : ∀ c (a : Act) w, Q (.panic c) (a.put (some d) v) w → Q (.panic c) a w)
    (hw : Region.wanted oi (yielded ops ts) = true) (hy : ∀ w, S w → (execOp (Act.eval ⟨ts, df⟩) oi).run P w = .ok (.value v) w) (hS : S w)
    (h : wpAnyH P md ops Q S n l' ⟨ts.setIfInBounds d v, df⟩ w) : wpAnyH P md ops Q S (n + 1) l ⟨ts, df⟩ w := by
  refine wpAnyH_take hi hs hf hr (by rw [hd]; exact hQ) (.inl ⟨hw, hy⟩) hS ?_
  rw [hl, hd]
  exact h

/-- An operation that its guard passes over. -/
theorem held_skip {P : Program} {md : Region.Mode} {ops : Array Oper} {Q : Exit → Act → World → Prop} {S : World → Prop} (i d n : Nat) (l' : Array Bool) {l : Array Bool} {oi : Oper} {ts : Array Value} {df : List Deferred} {w : World}
    (hi : ops[i]? = some oi) (hd : oi.dst = some d) (hs : Region.noSelect ops = true) (hf : Region.free md ops l i = true) (hr : (Region.ready md ops l).contains i = true) (hl : l.setIfInBounds i true = l')
    (hQ : ∀ c (a : Act) w, Q (.panic c) (a.put (some d) undef) w → Q (.panic c) a w)
    (hw : Region.wanted oi (yielded ops ts) = false) (hS : S w)
    (h : wpAnyH P md ops Q S n l' ⟨ts.setIfInBounds d undef, df⟩ w) : wpAnyH P md ops Q S (n + 1) l ⟨ts, df⟩ w := by
  refine wpAnyH_take hi hs hf hr (by rw [hd]; exact hQ) (.inr ⟨hw, rfl⟩) hS ?_
  rw [hl, hd]
  exact h

/-- The one operation that may come up. -/
theorem held_call {P : Program} {md : Region.Mode} {ops : Array Oper} {Q : Exit → Act → World → Prop} {S : World → Prop} (j n : Nat) (l' : Array Bool) {l : Array Bool} {o : Oper} {a : Act} {w : World}
    (hr : Region.ready md ops l = [j]) (ho : ops[j]? = some o) (hw : Region.wanted o (yielded ops a.tmps) = true) (hl : l.setIfInBounds j true = l')
    (h : ∀ K' : Act → World → Prop, (∀ a' w', S w' → wpAnyH P md ops Q S n l' a' w' → K' a' w') → Oper.wp P o a w K' Q) :
    wpAnyH P md ops Q S (n + 1) l a w := held_one hr ho hw (by rw [hl]; exact h)
end Go.Proofs.Ytneikkofembgmaa
