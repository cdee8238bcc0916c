/- Regions that draw their order, three and four that may come up. -/
import Derived.Test.YtibolcekhdapaaaRegl
namespace Go.Proofs.Ytibolcekhdapaaa
open Go.RowKit
variable {P : Program} {ops : Array Oper} {Q : Exit → Act → World → Prop} {md : Region.Mode} {S T : World → Prop} {k : Nat}
set_option linter.unusedVariables false
set_option maxRecDepth 10000
/-- Three may come up: each way. -/
theorem reg_three (i0 i1 i2 n : Nat) (l0 l1 l2 : Array Bool) {l : Array Bool} {o0 o1 o2 : Oper} {a : Act} {w : World}
    (hr : Region.ready md ops l = [i0, i1, i2]) (ho0 : ops[i0]? = some o0) (ho1 : ops[i1]? = some o1) (ho2 : ops[i2]? = some o2) (hw0 : Region.wanted o0 (yielded ops a.tmps) = true) (hw1 : Region.wanted o1 (yielded ops a.tmps) = true) (hw2 : Region.wanted o2 (yielded ops a.tmps) = true)
    (hl0 : l.setIfInBounds i0 true = l0) (hl1 : l.setIfInBounds i1 true = l1) (hl2 : l.setIfInBounds i2 true = l2)
    (h0 : ∀ K' : Act → World → Prop, (∀ a' w', Till S T k l0 w' → wpAnyL P md ops Q S T k n l0 a' w' → K' a' w') → Oper.wp P o0 a w K' Q)
    (h1 : ∀ K' : Act → World → Prop, (∀ a' w', Till S T k l1 w' → wpAnyL P md ops Q S T k n l1 a' w' → K' a' w') → Oper.wp P o1 a w K' Q)
    (h2 : ∀ K' : Act → World → Prop, (∀ a' w', Till S T k l2 w' → wpAnyL P md ops Q S T k n l2 a' w' → K' a' w') → Oper.wp P o2 a w K' Q) :
    wpAnyL P md ops Q S T k (n + 1) l a w := by
  refine wpAnyL_all hr (by simp) fun m hm => ?_
  rcases (by simpa using hm : m = i0 ∨ m = i1 ∨ m = i2) with rfl | rfl | rfl
  · refine wpOp_step ho0 fun K' hK => ?_
    rw [if_pos hw0]
    exact h0 K' fun a' w' hS hh => hK _ _ ⟨by rw [hl0]; exact hS, by rw [hl0]; exact hh⟩
  · refine wpOp_step ho1 fun K' hK => ?_
    rw [if_pos hw1]
    exact h1 K' fun a' w' hS hh => hK _ _ ⟨by rw [hl1]; exact hS, by rw [hl1]; exact hh⟩
  · refine wpOp_step ho2 fun K' hK => ?_
    rw [if_pos hw2]
    exact h2 K' fun a' w' hS hh => hK _ _ ⟨by rw [hl2]; exact hS, by rw [hl2]; exact hh⟩
/-- Four may come up: each way. -/
theorem reg_four (i0 i1 i2 i3 n : Nat) (l0 l1 l2 l3 : Array Bool) {l : Array Bool} {o0 o1 o2 o3 : Oper} {a : Act} {w : World}
    (hr : Region.ready md ops l = [i0, i1, i2, i3]) (ho0 : ops[i0]? = some o0) (ho1 : ops[i1]? = some o1) (ho2 : ops[i2]? = some o2) (ho3 : ops[i3]? = some o3) (hw0 : Region.wanted o0 (yielded ops a.tmps) = true) (hw1 : Region.wanted o1 (yielded ops a.tmps) = true) (hw2 : Region.wanted o2 (yielded ops a.tmps) = true) (hw3 : Region.wanted o3 (yielded ops a.tmps) = true)
    (hl0 : l.setIfInBounds i0 true = l0) (hl1 : l.setIfInBounds i1 true = l1) (hl2 : l.setIfInBounds i2 true = l2) (hl3 : l.setIfInBounds i3 true = l3)
    (h0 : ∀ K' : Act → World → Prop, (∀ a' w', Till S T k l0 w' → wpAnyL P md ops Q S T k n l0 a' w' → K' a' w') → Oper.wp P o0 a w K' Q)
    (h1 : ∀ K' : Act → World → Prop, (∀ a' w', Till S T k l1 w' → wpAnyL P md ops Q S T k n l1 a' w' → K' a' w') → Oper.wp P o1 a w K' Q)
    (h2 : ∀ K' : Act → World → Prop, (∀ a' w', Till S T k l2 w' → wpAnyL P md ops Q S T k n l2 a' w' → K' a' w') → Oper.wp P o2 a w K' Q)
    (h3 : ∀ K' : Act → World → Prop, (∀ a' w', Till S T k l3 w' → wpAnyL P md ops Q S T k n l3 a' w' → K' a' w') → Oper.wp P o3 a w K' Q) :
    wpAnyL P md ops Q S T k (n + 1) l a w := by
  refine wpAnyL_all hr (by simp) fun m hm => ?_
  rcases (by simpa using hm : m = i0 ∨ m = i1 ∨ m = i2 ∨ m = i3) with rfl | rfl | rfl | rfl
  · refine wpOp_step ho0 fun K' hK => ?_
    rw [if_pos hw0]
    exact h0 K' fun a' w' hS hh => hK _ _ ⟨by rw [hl0]; exact hS, by rw [hl0]; exact hh⟩
  · refine wpOp_step ho1 fun K' hK => ?_
    rw [if_pos hw1]
    exact h1 K' fun a' w' hS hh => hK _ _ ⟨by rw [hl1]; exact hS, by rw [hl1]; exact hh⟩
  · refine wpOp_step ho2 fun K' hK => ?_
    rw [if_pos hw2]
    exact h2 K' fun a' w' hS hh => hK _ _ ⟨by rw [hl2]; exact hS, by rw [hl2]; exact hh⟩
  · refine wpOp_step ho3 fun K' hK => ?_
    rw [if_pos hw3]
    exact h3 K' fun a' w' hS hh => hK _ _ ⟨by rw [hl3]; exact hS, by rw [hl3]; exact hh⟩
/-- What it yields given as a whole, where T is used: k waits for it. -/
theorem reg_take_yt (i d n : Nat) (l' : Array Bool) {l : Array Bool} {oi : Oper} {v : Value} {ts : Array Value} {df : List Deferred} {w : World} (hik : (i == k) = false)
    (hi : ops[i]? = some oi) (hd : oi.dst = some d) (hs : Region.noSelect ops = true) (hf : Region.free md ops l i = true) (hr : (Region.ready md ops l).contains i = true) (hl : l.setIfInBounds i true = l')
    (hQ : ∀ c (a : Act) w, Q (.panic c) (a.put (some d) v) w → Q (.panic c) a w)
    (hk : waits md ops k i = true) (hkl : l.getD k true = false) (hy : YieldsIf P ops (fun w => S w ∧ T w) oi v ⟨ts, df⟩) (hS : Till S T k l w)
    (h : wpAnyL P md ops Q S T k n l' ⟨ts.setIfInBounds d v, df⟩ w) : wpAnyL P md ops Q S T k (n + 1) l ⟨ts, df⟩ w := by
  refine reg_first (by simpa using hik) hi (Region.noSelect_spec hs) (by rw [hd]; exact hQ) (S0 := fun w => S w ∧ T w) (.inr ⟨fun _ h h' => ⟨h, h'⟩, waits_spec hk⟩) n l _ w (Region.free_spec hi hf) (.inr hkl) (by simpa using hr) hy hS ?_
  rw [hl, hd]; exact h
end Go.Proofs.Ytibolcekhdapaaa
