/- sync.Once in one goroutine: Do where nothing has been done yet, and the lock is free; Do where it has been done. Contracts of code.Reader. What was written is read as it was: of numbers, bytes, texts, in plain lists. Contracts of ledgerlineref1.Reader: it goes by the same states as the program's. Contracts of ledgerlineref1.Reader: it goes by the same states as the program's. Contracts of ledgerlineref1.Reader: it goes by the same states as the program's. Regions that draw their order: one order is enough. The condition on the world is in two parts: what holds throughout (S), what holds till operation number k has come up (T). Regions that draw their order, three and four that may come up. Regions that draw their order: the same steps, short to write (what is the same every time stands in the statement). The builtin copy, of elements of one cell, into a block that is known whole. The builtin copy, of elements of any size, into a block that is known whole; at the operation. Patterns of Go texts over bytes: make, an own copy, what a row holds. Loads of whole values behind a guard. From the row's reading of an argument to the walk's. From the row's reading of a slice of integers to the walk's. From the row's reading of an argument to the walk's: any slice, by its elements' cells. Slices that lie in a set of blocks; rows of data that lie deep. -/
import Derived.Test.YtoahnhphfabajaaGreatGA
import Derived.Test.YtoahnhphfabajaaGreatProg
import Derived.StillTailTactics
import Derived.OrdersHeld
import Derived.RegionTactic
import Derived.OpenShut
import Derived.SliceStrings
namespace Go.Proofs.YtoahnhphfabajaaGreat
set_option maxRecDepth 10000
open Go.RowKit
set_option linter.unusedVariables false
set_option maxRecDepth 10000
set_option linter.unusedSimpArgs false
set_option linter.unnecessarySimpa false
namespace Once

theorem disable (w : World) : (callFunc 118 #[]).run Tryz.prog w = .ok (.value (.tuple #[])) w := run_call_mark0 Tryz.func118 (by kernel_rfl) (by kernel_rfl) (by kernel_rfl) .disable (by kernel_rfl) w
theorem enable (w : World) : (callFunc 120 #[]).run Tryz.prog w = .ok (.value (.tuple #[])) w := run_call_mark0 Tryz.func120 (by kernel_rfl) (by kernel_rfl) (by kernel_rfl) .enable (by kernel_rfl) w
theorem acquire (a : Addr) (w : World) : (callFunc 121 #[.pointer (some a)]).run Tryz.prog w = .ok (.value (.tuple #[])) w := run_call_marked Tryz.func121 (by kernel_rfl) (by kernel_rfl) (by kernel_rfl) .acquire (by kernel_rfl) a w
theorem releaseMerge (a : Addr) (w : World) : (callFunc 123 #[.pointer (some a)]).run Tryz.prog w = .ok (.value (.tuple #[])) w := run_call_marked Tryz.func123 (by kernel_rfl) (by kernel_rfl) (by kernel_rfl) .releaseMerge (by kernel_rfl) a w

theorem store_deferred (a : Addr) (x : Value) (u : FrameMode) (w : World) (hc : w.cell? a = some x) (hz : w.frozen? a = false) :
    CallsD Tryz.prog 89 #[.pointer (some a), .bool true] u w fun e u' w' => u' = u ∧ (e = .returned (.tuple #[]) ∧ w' = w.drew.setCell a (.int .u32 1)) := by
  have hc' : w.drew.cell? a = some x := by go_simp
  have hz' : w.drew.frozen? a = false := by go_simp
  have hst := run_call_store (P := Tryz.prog) Tryz.func109 (by kernel_rfl) (by kernel_rfl) (by kernel_rfl) (by kernel_rfl) (k := .u32) (y := 1) hc' hz'
  go_enter_d Tryz.func89, Tryz.ntmps89
  go_wp2
  go_region_calls
  all_goals (go_end0; exact ⟨rfl, rfl⟩)

theorem unlock_deferred (a : Addr) (u : FrameMode) (w : World) (hc : w.cell? a = some (.int .i32 1)) (hz : w.frozen? a = false) :
    CallsD Tryz.prog 88 #[.pointer (some a)] u w fun e u' w' => u' = u ∧ (e = .returned (.tuple #[]) ∧ w' = w.setCell a (.int .i32 0)) := by
  have hd := disable
  have he := enable
  have hr := releaseMerge
  have hadd := run_call_add (P := Tryz.prog) Tryz.func124 (by kernel_rfl) (by kernel_rfl) (by kernel_rfl) .i32 (by kernel_rfl) (y := -1) (s := 0) hc hz (by simp [go_sem]; rfl)
  have hcv := run_convert_to_unsafe (P := Tryz.prog) (src := 183) (dst := 187) Tryz.underlying183 Tryz.underlying187 (by kernel_rfl) hc
  go_enter_d Tryz.func88, Tryz.ntmps88
  go_wp2
  go_end0
  go_wp2
  go_end0
  exact ⟨rfl, rfl⟩

theorem lock_free (a : Addr) (w : World) (hc : w.cell? a = some (.int .i32 0)) (hz : w.frozen? a = false) :
    Calls Tryz.prog 87 #[.pointer (some a)] w fun e w' => e = .returned (.tuple #[]) ∧ w' = w.setCell a (.int .i32 1) := by
  have hd := disable
  have he := enable
  have ha := acquire
  have hcas := run_call_cas_hit (P := Tryz.prog) Tryz.func119 (by kernel_rfl) (by kernel_rfl) (by kernel_rfl) .i32 (by kernel_rfl) (y := 1) hc hz
  have hc' : (w.setCell a (.int .i32 1)).cell? a = some (.int .i32 1) := World.cell?_setCell_same w a _ hc
  have hcv := run_convert_to_unsafe (P := Tryz.prog) (src := 183) (dst := 187) Tryz.underlying183 Tryz.underlying187 (by kernel_rfl) hc'
  go_enter Tryz.func87, Tryz.ntmps87
  go_wp2
  first | go_end0 | (simp only [Exit.inBlock, Exit.then]; refine bodyPost_ret (results_none rfl _ _ _) rfl ?_) | refine bodyPost_ret (results_none rfl _ _ _) rfl ?_
  go_wp2
  go_end0
  exact ⟨rfl, rfl⟩

/-- What the function that is done leaves: the Once's own cells as they were when it was called. -/
def Held (b off : Nat) (w : World) : Prop :=
  (∃ x, w.cell? ⟨b, off, none⟩ = some x) ∧ w.frozen? ⟨b, off, none⟩ = false ∧ w.cell? ⟨b, off + 1, none⟩ = some (.int .i32 1) ∧ w.frozen? ⟨b, off + 1, none⟩ = false

set_option maxRecDepth 100000 in
set_option maxHeartbeats 1600000 in
theorem slow_any (b off : Nat) (f : FuncId) (first cap : Array Value) (R : World → Prop) (w : World)
    (hcf : ∀ W : World, (callFunc f (first ++ cap)).run Tryz.prog W = .ok (.enter f (first ++ cap)) W)
    (h0 : w.cell? ⟨b, off, none⟩ = some (.int .u32 0)) (h1 : w.cell? ⟨b, off + 1, none⟩ = some (.int .i32 0))
    (f0 : w.frozen? ⟨b, off, none⟩ = false) (f1 : w.frozen? ⟨b, off + 1, none⟩ = false)
    (hF : Calls Tryz.prog f (first ++ cap) (w.setCell ⟨b, off + 1, none⟩ (.int .i32 1)) fun e w' => e = .returned (.tuple #[]) ∧ R w' ∧ Held b off w') :
    Calls Tryz.prog 63 #[.pointer (some ⟨b, off, none⟩), .func (.func f) first cap] w fun e w' => e = .returned (.tuple #[]) ∧
      ∃ w2, R w2 ∧ w' = (w2.drew.setCell ⟨b, off, none⟩ (.int .u32 1)).setCell ⟨b, off + 1, none⟩ (.int .i32 0) := by
  have hl := run_call_load (P := Tryz.prog) Tryz.func86 (by kernel_rfl) (by kernel_rfl) (by kernel_rfl) .u32 (by kernel_rfl) (w := w.setCell ⟨b, off + 1, none⟩ (.int .i32 1)) (a := ⟨b, off, none⟩) (x := 0) ((World.cell?_setCell_other _ ⟨b, off + 1, none⟩ ⟨b, off, none⟩ _ (by simp)).trans h0)
  have hnot : ∀ (x : Bool) (w : World), (Op.unary .not (.bool x)).run Tryz.prog w = .ok (.bool (!x)) w := fun _ _ => rfl
  have HF := Lib.hid hF
  clear hF
  go_enter_defers Tryz.func63, Tryz.ntmps63
  go_wp2_with (go_at_call 87; refine (lock_free ⟨b, off + 1, none⟩ _ (by go_simp) (by go_simp)).mono ?_; rintro e w' ⟨rfl, rfl⟩)
  go_wp2_with (go_at_call 62; go_in)
  refine HF.out.mono ?_
  rintro e w2 ⟨rfl, hR, ⟨x, c0⟩, z0, c1, z1⟩
  go_wp2
  -- the door: two deferred calls, the last laid first
  refine leaves_cons (f := 89) (args := #[.pointer (some ⟨b, off, none⟩), .bool true]) (by simp) (by simp [go_sem]) ?_
  refine (store_deferred ⟨b, off, none⟩ x .returning _ c0 z0).mono ?_
  rintro e u' w'' ⟨rfl, rfl, rfl⟩
  refine leaves_cons (f := 88) (args := #[.pointer (some ⟨b, off + 1, none⟩)]) (by simp [settle]) (by simp [go_sem]) ?_
  refine (unlock_deferred ⟨b, off + 1, none⟩ _ _ ?_ (by simp [z1])).mono ?_
  · refine (World.cell?_setCell_other _ ⟨b, off, none⟩ ⟨b, off + 1, none⟩ _ (by simp)).trans ?_
    rw [World.cell?_drew]
    exact c1
  rintro e u' w'' ⟨rfl, rfl, rfl⟩
  simp [Leaves, settle, results, Tryz.results63]
  exact ⟨w2, hR, rfl⟩

set_option maxRecDepth 100000 in
set_option maxHeartbeats 1600000 in
/-- Do, nothing done yet, the lock free. -/
theorem do_first (b off : Nat) (f : FuncId) (first cap : Array Value) (R : World → Prop) (w : World)
    (hcf : ∀ W : World, (callFunc f (first ++ cap)).run Tryz.prog W = .ok (.enter f (first ++ cap)) W)
    (h0 : w.cell? ⟨b, off, none⟩ = some (.int .u32 0)) (h1 : w.cell? ⟨b, off + 1, none⟩ = some (.int .i32 0))
    (f0 : w.frozen? ⟨b, off, none⟩ = false) (f1 : w.frozen? ⟨b, off + 1, none⟩ = false)
    (hF : Calls Tryz.prog f (first ++ cap) (w.setCell ⟨b, off + 1, none⟩ (.int .i32 1)) fun e w' => e = .returned (.tuple #[]) ∧ R w' ∧ Held b off w') :
    Calls Tryz.prog 32 #[.pointer (some ⟨b, off, none⟩), .func (.func f) first cap] w fun e w' => e = .returned (.tuple #[]) ∧
      ∃ w2, R w2 ∧ w' = (w2.drew.setCell ⟨b, off, none⟩ (.int .u32 1)).setCell ⟨b, off + 1, none⟩ (.int .i32 0) := by
  have hl := run_call_load (P := Tryz.prog) Tryz.func86 (by kernel_rfl) (by kernel_rfl) (by kernel_rfl) .u32 (by kernel_rfl) h0
  have hnot : ∀ (x : Bool) (w : World), (Op.unary .not (.bool x)).run Tryz.prog w = .ok (.bool (!x)) w := fun _ _ => rfl
  have S := Lib.hid (slow_any b off f first cap R w hcf h0 h1 f0 f1 hF)
  clear hF hcf
  go_enter Tryz.func32, Tryz.ntmps32
  go_wp2_with (first | (go_at_call 63; refine S.out.mono ?_; rintro e w' ⟨rfl, hw⟩) | (go_at_call 62; go_in))
  go_end0
  exact ⟨rfl, hw⟩

end Once
end Go.Proofs.YtoahnhphfabajaaGreat
namespace Go.Proofs.YtoahnhphfabajaaGreat
set_option maxRecDepth 10000
open Go.RowKit
set_option linter.unusedVariables false
set_option linter.unusedSimpArgs false
set_option linter.unnecessarySimpa false

end Go.Proofs.YtoahnhphfabajaaGreat
namespace Go.Proofs.YtoahnhphfabajaaGreat
set_option maxRecDepth 10000
open Go.RowKit
set_option linter.unusedVariables false
set_option linter.unusedSimpArgs false

end Go.Proofs.YtoahnhphfabajaaGreat
namespace Go.Proofs.YtoahnhphfabajaaGreat
set_option maxRecDepth 10000
open Go.RowKit
set_option linter.unusedVariables false
set_option linter.unusedSimpArgs false
set_option linter.unnecessarySimpa false
attribute [local go_sem ↓] Go.wp_at_zero Go.wp_at_succ

end Go.Proofs.YtoahnhphfabajaaGreat
namespace Go.Proofs.YtoahnhphfabajaaGreat
set_option maxRecDepth 10000
open Go.RowKit
set_option linter.unusedVariables false
set_option linter.unusedSimpArgs false
set_option linter.unnecessarySimpa false
attribute [local go_sem ↓] Go.wp_at_zero Go.wp_at_succ

end Go.Proofs.YtoahnhphfabajaaGreat
namespace Go.Proofs.YtoahnhphfabajaaGreat
set_option maxRecDepth 10000
open Go.RowKit
set_option linter.unusedVariables false
set_option linter.unusedSimpArgs false
set_option linter.unnecessarySimpa false
attribute [local go_sem ↓] Go.wp_at_zero Go.wp_at_succ

end Go.Proofs.YtoahnhphfabajaaGreat
namespace Go.Proofs.YtoahnhphfabajaaGreat
set_option maxRecDepth 10000
open Go.RowKit
set_option linter.unusedVariables false

section
variable {P : Program} {ops : Array Oper} {Q : Exit → Act → World → Prop} {md : Region.Mode} {S T : World → Prop} {k : Nat}

/-- Both parts, as far as they must hold. -/
def Till (S T : World → Prop) (k : Nat) (l : Array Bool) (w : World) : Prop := S w ∧ (l.getD k true = false → T w)

/-- Whatever order is picked from here on; behind each operation the condition holds. -/
def wpAnyL (P : Program) (md : Region.Mode) (ops : Array Oper) (Q : Exit → Act → World → Prop) (S T : World → Prop) (k : Nat) : Nat → Array Bool → Act → World → Prop
  | 0, listed, a, w => Region.ready md ops listed = [] ∧ Q .normal a w
  | fuel + 1, listed, a, w =>
    (Region.ready md ops listed = [] → Q .normal a w) ∧
    ∀ i ∈ Region.ready md ops listed, wpOp P ops Q i (fun a' w' => Till S T k (listed.setIfInBounds i true) w' ∧ wpAnyL P md ops Q S T k fuel (listed.setIfInBounds i true) a' w') a w

theorem wpAny_of_L : ∀ (fuel : Nat) (listed : Array Bool) (a : Act) (w : World), wpAnyL P md ops Q S T k fuel listed a w → wpAny P md ops Q fuel listed a w
  | 0, _, _, _, h => h
  | fuel + 1, _, _, _, h => ⟨h.1, fun i hi => wpOp_mono (fun a' w' h' => wpAny_of_L fuel _ a' w' h'.2) (h.2 i hi)⟩

theorem Till.unset {l : Array Bool} {w : World} {i : Nat} (h : i ≠ k) : Till S T k (l.setIfInBounds i true) w ↔ Till S T k l w := by
  unfold Till; rw [getD_set_ne true h]

/-- An operation that yields the same wherever S holds and k has not come up; k waits for it. -/
theorem reg_first {i : Nat} {oi : Oper} {v : Value} (hik : i ≠ k) (hi : ops[i]? = some oi) (hsel : ∀ (j : Nat) (o : Oper) cs b, ops[j]? = some o → o.op ≠ .select cs b)
    (hQ : ∀ c a w, Q (.panic c) (a.put oi.dst v) w → Q (.panic c) a w) {S0 : World → Prop}
    (hS0 : (∀ w, S w → S0 w) ∨ ((∀ w, S w → T w → S0 w) ∧ ∀ ok, ops[k]? = some ok → ∃ e ∈ ok.after, Region.binds md e = true ∧ e.on = i)) :
    ∀ (fuel : Nat) (listed : Array Bool) (a : Act) (w : World),
      (∀ j oj, ops[j]? = some oj → j ≠ i → listed.getD j true = false → (∀ e ∈ oj.after, Region.binds md e = true → e.on ≠ i) → oi.apart ops oj = true) →
      ((∀ w, S w → S0 w) ∨ listed.getD k true = false) →
      i ∈ Region.ready md ops listed → YieldsIf P ops S0 oi v a → Till S T k listed w →
      wpAnyL P md ops Q S T k fuel (listed.setIfInBounds i true) (a.put oi.dst v) w → wpAnyL P md ops Q S T k (fuel + 1) listed a w := by
  intro fuel
  have get : ∀ (l : Array Bool) (w : World), ((∀ w, S w → S0 w) ∨ l.getD k true = false) → Till S T k l w → S0 w := by
    intro l w hl hT
    rcases hl with h | h
    · exact h _ hT.1
    · rcases hS0 with h' | h'
      · exact h' _ hT.1
      · exact h'.1 _ hT.1 (hT.2 h)
  induction fuel with
  | zero =>
    intro listed a w _ hk hr hy hS H
    refine ⟨fun h => (by rw [h] at hr; cases hr), fun j hj => ?_⟩
    by_cases hji : j = i
    · subst hji; exact hy.wpOp hi (get _ _ hk hS) ⟨(Till.unset hik).2 hS, H⟩
    · have := ready_mono hj hji
      rw [H.1] at this
      cases this
  | succ fuel ih =>
    intro listed a w hfree hk hr hy hS H
    refine ⟨fun h => (by rw [h] at hr; cases hr), fun j hj => ?_⟩
    by_cases hji : j = i
    · subst hji; exact hy.wpOp hi (get _ _ hk hS) ⟨(Till.unset hik).2 hS, H⟩
    · have h1 := H.2 j (ready_mono hj hji)
      obtain ⟨hjun, oj, hoj, hall⟩ := mem_ready.1 hj
      have hi0 := (mem_ready.1 hr).1
      have hnot : ∀ e ∈ oj.after, Region.binds md e = true → e.on ≠ i := fun e he hb heq => by
        have h1 := hall e he hb
        rw [heq] at h1
        rcases Nat.lt_or_ge i listed.size with h' | h'
        · simp [h'] at hi0 h1; rw [hi0] at h1; cases h1
        · simp [Array.getElem?_eq_none h'] at h1
      have h2 := wpOp_putIf hoj (hfree j oj hoj hji hjun hnot) (fun cs b => hsel i oi cs b hi) (fun cs b => hsel j oj cs b hoj) hQ hy h1
      have hfree' : ∀ k ok, ops[k]? = some ok → k ≠ i → (listed.setIfInBounds j true).getD k true = false →
          (∀ e ∈ ok.after, Region.binds md e = true → e.on ≠ i) → oi.apart ops ok = true := fun k ok hk hki hun hno => by
        refine hfree k ok hk hki ?_ hno
        by_cases hjk : j = k
        · subst hjk; exact hjun
        · rw [getD_set_ne true hjk] at hun; exact hun
      have hk' : (∀ w, S w → S0 w) ∨ (listed.setIfInBounds j true).getD k true = false := by
        rcases hk with h | h
        · exact .inl h
        · rcases hS0 with h' | h'
          · exact .inl h'
          · refine .inr ?_
            have hjk : j ≠ k := by
              intro e; subst e
              obtain ⟨e, he, hb, hon⟩ := h'.2 oj hoj
              exact hnot e he hb hon
            rw [getD_set_ne true hjk]; exact h
      refine wpOp_mono (fun a' w' h3 => ?_) h2
      obtain ⟨h3y, h3s, h3r⟩ := h3
      rw [Array.setIfInBounds_comm _ _ (Ne.symm hji)] at h3s h3r
      have h3s' := (Till.unset hik).1 h3s
      exact ⟨h3s', ih (listed.setIfInBounds j true) a' w' hfree' hk' (ready_mono hr (Ne.symm hji)) h3y h3s' h3r⟩

theorem wpAnyL_all {rs : List Nat} {fuel : Nat} {listed : Array Bool} {a : Act} {w : World} (hr : Region.ready md ops listed = rs) (hne : rs ≠ [])
    (h : ∀ i ∈ rs, wpOp P ops Q i (fun a' w' => Till S T k (listed.setIfInBounds i true) w' ∧ wpAnyL P md ops Q S T k fuel (listed.setIfInBounds i true) a' w') a w) : wpAnyL P md ops Q S T k (fuel + 1) listed a w :=
  ⟨fun h0 => absurd (hr ▸ h0) hne, hr ▸ h⟩

/-- All have come up. -/
theorem reg_done {listed : Array Bool} {a : Act} {w : World} (hr : Region.ready md ops listed = []) (h : Q .normal a w) : ∀ fuel, wpAnyL P md ops Q S T k fuel listed a w
  | 0 => ⟨hr, h⟩
  | _ + 1 => ⟨fun _ => h, by rw [hr]; simp⟩

/-- The beginning: how many operations there are, and that none has come up, written out. -/
theorem reg_begin (S T : World → Prop) (k n : Nat) (l : Array Bool) {id : Nat} {a : Act} {w : World} (hm : P.follows .mixedOrders = true)
    (hn : ops.size = n) (hl : Array.replicate n false = l)
    (h : wpAnyL P .any ops Q S T k n l a w.drew) : (Code.region id ops true).wp P Q a w :=
  wp_region_any hm (wpAny_of_L _ _ _ _ (by rw [hn, hl]; exact h))

/-- Does operation k wait for operation i? -/
def waits (md : Region.Mode) (ops : Array Oper) (k i : Nat) : Bool := match ops[k]? with
  | some ok => ok.after.any fun e => Region.binds md e && e.on == i
  | none => true
theorem waits_spec {k i : Nat} (h : waits md ops k i = true) : ∀ ok, ops[k]? = some ok → ∃ e ∈ ok.after, Region.binds md e = true ∧ e.on = i := by
  intro ok hok
  unfold waits at h
  rw [hok] at h
  obtain ⟨e, he, hb⟩ := Array.any_eq_true'.1 h
  simp only [Bool.and_eq_true, beq_iff_eq] at hb
  exact ⟨e, he, hb.1, hb.2⟩

/-- One operation taken first; what it yields it yields wherever S holds. -/
theorem reg_take (i d n : Nat) (l' : Array Bool) {l : Array Bool} {oi : Oper} {v : Value} {ts : Array Value} {df : List Deferred} {w : World} (hik : (i == k) = false)
    (hi : ops[i]? = some oi) (hd : oi.dst = some d) (hs : Region.noSelect ops = true) (hf : Region.free md ops l i = true) (hr : (Region.ready md ops l).contains i = true) (hl : l.setIfInBounds i true = l')
    (hQ : ∀ c (a : Act) w, Q (.panic c) (a.put (some d) v) w → Q (.panic c) a w)
    (hw : Region.wanted oi (yielded ops ts) = true) (hy : ∀ w, S w → (execOp (Act.eval ⟨ts, df⟩) oi).run P w = .ok (.value v) w) (hS : Till S T k l w)
    (h : wpAnyL P md ops Q S T k n l' ⟨ts.setIfInBounds d v, df⟩ w) : wpAnyL P md ops Q S T k (n + 1) l ⟨ts, df⟩ w := by
  refine reg_first (by simpa using hik) hi (Region.noSelect_spec hs) (by rw [hd]; exact hQ) (S0 := S) (.inl fun _ h => h) n l _ w (Region.free_spec hi hf) (.inl fun _ h => h) (by simpa using hr) (.inl ⟨hw, hy⟩) hS ?_
  rw [hl, hd]; exact h
/-- The same, where T is used: k waits for it. -/
theorem reg_take_t (i d n : Nat) (l' : Array Bool) {l : Array Bool} {oi : Oper} {v : Value} {ts : Array Value} {df : List Deferred} {w : World} (hik : (i == k) = false)
    (hi : ops[i]? = some oi) (hd : oi.dst = some d) (hs : Region.noSelect ops = true) (hf : Region.free md ops l i = true) (hr : (Region.ready md ops l).contains i = true) (hl : l.setIfInBounds i true = l')
    (hQ : ∀ c (a : Act) w, Q (.panic c) (a.put (some d) v) w → Q (.panic c) a w)
    (hw : Region.wanted oi (yielded ops ts) = true) (hk : waits md ops k i = true) (hkl : l.getD k true = false) (hy : ∀ w, (S w ∧ T w) → (execOp (Act.eval ⟨ts, df⟩) oi).run P w = .ok (.value v) w) (hS : Till S T k l w)
    (h : wpAnyL P md ops Q S T k n l' ⟨ts.setIfInBounds d v, df⟩ w) : wpAnyL P md ops Q S T k (n + 1) l ⟨ts, df⟩ w := by
  refine reg_first (by simpa using hik) hi (Region.noSelect_spec hs) (by rw [hd]; exact hQ) (S0 := fun w => S w ∧ T w) (.inr ⟨fun _ h h' => ⟨h, h'⟩, waits_spec hk⟩) n l _ w (Region.free_spec hi hf) (.inr hkl) (by simpa using hr) (.inl ⟨hw, hy⟩) hS ?_
  rw [hl, hd]; exact h
/-- The same, what it yields given as a whole. -/
theorem reg_take_y (i d n : Nat) (l' : Array Bool) {l : Array Bool} {oi : Oper} {v : Value} {ts : Array Value} {df : List Deferred} {w : World} (hik : (i == k) = false)
    (hi : ops[i]? = some oi) (hd : oi.dst = some d) (hs : Region.noSelect ops = true) (hf : Region.free md ops l i = true) (hr : (Region.ready md ops l).contains i = true) (hl : l.setIfInBounds i true = l')
    (hQ : ∀ c (a : Act) w, Q (.panic c) (a.put (some d) v) w → Q (.panic c) a w)
    (hy : YieldsIf P ops S oi v ⟨ts, df⟩) (hS : Till S T k l w)
    (h : wpAnyL P md ops Q S T k n l' ⟨ts.setIfInBounds d v, df⟩ w) : wpAnyL P md ops Q S T k (n + 1) l ⟨ts, df⟩ w := by
  refine reg_first (by simpa using hik) hi (Region.noSelect_spec hs) (by rw [hd]; exact hQ) (S0 := S) (.inl fun _ h => h) n l _ w (Region.free_spec hi hf) (.inl fun _ h => h) (by simpa using hr) hy hS ?_
  rw [hl, hd]; exact h
/-- The one operation that may come up. -/
theorem reg_one (j n : Nat) (l' : Array Bool) {l : Array Bool} {o : Oper} {a : Act} {w : World}
    (hr : Region.ready md ops l = [j]) (ho : ops[j]? = some o) (hw : Region.wanted o (yielded ops a.tmps) = true) (hl : l.setIfInBounds j true = l')
    (h : ∀ K' : Act → World → Prop, (∀ a' w', Till S T k l' w' → wpAnyL P md ops Q S T k n l' a' w' → K' a' w') → Oper.wp P o a w K' Q) :
    wpAnyL P md ops Q S T k (n + 1) l a w := by
  refine wpAnyL_all hr (by simp) fun i hi => ?_
  obtain rfl : i = j := by simpa using hi
  refine wpOp_step ho fun K' hK => ?_
  rw [if_pos hw]
  exact h K' fun a' w' hS hh => hK _ _ ⟨by rw [hl]; exact hS, by rw [hl]; exact hh⟩
/-- Two may come up: each way. -/
theorem reg_two (i j n : Nat) (li lj : Array Bool) {l : Array Bool} {oi oj : Oper} {a : Act} {w : World}
    (hr : Region.ready md ops l = [i, j]) (hoi : ops[i]? = some oi) (hoj : ops[j]? = some oj) (hwi : Region.wanted oi (yielded ops a.tmps) = true) (hwj : Region.wanted oj (yielded ops a.tmps) = true)
    (hli : l.setIfInBounds i true = li) (hlj : l.setIfInBounds j true = lj)
    (h1 : ∀ K' : Act → World → Prop, (∀ a' w', Till S T k li w' → wpAnyL P md ops Q S T k n li a' w' → K' a' w') → Oper.wp P oi a w K' Q)
    (h2 : ∀ K' : Act → World → Prop, (∀ a' w', Till S T k lj w' → wpAnyL P md ops Q S T k n lj a' w' → K' a' w') → Oper.wp P oj a w K' Q) :
    wpAnyL P md ops Q S T k (n + 1) l a w := by
  refine wpAnyL_all hr (by simp) fun m hm => ?_
  rcases (by simpa using hm : m = i ∨ m = j) with rfl | rfl
  · refine wpOp_step hoi fun K' hK => ?_
    rw [if_pos hwi]
    exact h1 K' fun a' w' hS hh => hK _ _ ⟨by rw [hli]; exact hS, by rw [hli]; exact hh⟩
  · refine wpOp_step hoj fun K' hK => ?_
    rw [if_pos hwj]
    exact h2 K' fun a' w' hS hh => hK _ _ ⟨by rw [hlj]; exact hS, by rw [hlj]; exact hh⟩
theorem Till.mk' {l : Array Bool} {w : World} (h1 : S w) (h2 : T w) : Till S T k l w := ⟨h1, fun _ => h2⟩
theorem Till.past {l : Array Bool} {w : World} (h1 : S w) (hk : l.getD k true = true) : Till S T k l w := ⟨h1, fun h => by rw [hk] at h; cases h⟩
end
end Go.Proofs.YtoahnhphfabajaaGreat
namespace Go.Proofs.YtoahnhphfabajaaGreat
set_option maxRecDepth 10000
open Go.RowKit
variable {P : Program} {ops : Array Oper} {Q : Exit → Act → World → Prop} {md : Region.Mode} {S T : World → Prop} {k : Nat}
set_option linter.unusedVariables false
/-- Three may come up: each way. -/
theorem reg_three (i0 i1 i2 n : Nat) (l0 l1 l2 : Array Bool) {l : Array Bool} {o0 o1 o2 : Oper} {a : Act} {w : World}
    (hr : Region.ready md ops l = [i0, i1, i2]) (ho0 : ops[i0]? = some o0) (ho1 : ops[i1]? = some o1) (ho2 : ops[i2]? = some o2) (hw0 : Region.wanted o0 (yielded ops a.tmps) = true) (hw1 : Region.wanted o1 (yielded ops a.tmps) = true) (hw2 : Region.wanted o2 (yielded ops a.tmps) = true)
    (hl0 : l.setIfInBounds i0 true = l0) (hl1 : l.setIfInBounds i1 true = l1) (hl2 : l.setIfInBounds i2 true = l2)
    (h0 : ∀ K' : Act → World → Prop, (∀ a' w', Till S T k l0 w' → wpAnyL P md ops Q S T k n l0 a' w' → K' a' w') → Oper.wp P o0 a w K' Q)
    (h1 : ∀ K' : Act → World → Prop, (∀ a' w', Till S T k l1 w' → wpAnyL P md ops Q S T k n l1 a' w' → K' a' w') → Oper.wp P o1 a w K' Q)
    (h2 : ∀ K' : Act → World → Prop, (∀ a' w', Till S T k l2 w' → wpAnyL P md ops Q S T k n l2 a' w' → K' a' w') → Oper.wp P o2 a w K' Q) :
    wpAnyL P md ops Q S T k (n + 1) l a w := by
  refine wpAnyL_all hr (by simp) fun m hm => ?_
  rcases (by simpa using hm : m = i0 ∨ m = i1 ∨ m = i2) with rfl | rfl | rfl
  · refine wpOp_step ho0 fun K' hK => ?_
    rw [if_pos hw0]
    exact h0 K' fun a' w' hS hh => hK _ _ ⟨by rw [hl0]; exact hS, by rw [hl0]; exact hh⟩
  · refine wpOp_step ho1 fun K' hK => ?_
    rw [if_pos hw1]
    exact h1 K' fun a' w' hS hh => hK _ _ ⟨by rw [hl1]; exact hS, by rw [hl1]; exact hh⟩
  · refine wpOp_step ho2 fun K' hK => ?_
    rw [if_pos hw2]
    exact h2 K' fun a' w' hS hh => hK _ _ ⟨by rw [hl2]; exact hS, by rw [hl2]; exact hh⟩
/-- What it yields given as a whole, where T is used: k waits for it. -/
theorem reg_take_yt (i d n : Nat) (l' : Array Bool) {l : Array Bool} {oi : Oper} {v : Value} {ts : Array Value} {df : List Deferred} {w : World} (hik : (i == k) = false)
    (hi : ops[i]? = some oi) (hd : oi.dst = some d) (hs : Region.noSelect ops = true) (hf : Region.free md ops l i = true) (hr : (Region.ready md ops l).contains i = true) (hl : l.setIfInBounds i true = l')
    (hQ : ∀ c (a : Act) w, Q (.panic c) (a.put (some d) v) w → Q (.panic c) a w)
    (hk : waits md ops k i = true) (hkl : l.getD k true = false) (hy : YieldsIf P ops (fun w => S w ∧ T w) oi v ⟨ts, df⟩) (hS : Till S T k l w)
    (h : wpAnyL P md ops Q S T k n l' ⟨ts.setIfInBounds d v, df⟩ w) : wpAnyL P md ops Q S T k (n + 1) l ⟨ts, df⟩ w := by
  refine reg_first (by simpa using hik) hi (Region.noSelect_spec hs) (by rw [hd]; exact hQ) (S0 := fun w => S w ∧ T w) (.inr ⟨fun _ h h' => ⟨h, h'⟩, waits_spec hk⟩) n l _ w (Region.free_spec hi hf) (.inr hkl) (by simpa using hr) hy hS ?_
  rw [hl, hd]; exact h
end Go.Proofs.YtoahnhphfabajaaGreat
namespace Go.Proofs.YtoahnhphfabajaaGreat
set_option maxRecDepth 10000
open Go.RowKit
variable {P : Program} {ops : Array Oper} {Q : Exit → Act → World → Prop} {md : Region.Mode} {S T : World → Prop} {k : Nat}
set_option linter.unusedVariables false
def mskL : Nat → Nat → List Bool
  | 0, _ => []
  | n + 1, x => (x % 2 == 1) :: mskL n (x / 2)
/-- Which have come up: the bits of x, n of them. -/
def msk (n x : Nat) : Array Bool := ⟨mskL n x⟩
theorem sI {α : Type} (l : List α) (i : Nat) (a : α) : l.toArray.setIfInBounds i a = (l.set i a).toArray := by simp
theorem sS {α : Type} (x : α) (xs : List α) (i : Nat) (a : α) : (x :: xs).set (i + 1) a = x :: xs.set i a := rfl
theorem sZ {α : Type} (x : α) (xs : List α) (a : α) : (x :: xs).set 0 a = a :: xs := rfl
theorem rkA (i d m : Nat) {n L m0 : Nat} {oi : Oper} {v : Value} {ts : Array Value} {df : List Deferred} {w : World} (hy : ∀ w, S w → (execOp (Act.eval ⟨ts, df⟩) oi).run P w = .ok (.value v) w) (hS : Till S T k (msk L m0) w)
    (h : wpAnyL P md ops Q S T k n (msk L m) ⟨ts.setIfInBounds d v, df⟩ w) (hik : (i == k) = false := by rfl) (hi : ops[i]? = some oi := by exact rfl) (hd : oi.dst = some d := by exact rfl) (hs : Region.noSelect ops = true := by kernel_rfl) (hf : Region.free md ops (msk L m0) i = true := by kernel_rfl) (hr : (Region.ready md ops (msk L m0)).contains i = true := by kernel_rfl) (hl : (msk L m0).setIfInBounds i true = msk L m := by kernel_rfl)
    (hQ : ∀ c (a : Act) w, Q (.panic c) (a.put (some d) v) w → Q (.panic c) a w := by exact fun _ _ _ h => h) (hw : Region.wanted oi (yielded ops ts) = true := by rfl) : wpAnyL P md ops Q S T k (n + 1) (msk L m0) ⟨ts, df⟩ w :=
  reg_take i d n _ hik hi hd hs hf hr hl hQ hw hy hS h
theorem rkT (i d m : Nat) {n L m0 : Nat} {oi : Oper} {v : Value} {ts : Array Value} {df : List Deferred} {w : World} (hy : ∀ w, (S w ∧ T w) → (execOp (Act.eval ⟨ts, df⟩) oi).run P w = .ok (.value v) w) (hS : Till S T k (msk L m0) w)
    (h : wpAnyL P md ops Q S T k n (msk L m) ⟨ts.setIfInBounds d v, df⟩ w) (hik : (i == k) = false := by rfl) (hi : ops[i]? = some oi := by exact rfl) (hd : oi.dst = some d := by exact rfl) (hs : Region.noSelect ops = true := by kernel_rfl) (hf : Region.free md ops (msk L m0) i = true := by kernel_rfl) (hr : (Region.ready md ops (msk L m0)).contains i = true := by kernel_rfl) (hl : (msk L m0).setIfInBounds i true = msk L m := by kernel_rfl)
    (hQ : ∀ c (a : Act) w, Q (.panic c) (a.put (some d) v) w → Q (.panic c) a w := by exact fun _ _ _ h => h) (hw : Region.wanted oi (yielded ops ts) = true := by rfl) (hk : waits md ops k i = true := by kernel_rfl) (hkl : (msk L m0).getD k true = false := by kernel_rfl) : wpAnyL P md ops Q S T k (n + 1) (msk L m0) ⟨ts, df⟩ w :=
  reg_take_t i d n _ hik hi hd hs hf hr hl hQ hw hk hkl hy hS h
theorem rkY (i d m : Nat) {n L m0 : Nat} {oi : Oper} {v : Value} {ts : Array Value} {df : List Deferred} {w : World} (hi : ops[i]? = some oi) (hy : YieldsIf P ops S oi v ⟨ts, df⟩) (hS : Till S T k (msk L m0) w)
    (h : wpAnyL P md ops Q S T k n (msk L m) ⟨ts.setIfInBounds d v, df⟩ w) (hik : (i == k) = false := by rfl) (hd : oi.dst = some d := by exact rfl) (hs : Region.noSelect ops = true := by kernel_rfl) (hf : Region.free md ops (msk L m0) i = true := by kernel_rfl) (hr : (Region.ready md ops (msk L m0)).contains i = true := by kernel_rfl) (hl : (msk L m0).setIfInBounds i true = msk L m := by kernel_rfl)
    (hQ : ∀ c (a : Act) w, Q (.panic c) (a.put (some d) v) w → Q (.panic c) a w := by exact fun _ _ _ h => h) : wpAnyL P md ops Q S T k (n + 1) (msk L m0) ⟨ts, df⟩ w :=
  reg_take_y i d n _ hik hi hd hs hf hr hl hQ hy hS h
theorem rkW (i d m : Nat) {n L m0 : Nat} {oi : Oper} {v : Value} {ts : Array Value} {df : List Deferred} {w : World} (hi : ops[i]? = some oi) (hy : YieldsIf P ops (fun w => S w ∧ T w) oi v ⟨ts, df⟩) (hS : Till S T k (msk L m0) w)
    (h : wpAnyL P md ops Q S T k n (msk L m) ⟨ts.setIfInBounds d v, df⟩ w) (hik : (i == k) = false := by rfl) (hd : oi.dst = some d := by exact rfl) (hs : Region.noSelect ops = true := by kernel_rfl) (hf : Region.free md ops (msk L m0) i = true := by kernel_rfl) (hr : (Region.ready md ops (msk L m0)).contains i = true := by kernel_rfl) (hl : (msk L m0).setIfInBounds i true = msk L m := by kernel_rfl)
    (hQ : ∀ c (a : Act) w, Q (.panic c) (a.put (some d) v) w → Q (.panic c) a w := by exact fun _ _ _ h => h) (hk : waits md ops k i = true := by kernel_rfl) (hkl : (msk L m0).getD k true = false := by kernel_rfl) : wpAnyL P md ops Q S T k (n + 1) (msk L m0) ⟨ts, df⟩ w :=
  reg_take_yt i d n _ hik hi hd hs hf hr hl hQ hk hkl hy hS h
theorem rk1 (j m : Nat) {n L m0 : Nat} {o : Oper} {a : Act} {w : World}
    (h : ∀ K' : Act → World → Prop, (∀ a' w', Till S T k (msk L m) w' → wpAnyL P md ops Q S T k n (msk L m) a' w' → K' a' w') → Oper.wp P o a w K' Q)
    (hr : Region.ready md ops (msk L m0) = [j] := by kernel_rfl) (ho : ops[j]? = some o := by exact rfl) (hw : Region.wanted o (yielded ops a.tmps) = true := by rfl) (hl : (msk L m0).setIfInBounds j true = msk L m := by kernel_rfl) :
    wpAnyL P md ops Q S T k (n + 1) (msk L m0) a w := reg_one j n _ hr ho hw hl h
theorem rk2 (i j mi mj : Nat) {n L m0 : Nat} {oi oj : Oper} {a : Act} {w : World}
    (h1 : ∀ K' : Act → World → Prop, (∀ a' w', Till S T k (msk L mi) w' → wpAnyL P md ops Q S T k n (msk L mi) a' w' → K' a' w') → Oper.wp P oi a w K' Q)
    (h2 : ∀ K' : Act → World → Prop, (∀ a' w', Till S T k (msk L mj) w' → wpAnyL P md ops Q S T k n (msk L mj) a' w' → K' a' w') → Oper.wp P oj a w K' Q)
    (hr : Region.ready md ops (msk L m0) = [i, j] := by kernel_rfl) (hoi : ops[i]? = some oi := by exact rfl) (hoj : ops[j]? = some oj := by exact rfl) (hwi : Region.wanted oi (yielded ops a.tmps) = true := by rfl) (hwj : Region.wanted oj (yielded ops a.tmps) = true := by rfl)
    (hli : (msk L m0).setIfInBounds i true = msk L mi := by kernel_rfl) (hlj : (msk L m0).setIfInBounds j true = msk L mj := by kernel_rfl) :
    wpAnyL P md ops Q S T k (n + 1) (msk L m0) a w := reg_two i j n _ _ hr hoi hoj hwi hwj hli hlj h1 h2
theorem rk3 (i0 i1 i2 m1 m2 m3 : Nat) {n L m0 : Nat} {o0 o1 o2 : Oper} {a : Act} {w : World}
    (h0 : ∀ K' : Act → World → Prop, (∀ a' w', Till S T k (msk L m1) w' → wpAnyL P md ops Q S T k n (msk L m1) a' w' → K' a' w') → Oper.wp P o0 a w K' Q)
    (h1 : ∀ K' : Act → World → Prop, (∀ a' w', Till S T k (msk L m2) w' → wpAnyL P md ops Q S T k n (msk L m2) a' w' → K' a' w') → Oper.wp P o1 a w K' Q)
    (h2 : ∀ K' : Act → World → Prop, (∀ a' w', Till S T k (msk L m3) w' → wpAnyL P md ops Q S T k n (msk L m3) a' w' → K' a' w') → Oper.wp P o2 a w K' Q)
    (hr : Region.ready md ops (msk L m0) = [i0, i1, i2] := by kernel_rfl) (ho0 : ops[i0]? = some o0 := by exact rfl) (ho1 : ops[i1]? = some o1 := by exact rfl) (ho2 : ops[i2]? = some o2 := by exact rfl)
    (hw0 : Region.wanted o0 (yielded ops a.tmps) = true := by rfl) (hw1 : Region.wanted o1 (yielded ops a.tmps) = true := by rfl) (hw2 : Region.wanted o2 (yielded ops a.tmps) = true := by rfl)
    (hl0 : (msk L m0).setIfInBounds i0 true = msk L m1 := by kernel_rfl) (hl1 : (msk L m0).setIfInBounds i1 true = msk L m2 := by kernel_rfl) (hl2 : (msk L m0).setIfInBounds i2 true = msk L m3 := by kernel_rfl) :
    wpAnyL P md ops Q S T k (n + 1) (msk L m0) a w := reg_three i0 i1 i2 n _ _ _ hr ho0 ho1 ho2 hw0 hw1 hw2 hl0 hl1 hl2 h0 h1 h2
theorem rk0 (S T : World → Prop) (k n : Nat) {id : Nat} {a : Act} {w : World} (h : wpAnyL P .any ops Q S T k n (msk n 0) a w.drew) (hm : P.follows .mixedOrders = true := by kernel_rfl)
    (hn : ops.size = n := by kernel_rfl) (hl : Array.replicate n false = msk n 0 := by kernel_rfl) : (Code.region id ops true).wp P Q a w := reg_begin S T k n _ hm hn hl h
theorem rkZ {L m0 n : Nat} {a : Act} {w : World} (h : Q .normal a w) (hr : Region.ready md ops (msk L m0) = [] := by kernel_rfl) : wpAnyL P md ops Q S T k n (msk L m0) a w := reg_done hr h n
theorem Till.p {L m0 : Nat} {w : World} (h1 : S w) (hk : (msk L m0).getD k true = true := by kernel_rfl) : Till S T k (msk L m0) w := .past h1 hk
end Go.Proofs.YtoahnhphfabajaaGreat
namespace Go.Proofs.YtoahnhphfabajaaGreat
set_option maxRecDepth 10000
open Go.RowKit
set_option linter.unusedVariables false
set_option linter.unusedSimpArgs false
set_option linter.unnecessarySimpa false

end Go.Proofs.YtoahnhphfabajaaGreat
namespace Go.Proofs.YtoahnhphfabajaaGreat
set_option maxRecDepth 10000
open Go.RowKit
set_option linter.unusedVariables false
set_option linter.unusedSimpArgs false
set_option linter.unnecessarySimpa false

theorem spl_whole {α : Type} (l m : List α) (h : l.length = m.length) : spl l 0 m = m := by
  apply List.ext_getElem?
  intro k
  by_cases hk : k < m.length
  · have := spl_in m l 0 k hk (by omega)
    rwa [Nat.zero_add] at this
  · rw [spl_out _ _ _ _ (by omega), List.getElem?_eq_none (by omega), List.getElem?_eq_none (by omega)]
end Go.Proofs.YtoahnhphfabajaaGreat
namespace Go.Proofs.YtoahnhphfabajaaGreat
set_option maxRecDepth 10000
open Go.RowKit
set_option linter.unusedVariables false
set_option linter.unusedSimpArgs false
set_option linter.unnecessarySimpa false

theorem Sl.drew {w : World} {B size n : Nat} {v : Value} {xs : List Value} (h : Sl w B size v n xs) : Sl w.drew B size v n xs := h.keep fun _ _ => rfl
/-- So many noughts (a plain definition, so that a walk leaves it standing). -/
def zeros (n : Nat) : List UInt8 := List.replicate n 0
theorem zeros_length (n : Nat) : (zeros n).length = n := by simp [zeros]
/-- What an owned row of bytes holds, cell by cell. -/
theorem own_cells {w : World} {base n : Nat} {e : TypeId} {v : Value} {xs : List Value} (h : w.ownsRow base e 1 v n xs) (hn : 0 < n) :
    ∃ g c, v = .slice (some ⟨g, 0, none⟩) n c ∧ n ≤ c ∧ c ≤ maxLen ∧ base ≤ g ∧ g < w.heap.size ∧ ∀ j u, xs[j]? = some u → w.cell? ⟨g, j, none⟩ = some u ∧ w.frozen? ⟨g, j, none⟩ = false := by
  rcases h.2 with ⟨_, h0⟩ | ⟨g, cap, cur, hv, hb, hh, hnc, hcm, _, _⟩
  · omega
  · refine ⟨g, cap, hv, hnc, hcm, hb, (Array.getElem?_eq_some_iff.1 hh).1, fun j u hu => ?_⟩
    have := h.cells (g := g) (by rw [hv]; rfl) j u hu
    rw [Addr.add_mid, Nat.zero_add] at this
    exact ⟨this, by simp [World.frozen?, hh]⟩
/-- 'append([]byte{}, b...)', behind the empty literal: bytes of its own. -/
theorem run_fresh_copy (w : World) {B n : Nat} {x : Value} {bs : List UInt8} (h : Sl w B 1 x n (bvs bs)) (hB : B ≤ w.heap.size) (hn : n ≤ 140737488355328) (ty : TypeId) :
    ∃ v' w', (Builtin.append_ #[129, 129] ty #[.slice (some ⟨w.heap.size, 0, none⟩) 0 0, x]).run Tryz.prog (w.alloc (.cells #[] 5)) = .ok v' w' ∧
      (w'.ownsRow w.heap.size 5 1 v' n (bvs bs) ∧ Turns [] w w') := by
  have hown : (w.alloc (.cells #[] 5)).ownsRow w.heap.size 5 1 (.slice (some ⟨w.heap.size, 0, none⟩) 0 0) 0 [] := World.ownsRow_made w #[] 0 (Nat.le_refl _) (Nat.zero_le _) (by simp)
  obtain ⟨v', w', hr, ap⟩ := run_append_rd (P := Tryz.prog) _ T8 ty hown (h.alloc hB _) (bvs_one _) (by simp only [maxLen]; omega) (by omega) (by simp)
  refine ⟨v', w', hr, by simpa using ap.own, ?_⟩
  exact Turns.trans (L' := [w.heap.size]) ((Turns.refl [] w).alloc _) (Turns.of_grown ap.grown (by intro k hk; simp [Value.ownBlock] at hk; simp [hk])) (by intro x hx; simp at hx; simp [hx])
/-- A variable of its own, into which cells are laid. -/
theorem there_var (w : World) (cs : Array Value) (t : TypeId) (n : Nat) (h : cs.size = n) : (w.alloc (.cells cs t)).there w.heap.size 0 n := by
  have := (Blk.new w cs.toList t).there 0 n (by simp [h])
  simpa using this
theorem own_var (W : World) (Z : Array Value) (t : TypeId) (cs : List Value) (hZ : Z.size = cs.length) :
    Blk ((W.alloc (.cells Z t)).setCells W.heap.size 0 cs) W.heap.size cs t ∧ Turns [] W ((W.alloc (.cells Z t)).setCells W.heap.size 0 cs) := by
  have h1 := (Blk.new W Z.toList t).setCells cs 0
  rw [spl_whole _ _ (by simp [hZ])] at h1
  exact ⟨by simpa using h1, by
    have := Turns.setCells (L := []) (a := W) (b := W.heap.size) (.inr (Nat.le_refl _)) cs 0 ((Turns.refl _ _).alloc (.cells Z t))
    exact this⟩
/-- The same, at the run: the world behind it left open. -/
theorem store_var {P : Program} (W : World) (Z : Array Value) (t : TypeId) (cs : List Value) (hZ : Z.size = cs.length) (h1 : ∀ u ∈ cs, u.oneCell' = true) :
    ∃ W', (storeCells ⟨W.heap.size, 0, none⟩ cs).run P (W.alloc (.cells Z t)) = .ok () W' ∧ Blk W' W.heap.size cs t ∧ Turns [] W W' := by
  obtain ⟨hb, ht⟩ := own_var W Z t cs hZ
  refine ⟨_, ?_, hb, ht⟩
  have th := there_var W Z t cs.length hZ
  exact run_storeCells_cells (P := P) W.heap.size 0 cs 0 (W.alloc (.cells Z t)) (fun j hj => by simpa using (th j (by simpa using hj)).1) (fun j hj => by simpa using (th j (by simpa using hj)).2) h1
/-- An append whose run is known. -/
theorem wpList_append_at {P : Program} {w w' : World} {ops : Array Oper} {rest : List Oper} {o : Oper} {a : Act} {Q : Exit → Act → World → Prop} {v' : Value} (hgd : o.guard = none) {t u : TypeId} (s x : Operand)
    (ho : o.op = .call { callee := .builtin .append, args := #[s, x], argTypes := #[t, u] }) {vs vx : Value}
    (hrun : (Builtin.append_ #[t, u] o.type #[vs, vx]).run P w = .ok v' w') (hs : a.eval s = vs) (hx : a.eval x = vx)
    (h : wpList P ops Q rest (a.put o.dst v') w') : wpList P ops Q (o :: rest) a w :=
  wpList_append w hgd s x ho (R := fun v w1 => v = v' ∧ w1 = w') ⟨v', w', hrun, rfl, rfl⟩ hs hx (by rintro _ _ ⟨rfl, rfl⟩; exact h)
end Go.Proofs.YtoahnhphfabajaaGreat
namespace Go.Proofs.YtoahnhphfabajaaGreat
set_option maxRecDepth 10000
open Go.RowKit
set_option linter.unusedVariables false

theorem wpList_load_g {P : Program} {ops : Array Oper} {rest : List Oper} {op : Oper} {a : Act} {w : World} {Q : Exit → Act → World → Prop} (hw : Region.wanted op (yielded ops a.tmps) = true) (ty : TypeId) (x : Operand) (ho : op.op = .load ty x)
    (b o : Nat) (hx : a.eval x = .pointer (some ⟨b, o, none⟩)) (cs : List Value) (d : TypeDesc) (hc : w.rangeAt b o cs)
    (hu : P.underlying ty = some d) (hd : d.isRow = true) (hi : (P.info? ty).map (·.size) = some cs.length)
    (h : wpList P ops Q rest (a.put op.dst (.agg cs.toArray)) w) : wpList P ops Q (op :: rest) a w :=
  wpList_step fun K hK => by
    simp only [hw, if_true]
    exact wp_load_mid ty x ho b o hx cs d hc hu hd hi (hK _ _ h)
end Go.Proofs.YtoahnhphfabajaaGreat
namespace Go.Proofs.YtoahnhphfabajaaGreat
set_option maxRecDepth 10000
open Go.RowKit
set_option linter.unusedVariables false
set_option linter.unusedSimpArgs false
set_option linter.unnecessarySimpa false

end Go.Proofs.YtoahnhphfabajaaGreat
namespace Go.Proofs.YtoahnhphfabajaaGreat
set_option maxRecDepth 10000
open Go.RowKit
set_option linter.unusedVariables false
set_option linter.unusedSimpArgs false
set_option linter.unnecessarySimpa false

end Go.Proofs.YtoahnhphfabajaaGreat
namespace Go.Proofs.YtoahnhphfabajaaGreat
set_option maxRecDepth 10000
open Go.RowKit
set_option linter.unusedVariables false
set_option linter.unusedSimpArgs false
set_option linter.unnecessarySimpa false

section
variable {H : Type} {enc : TypeId × Value → H} {P : Program} {w : World} {held : Bool}
end
end Go.Proofs.YtoahnhphfabajaaGreat
namespace Go.Proofs.YtoahnhphfabajaaGreat
set_option maxRecDepth 10000
open Go.RowKit
set_option linter.unusedVariables false
set_option linter.unusedSimpArgs false

/-- The blocks of S are as they were. -/
structure Keeps (S : Nat → Prop) (w w' : World) : Prop where
  size : w.heap.size ≤ w'.heap.size
  block : ∀ k, k < w.heap.size → S k → w'.heap[k]? = w.heap[k]?
theorem Turns.keeps {L : List Nat} {w w' : World} (h : Turns L w w') (S : Nat → Prop) (hS : ∀ k ∈ L, ¬ S k) : Keeps S w w' := ⟨h.size, fun k hk hs => h.block k hk (fun hm => hS k hm hs)⟩
theorem Turns.keeps0 {w w' : World} (h : Turns [] w w') (S : Nat → Prop) : Keeps S w w' := h.keeps S (by simp)

/-- A slice value of n elements, 'size' cells each, reads as the cells xs, and lies in a block of S. -/
structure SlS (w : World) (S : Nat → Prop) (size : Nat) (v : Value) (n : Nat) (xs : List Value) : Prop where
  len : xs.length = n * size
  form : ∃ A c, v = .slice A n c ∧ n ≤ c ∧ c ≤ maxLen ∧ (A = none → c = 0) ∧
    (xs ≠ [] → ∃ b off, A = some ⟨b, off, none⟩ ∧ (S b ∧ b < w.heap.size) ∧ ∀ j u, xs[j]? = some u → w.cell? ⟨b, off + j, none⟩ = some u)
section
variable {w w' : World} {S S' : Nat → Prop} {size n B : Nat} {v : Value} {xs : List Value}
theorem SlS.nil : SlS w S size (.slice none 0 0) 0 [] := ⟨by simp, none, 0, rfl, Nat.le_refl _, Nat.zero_le _, fun _ => rfl, fun h => absurd rfl h⟩
theorem SlS.keep (h : SlS w S size v n xs) (k : Keeps S w w') : SlS w' S size v n xs := by
  obtain ⟨hl, A, c, rfl, h1, h2, h3, hr⟩ := h
  refine ⟨hl, A, c, rfl, h1, h2, h3, fun hn => ?_⟩
  obtain ⟨b, off, rfl, ⟨hs, hb⟩, hc⟩ := hr hn
  refine ⟨b, off, rfl, ⟨hs, Nat.lt_of_lt_of_le hb k.size⟩, fun j u hu => ?_⟩
  rw [World.cell?_of_block (w := w) (w' := w') (k.block b hb hs)]
  exact hc j u hu
theorem SlS.mono (h : SlS w S size v n xs) (hS : ∀ k, k < w.heap.size → S k → S' k) : SlS w S' size v n xs := by
  obtain ⟨hl, A, c, rfl, h1, h2, h3, hr⟩ := h
  refine ⟨hl, A, c, rfl, h1, h2, h3, fun hn => ?_⟩
  obtain ⟨b, off, rfl, ⟨hs, hb⟩, hc⟩ := hr hn
  exact ⟨b, off, rfl, ⟨hS b hb hs, hb⟩, hc⟩
theorem SlS.sl (h : SlS w S size v n xs) : Sl w w.heap.size size v n xs := by
  obtain ⟨hl, A, c, rfl, h1, h2, h3, hr⟩ := h
  refine ⟨hl, A, c, rfl, h1, h2, h3, fun hn => ?_⟩
  obtain ⟨b, off, e, ⟨hs, hb⟩, hc⟩ := hr hn
  exact ⟨b, off, e, hb, hc⟩
theorem Sl.slS (h : Sl w B size v n xs) (hS : ∀ k, k < B → k < w.heap.size → S k) : SlS w S size v n xs := by
  obtain ⟨hl, A, c, rfl, h1, h2, h3, hr⟩ := h
  refine ⟨hl, A, c, rfl, h1, h2, h3, fun hn => ?_⟩
  obtain ⟨b, off, rfl, hb, hc⟩ := hr hn
  have hlt : b < w.heap.size := by
    have h0 : 0 < xs.length := List.length_pos_iff.2 hn
    exact World.block_lt_of_cell? w _ (hc 0 _ (List.getElem?_eq_getElem h0))
  exact ⟨b, off, rfl, ⟨hS b hb hlt, hlt⟩, hc⟩
theorem SlS.of_own {base : Nat} {e : TypeId} (h : w.ownsRow base e size v n xs) (hS : ∀ k, v.ownBlock = some k → S k) : SlS w S size v n xs := by
  obtain ⟨hl, A, c, rfl, h1, h2, h3, hr⟩ := Sl.of_own h
  refine ⟨hl, A, c, rfl, h1, h2, h3, fun hn => ?_⟩
  obtain ⟨b, off, rfl, hb, hc⟩ := hr hn
  exact ⟨b, off, rfl, ⟨hS b rfl, hb⟩, hc⟩
end

/-- A row of data that lie deep: each element's cells are those of its datum. R speaks of the cells of one. -/
def Deep {α : Type} (R : World → (Nat → Prop) → List Value → α → Prop) (w : World) (S : Nat → Prop) (size : Nat) (v : Value) (l : List α) : Prop :=
  ∃ css : List (List Value), css.length = l.length ∧ (∀ i (h : i < l.length), (css.getD i []).length = size ∧ R w S (css.getD i []) l[i]) ∧ SlS w S size v l.length css.flatten
/-- What R says lasts while the blocks of S do; and holds of a larger set. -/
structure Lasts {α : Type} (R : World → (Nat → Prop) → List Value → α → Prop) : Prop where
  keep : ∀ {w w' : World} {S : Nat → Prop} {cs : List Value} {x : α}, R w S cs x → Keeps S w w' → R w' S cs x
  mono : ∀ {w : World} {S S' : Nat → Prop} {cs : List Value} {x : α}, R w S cs x → (∀ k, k < w.heap.size → S k → S' k) → R w S' cs x
section
variable {α : Type} {R : World → (Nat → Prop) → List Value → α → Prop} {w w' : World} {S S' : Nat → Prop} {size : Nat} {v : Value} {l : List α}
theorem Deep.keep (hR : Lasts R) (h : Deep R w S size v l) (k : Keeps S w w') : Deep R w' S size v l := by
  obtain ⟨css, h1, h2, h3⟩ := h
  exact ⟨css, h1, fun i hi => ⟨(h2 i hi).1, hR.keep (h2 i hi).2 k⟩, h3.keep k⟩
theorem Deep.mono (hR : Lasts R) (h : Deep R w S size v l) (hS : ∀ k, k < w.heap.size → S k → S' k) : Deep R w S' size v l := by
  obtain ⟨css, h1, h2, h3⟩ := h
  exact ⟨css, h1, fun i hi => ⟨(h2 i hi).1, hR.mono (h2 i hi).2 hS⟩, h3.mono hS⟩
theorem Deep.nil : Deep R w S size (.slice none 0 0) [] := ⟨[], rfl, fun i hi => by simp at hi, SlS.nil⟩
end
end Go.Proofs.YtoahnhphfabajaaGreat
