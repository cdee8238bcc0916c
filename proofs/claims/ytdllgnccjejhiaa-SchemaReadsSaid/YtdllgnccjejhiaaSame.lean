/- Schemas are held against one another. -/
import Derived.Test.YtdllgnccjejhiaaFind
import Derived.Test.YtdllgnccjejhiaaSNames
import Derived.Test.YtdllgnccjejhiaaRegl
namespace Go.Proofs.Ytdllgnccjejhiaa
open Go.RowKit
set_option linter.unusedVariables false
set_option maxRecDepth 10000
set_option linter.unusedSimpArgs false
set_option linter.unnecessarySimpa false

/-- Are two columns the same; two rows of columns; two schemas? -/
def sameCol (a b : Col) : Bool := sameT a.name b.name && (decide (a.kind = b.kind) && (a.null == b.null))
def sameCols : List Col → List Col → Bool
  | [], [] => true
  | a :: l, b :: m => sameCol a b && sameCols l m
  | _, _ => false
def sameS (a b : Sch) : Bool := sameT a.name b.name && (sameCols a.cols b.cols && (decide (a.key = b.key) && (a.only == b.only)))
theorem sameCol_iff (a b : Col) : sameCol a b = true ↔ a = b := by
  cases a; cases b
  simp [sameCol, sameT]
theorem sameCols_iff : ∀ (l m : List Col), sameCols l m = true ↔ l = m
  | [], [] => by simp [sameCols]
  | a :: l, b :: m => by simp [sameCols, sameCol_iff, sameCols_iff l m]
  | [], b :: m => by simp [sameCols]
  | a :: l, [] => by simp [sameCols]
theorem sameS_iff (a b : Sch) : sameS a b = true ↔ a = b := by
  cases a; cases b
  simp [sameS, sameCols_iff, sameT]
theorem sameCols_len {l m : List Col} (h : l.length ≠ m.length) : sameCols l m = false := by
  cases hs : sameCols l m
  · rfl
  · exact absurd (congrArg List.length ((sameCols_iff l m).1 hs)) h
theorem sameCols_at {l m : List Col} (k : Nat) (h1 : k < l.length) (h2 : k < m.length) (h : sameCol l[k] m[k] = false) : sameCols l m = false := by
  cases hs : sameCols l m
  · rfl
  · exfalso
    have e := (sameCols_iff l m).1 hs
    subst e
    rw [(sameCol_iff _ _).2 rfl] at h
    cases h
theorem sameCols_all {l m : List Col} (hl : l.length = m.length) (h : ∀ (k : Nat) (h1 : k < l.length) (h2 : k < m.length), sameCol l[k] m[k] = true) : sameCols l m = true :=
  (sameCols_iff l m).2 (List.ext_getElem hl fun k h1 h2 => (sameCol_iff _ _).1 (h k h1 h2))

theorem und9s : Try.prog.underlying 9 = some .string := Try.underlying9
theorem run_neqCol (a b : Col) (x y : Operand) (w : World) : ((do eqGuard .neq 27 x y (.agg a.cells.toArray) (.agg b.cells.toArray); binOp .neq 27 (.agg a.cells.toArray) (.agg b.cells.toArray)) : Sem Value).run Try.prog w = .ok (.bool (!(sameCol a b))) w := by
  have hm : Try.prog.eqGuardType Try.prog.depth 27 = false := by kernel_rfl
  have hst : Try.prog.stoodInHeld 27 = false := by kernel_rfl
  have hu : Try.prog.underlying 27 = some (.struct (Try.prog.fieldsOf 27)) := by kernel_rfl
  have hfo : (Try.prog.fieldsOf 27) = (match Try.prog.underlying 27 with | some (.struct fs) => fs | _ => #[]) := rfl
  rw [Try.underlying27] at hfo
  rw [Sem.run_bind, run_eqGuard_agg w .neq _ x y _ _ hm, Result.andThen_ok, run_neq_struct, run_equalIn_struct w 9999 _ _ _ hu hst, hfo]
  have e1 := toList_beq a.name b.name
  obtain ⟨an, ak, ab⟩ := a
  obtain ⟨bn, bk, bb⟩ := b
  simp [go_sem, Op.eqFields, Col.cells, sameCol, e1, und9s, Try.underlying3, Try.underlying4]
  cases sameT an bn <;> by_cases h1 : ak = bk <;> cases ab <;> cases bb <;> simp [h1]
theorem yields_neqCol {ops : Array Oper} {S : World → Prop} {op : Oper} {act : Act} (hw : Region.wanted op (yielded ops act.tmps) = true) (x y : Operand) (t : TypeId) (ho : op.op = .binOp .neq 27 x y t)
    (a b : Col) (hx : act.eval x = .agg a.cells.toArray) (hy : act.eval y = .agg b.cells.toArray) : YieldsIf Try.prog ops S op (.bool (!(sameCol a b))) act :=
  .inl ⟨hw, fun w _ => by
    have h := run_neqCol a b x y w
    rw [Sem.run_bind] at h
    unfold execOp
    simp only [ho, hx, hy, Sem.run_bind, Sem.run_pure]
    rw [h]; rfl⟩
/-- The columns of a slice, one by one. -/
theorem col_range {w : World} {B n c : Nat} {A : Option Addr} {l : List Col} (hs : Sl w B 3 (.slice A n c) n (colCells l)) (k : Nat) (hk : k < l.length) :
    ∃ b off, A = some ⟨b, off, none⟩ ∧ w.rangeAt b (off + k * 3) l[k].cells := by
  obtain ⟨_, _, _, ee, _, _, _, hrd⟩ := hs
  injection ee with e1 _ e3
  subst e1
  obtain ⟨b, off, rfl, hb, hc⟩ := hrd (by intro e; have := congrArg List.length e; rw [colCells_length] at this; simp at this; omega)
  refine ⟨b, off, rfl, fun j v hj => ?_⟩
  have hj3 : j < 3 := by
    have := (List.getElem?_eq_some_iff.1 hj).1
    simpa [Col.cells] using this
  have := hc (k * 3 + j) v (by rw [colCells_get l k j hk hj3]; exact hj)
  rwa [← Nat.add_assoc] at this
theorem sl_cols {w : World} {B n : Nat} {v : Value} {l : List Col} (hs : Sl w B 3 v n (colCells l)) : n = l.length ∧ l.length ≤ 9223372036854775807 := by
  have hl := hs.1
  rw [colCells_length] at hl
  obtain ⟨_, _, _, rfl, h1, h2, _⟩ := hs
  unfold maxLen at h2
  omega

set_option maxHeartbeats 1000000 in
theorem Equal_any (A A' : Option Addr) (n c n' c' : Nat) (l m : List Col) (B : Nat) (w : World) (h1 : Sl w B 3 (.slice A n c) n (colCells l)) (h2 : Sl w B 3 (.slice A' n' c') n' (colCells m)) (hB : B ≤ w.heap.size) :
    Calls Try.prog 28 #[.slice A n c, .slice A' n' c'] w fun e w' => e = .returned (.bool (sameCols l m)) ∧ Turns [] w w' := by
  obtain ⟨rfl, hm⟩ := sl_cols h1
  obtain ⟨rfl, hm'⟩ := sl_cols h2
  by_cases hll : l.length = m.length
  · have hle : decide ((l.length : Int) = (m.length : Int)) = true := decide_eq_true (by omega)
    have hne : ((l.length : Int) != (m.length : Int)) = false := by simp; omega
    go_enter Try.func28, Try.ntmps28
    go_wp2_with fail
    go_loopw [13] (fun i wr => ∃ k : Nat, k ≤ l.length ∧ i = .int .i64 k ∧ (∀ (j : Nat) (h1 : j < l.length) (h2 : j < m.length), j < k → sameCol l[j] m[j] = true) ∧ Turns [] w wr) (fun i _ => l.length - (intOf i).toNat)
    case atStart => exact ⟨0, by omega, rfl, fun j _ _ h => absurd h (by omega), Turns.refl _ _⟩
    case round =>
      obtain ⟨k, hk, rfl, hall, ht⟩ := hrel
      by_cases hlt : k < l.length
      · have hlt' : k < m.length := by omega
        obtain ⟨b, off, rfl, rg⟩ := col_range h1 k hlt
        obtain ⟨b', off', rfl, rg'⟩ := col_range h2 k hlt'
        have hr := Lib.hid (rangeT ht rg)
        have hr' := Lib.hid (rangeT ht rg')
        have hsz : (Try.prog.info? 27).map (·.size) = some l[k].cells.length := T27i
        have hsz' : (Try.prog.info? 27).map (·.size) = some m[k].cells.length := T27i
        have hki : (k : Int) < (l.length : Int) := by omega
        have hki' : (k : Int) < (m.length : Int) := by omega
        obtain ⟨a1, ha1⟩ : ∃ a1, a1 = l[k] := ⟨_, rfl⟩
        obtain ⟨a2, ha2⟩ : ∃ a2, a2 = m[k] := ⟨_, rfl⟩
        rw [← ha1] at hr hsz
        rw [← ha2] at hr' hsz'
        have hS0 : Turns [] wr wr.drew := (Turns.refl _ _).drew
        cases hy : sameCol a1 a2
        · have hf := Lib.hid (sameCols_at k hlt hlt' (by rw [← ha1, ← ha2]; exact hy))
          clear ha1 ha2 hall h1 h2 rg rg'
          go_wp2_with fail
          refine reg_begin (fun W => Turns [] wr W) (fun _ => True) 9 9 #[false, false, false, false, false, false, false, false, false] (by kernel_rfl) (by kernel_rfl) (by kernel_rfl) ?_
          refine reg_take 0 16 8 #[true, false, false, false, false, false, false, false, false] (by rfl) (v := ?_) rfl rfl (by kernel_rfl) (by kernel_rfl) (by kernel_rfl) (by kernel_rfl) (fun _ _ _ h => h) (by rfl) ?_ (Till.mk' hS0 trivial) ?_
          rotate_left
          · intro W hS; go_simp; all_goals with_reducible rfl
          try simp only [List.setIfInBounds_toArray, List.set_cons_succ, List.set_cons_zero]
          refine reg_take 1 17 7 #[true, true, false, false, false, false, false, false, false] (by rfl) (v := ?_) rfl rfl (by kernel_rfl) (by kernel_rfl) (by kernel_rfl) (by kernel_rfl) (fun _ _ _ h => h) (by rfl) ?_ (Till.mk' hS0 trivial) ?_
          rotate_left
          · intro W hS; go_simp; all_goals with_reducible rfl
          try simp only [List.setIfInBounds_toArray, List.set_cons_succ, List.set_cons_zero]
          refine reg_take 2 18 6 #[true, true, true, false, false, false, false, false, false] (by rfl) (v := ?_) rfl rfl (by kernel_rfl) (by kernel_rfl) (by kernel_rfl) (by kernel_rfl) (fun _ _ _ h => h) (by rfl) ?_ (Till.mk' hS0 trivial) ?_
          rotate_left
          · intro W hS; go_simp; all_goals with_reducible rfl
          try simp only [List.setIfInBounds_toArray, List.set_cons_succ, List.set_cons_zero]
          refine reg_take_y 3 19 5 #[true, true, true, true, false, false, false, false, false] (by rfl) rfl rfl (by kernel_rfl) (by kernel_rfl) (by kernel_rfl) (by kernel_rfl) (fun _ _ _ h => h) (yieldsIf_load_mid (by rfl) _ _ rfl b (off + k * 3) (by rfl) _ _ (fun W hS => rangeT hS hr.out) Try.underlying27 rfl hsz) (Till.mk' hS0 trivial) ?_
          try simp only [List.setIfInBounds_toArray, List.set_cons_succ, List.set_cons_zero]
          refine reg_take 4 20 4 #[true, true, true, true, true, false, false, false, false] (by rfl) (v := ?_) rfl rfl (by kernel_rfl) (by kernel_rfl) (by kernel_rfl) (by kernel_rfl) (fun _ _ _ h => h) (by rfl) ?_ (Till.mk' hS0 trivial) ?_
          rotate_left
          · intro W hS; go_simp; all_goals with_reducible rfl
          try simp only [List.setIfInBounds_toArray, List.set_cons_succ, List.set_cons_zero]
          refine reg_take 5 21 3 #[true, true, true, true, true, true, false, false, false] (by rfl) (v := ?_) rfl rfl (by kernel_rfl) (by kernel_rfl) (by kernel_rfl) (by kernel_rfl) (fun _ _ _ h => h) (by rfl) ?_ (Till.mk' hS0 trivial) ?_
          rotate_left
          · intro W hS; go_simp; all_goals with_reducible rfl
          try simp only [List.setIfInBounds_toArray, List.set_cons_succ, List.set_cons_zero]
          refine reg_take 6 22 2 #[true, true, true, true, true, true, true, false, false] (by rfl) (v := ?_) rfl rfl (by kernel_rfl) (by kernel_rfl) (by kernel_rfl) (by kernel_rfl) (fun _ _ _ h => h) (by rfl) ?_ (Till.mk' hS0 trivial) ?_
          rotate_left
          · intro W hS; go_simp; all_goals with_reducible rfl
          try simp only [List.setIfInBounds_toArray, List.set_cons_succ, List.set_cons_zero]
          refine reg_take_y 7 23 1 #[true, true, true, true, true, true, true, true, false] (by rfl) rfl rfl (by kernel_rfl) (by kernel_rfl) (by kernel_rfl) (by kernel_rfl) (fun _ _ _ h => h) (yieldsIf_load_mid (by rfl) _ _ rfl b' (off' + k * 3) (by rfl) _ _ (fun W hS => rangeT hS hr'.out) Try.underlying27 rfl hsz') (Till.mk' hS0 trivial) ?_
          try simp only [List.setIfInBounds_toArray, List.set_cons_succ, List.set_cons_zero]
          refine reg_take_y 8 24 0 #[true, true, true, true, true, true, true, true, true] (by rfl) rfl rfl (by kernel_rfl) (by kernel_rfl) (by kernel_rfl) (by kernel_rfl) (fun _ _ _ h => h) (yields_neqCol (by rfl) _ _ _ rfl a1 a2 (by rfl) (by rfl)) (Till.mk' hS0 trivial) ?_
          try simp only [List.setIfInBounds_toArray, List.set_cons_succ, List.set_cons_zero]
          refine reg_done (by kernel_rfl) ?_ _
          rw [hy]
          have tt := ht.trans hS0 (by simp)
          go_wp2_with fail
          go_ret
          exact ⟨by rw [hf.out]; rfl, tt⟩
        · have hn' := Lib.hid (show ∀ (j : Nat) (h1 : j < l.length) (h2 : j < m.length), j < k + 1 → sameCol l[j] m[j] = true from fun j h1 h2 hlt' => by
            by_cases e : j = k
            · subst e; rw [← ha1, ← ha2]; exact hy
            · exact hall j h1 h2 (by omega))
          clear ha1 ha2 hall h1 h2 rg rg'
          go_wp2_with fail
          refine reg_begin (fun W => Turns [] wr W) (fun _ => True) 9 9 #[false, false, false, false, false, false, false, false, false] (by kernel_rfl) (by kernel_rfl) (by kernel_rfl) ?_
          refine reg_take 0 16 8 #[true, false, false, false, false, false, false, false, false] (by rfl) (v := ?_) rfl rfl (by kernel_rfl) (by kernel_rfl) (by kernel_rfl) (by kernel_rfl) (fun _ _ _ h => h) (by rfl) ?_ (Till.mk' hS0 trivial) ?_
          rotate_left
          · intro W hS; go_simp; all_goals with_reducible rfl
          try simp only [List.setIfInBounds_toArray, List.set_cons_succ, List.set_cons_zero]
          refine reg_take 1 17 7 #[true, true, false, false, false, false, false, false, false] (by rfl) (v := ?_) rfl rfl (by kernel_rfl) (by kernel_rfl) (by kernel_rfl) (by kernel_rfl) (fun _ _ _ h => h) (by rfl) ?_ (Till.mk' hS0 trivial) ?_
          rotate_left
          · intro W hS; go_simp; all_goals with_reducible rfl
          try simp only [List.setIfInBounds_toArray, List.set_cons_succ, List.set_cons_zero]
          refine reg_take 2 18 6 #[true, true, true, false, false, false, false, false, false] (by rfl) (v := ?_) rfl rfl (by kernel_rfl) (by kernel_rfl) (by kernel_rfl) (by kernel_rfl) (fun _ _ _ h => h) (by rfl) ?_ (Till.mk' hS0 trivial) ?_
          rotate_left
          · intro W hS; go_simp; all_goals with_reducible rfl
          try simp only [List.setIfInBounds_toArray, List.set_cons_succ, List.set_cons_zero]
          refine reg_take_y 3 19 5 #[true, true, true, true, false, false, false, false, false] (by rfl) rfl rfl (by kernel_rfl) (by kernel_rfl) (by kernel_rfl) (by kernel_rfl) (fun _ _ _ h => h) (yieldsIf_load_mid (by rfl) _ _ rfl b (off + k * 3) (by rfl) _ _ (fun W hS => rangeT hS hr.out) Try.underlying27 rfl hsz) (Till.mk' hS0 trivial) ?_
          try simp only [List.setIfInBounds_toArray, List.set_cons_succ, List.set_cons_zero]
          refine reg_take 4 20 4 #[true, true, true, true, true, false, false, false, false] (by rfl) (v := ?_) rfl rfl (by kernel_rfl) (by kernel_rfl) (by kernel_rfl) (by kernel_rfl) (fun _ _ _ h => h) (by rfl) ?_ (Till.mk' hS0 trivial) ?_
          rotate_left
          · intro W hS; go_simp; all_goals with_reducible rfl
          try simp only [List.setIfInBounds_toArray, List.set_cons_succ, List.set_cons_zero]
          refine reg_take 5 21 3 #[true, true, true, true, true, true, false, false, false] (by rfl) (v := ?_) rfl rfl (by kernel_rfl) (by kernel_rfl) (by kernel_rfl) (by kernel_rfl) (fun _ _ _ h => h) (by rfl) ?_ (Till.mk' hS0 trivial) ?_
          rotate_left
          · intro W hS; go_simp; all_goals with_reducible rfl
          try simp only [List.setIfInBounds_toArray, List.set_cons_succ, List.set_cons_zero]
          refine reg_take 6 22 2 #[true, true, true, true, true, true, true, false, false] (by rfl) (v := ?_) rfl rfl (by kernel_rfl) (by kernel_rfl) (by kernel_rfl) (by kernel_rfl) (fun _ _ _ h => h) (by rfl) ?_ (Till.mk' hS0 trivial) ?_
          rotate_left
          · intro W hS; go_simp; all_goals with_reducible rfl
          try simp only [List.setIfInBounds_toArray, List.set_cons_succ, List.set_cons_zero]
          refine reg_take_y 7 23 1 #[true, true, true, true, true, true, true, true, false] (by rfl) rfl rfl (by kernel_rfl) (by kernel_rfl) (by kernel_rfl) (by kernel_rfl) (fun _ _ _ h => h) (yieldsIf_load_mid (by rfl) _ _ rfl b' (off' + k * 3) (by rfl) _ _ (fun W hS => rangeT hS hr'.out) Try.underlying27 rfl hsz') (Till.mk' hS0 trivial) ?_
          try simp only [List.setIfInBounds_toArray, List.set_cons_succ, List.set_cons_zero]
          refine reg_take_y 8 24 0 #[true, true, true, true, true, true, true, true, true] (by rfl) rfl rfl (by kernel_rfl) (by kernel_rfl) (by kernel_rfl) (by kernel_rfl) (fun _ _ _ h => h) (yields_neqCol (by rfl) _ _ _ rfl a1 a2 (by rfl) (by rfl)) (Till.mk' hS0 trivial) ?_
          try simp only [List.setIfInBounds_toArray, List.set_cons_succ, List.set_cons_zero]
          refine reg_done (by kernel_rfl) ?_ _
          rw [hy]
          have tt := ht.trans hS0 (by simp)
          go_wp2_with fail
          go_roundw
          case rel => exact ⟨k + 1, by omega, by go_num, hn'.out, tt⟩
          case measure => (simp [intOf] <;> omega)
      · obtain rfl : k = l.length := by omega
        have hf := Lib.hid (sameCols_all hll (fun j h1 h2 => hall j h1 h2 h1))
        clear hall h1 h2
        go_wp2_with fail
        go_ret
        exact ⟨by rw [hf.out]; rfl, ht⟩
  · have hf := Lib.hid (sameCols_len hll)
    have hne : ((l.length : Int) != (m.length : Int)) = true := by simp; omega
    have hle : decide ((l.length : Int) = (m.length : Int)) = false := decide_eq_false (by omega)
    clear h1 h2
    go_enter Try.func28, Try.ntmps28
    go_wp2_with fail
    go_ret
    exact ⟨by rw [hf.out]; rfl, Turns.refl _ _⟩

theorem sameS_eq (a b : Sch) : sameS a b = ((a.name.toList == b.name.toList) && (sameCols a.cols b.cols && ((a.key == b.key) && (a.only == b.only)))) := by
  unfold sameS
  rw [toList_beq]
  by_cases h : a.key = b.key <;> simp [h]
set_option maxHeartbeats 1000000 in
theorem Same_any (a b : Sch) (A A' : Option Addr) (n c n' c' : Nat) (B : Nat) (w : World) (h1 : Sl w B 3 (.slice A n c) n (colCells a.cols)) (h2 : Sl w B 3 (.slice A' n' c') n' (colCells b.cols)) (hB : B ≤ w.heap.size) :
    Calls Try.prog 18 #[.agg #[.string a.name, .slice A n c, .int .i64 a.key, .bool a.only], .agg #[.string b.name, .slice A' n' c', .int .i64 b.key, .bool b.only]] w fun e w' => e = .returned (.bool (sameS a b)) ∧ Turns [] w w' := by
  have hq := sameS_eq a b
  obtain ⟨w1, hw1⟩ : ∃ w1, w1 = w.alloc (.cells #[.string a.name, .slice A n c, .int .i64 a.key, .bool a.only] 30) := ⟨_, rfl⟩
  have b1 := Blk.new w [.string a.name, .slice A n c, .int .i64 a.key, .bool a.only] 30
  have t1 := (Turns.refl [] w).alloc (.cells #[.string a.name, .slice A n c, .int .i64 a.key, .bool a.only] 30)
  rw [← hw1] at t1
  rw [show w.alloc (.cells [.string a.name, .slice A n c, .int .i64 a.key, .bool a.only].toArray 30) = w1 from hw1.symm] at b1
  obtain ⟨w2, hw2⟩ : ∃ w2, w2 = w1.alloc (.cells #[.string b.name, .slice A' n' c', .int .i64 b.key, .bool b.only] 30) := ⟨_, rfl⟩
  have b2 := Blk.new w1 [.string b.name, .slice A' n' c', .int .i64 b.key, .bool b.only] 30
  have t2 := (Turns.refl [] w1).alloc (.cells #[.string b.name, .slice A' n' c', .int .i64 b.key, .bool b.only] 30)
  rw [← hw2] at t2
  rw [show w1.alloc (.cells [.string b.name, .slice A' n' c', .int .i64 b.key, .bool b.only].toArray 30) = w2 from hw2.symm] at b2
  have t02 := t1.trans t2 (by simp)
  have b12 := b1.turns t2 (by simp)
  have s1 := t02.slice h1 hB (by simp)
  have s2 := t02.slice h2 hB (by simp)
  have EQ := Equal_any A A' n c n' c' a.cols b.cols B w2 s1 s2 (Nat.le_trans hB t02.size)
  have p0 := b12.cell 0
  have p1 := b12.cell 1
  have p2 := b12.cell 2
  have p3 := b12.cell 3
  have q0 := b2.cell 0
  have q1 := b2.cell 1
  have q2 := b2.cell 2
  have q3 := b2.cell 3
  have hz1 : w1.heap.size = w.heap.size + 1 := by rw [hw1]; simp
  rw [hz1] at q0 q1 q2 q3
  simp only [List.getElem?_cons_zero, List.getElem?_cons_succ] at p0 p1 p2 p3 q0 q1 q2 q3
  have HP := Lib.hid (And.intro p2 (And.intro p3 (And.intro q2 q3)))
  have HW := Lib.hid (And.intro hw1 hw2)
  clear b1 b2 b12 h1 h2 s1 s2 t1 t2 hz1
  generalize sameCols a.cols b.cols = sc at EQ hq
  generalize sameS a b = res at hq
  cases x1 : (a.name.toList == b.name.toList)
  · have hr : res = false := by rw [hq, x1]; rfl
    subst hr
    clear hq EQ
    go_enter Try.func18, Try.ntmps18
    go_wp2_with fail
    go_ret
    refine ⟨rfl, ?_⟩
    rw [← HW.out.1, ← HW.out.2]
    exact t02
  · rw [x1, Bool.true_and] at hq
    have HQ := Lib.hid hq
    have HE := Lib.hid EQ
    clear hq EQ
    go_enter Try.func18, Try.ntmps18
    go_wp2_with fail
    rw [← HW.out.1, ← HW.out.2]
    refine HE.out.mono ?_
    rintro e w3 ⟨rfl, t3⟩
    have t03 := t02.trans t3 (by simp)
    have p2' := cellT t3 HP.out.1
    have p3' := cellT t3 HP.out.2.1
    have q2' := cellT t3 HP.out.2.2.1
    have q3' := cellT t3 HP.out.2.2.2
    clear p0 p1 p2 p3 q0 q1 q2 q3 t02 t3 HE HW HP
    cases sc
    · have hr := Lib.hid (show res = false by rw [HQ.out]; rfl)
      clear HQ
      go_wp2_with fail
      go_ret
      exact ⟨by rw [hr.out]; rfl, t03⟩
    · cases x2 : (a.key == b.key)
      · have hr := Lib.hid (show res = false by rw [HQ.out, x2]; rfl)
        clear HQ
        go_wp2_with fail
        go_ret
        exact ⟨by rw [hr.out]; rfl, t03⟩
      · have hr := Lib.hid (show res = (a.only == b.only) by rw [HQ.out, x2]; rfl)
        clear HQ
        go_wp2_with fail
        go_ret
        exact ⟨by rw [hr.out]; rfl, t03⟩
end Go.Proofs.Ytdllgnccjejhiaa
