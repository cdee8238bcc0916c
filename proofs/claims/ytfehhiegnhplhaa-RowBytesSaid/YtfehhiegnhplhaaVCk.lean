/- What is wrong with a value: code's Check, the document's. -/
import Derived.Test.YtfehhiegnhplhaaVW
import Derived.Test.YtfehhiegnhplhaaVRts
import Derived.Test.YtfehhiegnhplhaaRegl
import Derived.Laws.StructEq
namespace Go.Proofs.Ytfehhiegnhplhaa
open Go.RowKit
set_option linter.unusedVariables false
set_option maxRecDepth 10000
set_option linter.unusedSimpArgs false
set_option linter.unnecessarySimpa false

def Val.bare (v : Val) : Val := if v.kind = 3 then ⟨3, 0, v.s⟩ else if v.kind = 1 ∨ v.kind = 2 then ⟨v.kind, v.n, ⟨#[]⟩⟩ else ⟨v.kind, 0, ⟨#[]⟩⟩
def eqV (a b : Val) : Bool := a.kind == b.kind && (a.n == b.n && a.s.toList == b.s.toList)
theorem ba_list {a b : ByteArray} (h : a.toList = b.toList) : a = b := by
  rw [ByteArray.toList_eq, ByteArray.toList_eq] at h
  obtain ⟨⟨x⟩⟩ := a
  obtain ⟨⟨y⟩⟩ := b
  simp at h
  rw [h]
theorem eqV_iff (a b : Val) : eqV a b = true ↔ a = b := by
  obtain ⟨k, n, s⟩ := a
  obtain ⟨k', n', s'⟩ := b
  unfold eqV
  simp only [Bool.and_eq_true, beq_iff_eq]
  constructor
  · rintro ⟨rfl, rfl, h⟩
    rw [ba_list h]
  · intro h
    injection h with h1 h2 h3
    subst h1 h2 h3
    exact ⟨rfl, rfl, rfl⟩
theorem none_beq (s : ByteArray) : (s.toList == (⟨#[]⟩ : ByteArray).toList) = (s.size == 0) := by
  rw [Bool.eq_iff_iff]
  simp only [beq_iff_eq]
  exact ⟨fun h => by rw [ba_list h]; rfl, fun h => by rw [ba_none h]⟩
theorem odd_bare (v : Val) (h : 0 ≤ v.kind ∧ v.kind ≤ 3) : v.odd = (!(eqV v v.bare) || (v.kind == 1 && v.n != 0 && v.n != 1)) := by
  obtain ⟨k, n, s⟩ := v
  simp only at h
  have hz := none_beq s
  have hc : k = 0 ∨ k = 1 ∨ k = 2 ∨ k = 3 := by omega
  have hnz : ∀ x : Nat, (x != 0) = !(x == 0) := fun x => rfl
  have hiz : ∀ x y : Int, (x != y) = !(x == y) := fun x y => rfl
  unfold Val.odd eqV Val.bare
  simp only [hnz, hiz]
  rcases hc with rfl | rfl | rfl | rfl
  · rw [if_neg (by omega), if_neg (by omega)]
    simp only [hz]
    cases s.size == 0 <;> cases (n == 0) <;> rfl
  · rw [if_neg (by omega), if_pos (by omega)]
    simp only [hz]
    cases s.size == 0 <;> cases (n == 0) <;> simp
  · rw [if_neg (by omega), if_pos (by omega)]
    simp only [hz]
    cases s.size == 0 <;> cases (n == 0) <;> simp
  · rw [if_pos rfl]
    cases s.size == 0 <;> cases (n == 0) <;> simp
theorem undStr : Try.prog.underlying 9 = some .string := Try.underlying9
theorem eqlV (a b : Val) : ∀ w, (Op.equalIn 10000 28 (.agg #[.int .i64 a.kind, .int .i64 a.n, .string a.s]) (.agg #[.int .i64 b.kind, .int .i64 b.n, .string b.s])).run Try.prog w = .ok (eqV a b) w := by
  intro w
  have hst : Try.prog.stoodInHeld 28 = false := by kernel_rfl
  have hu : Try.prog.underlying 28 = some (.struct (Try.prog.fieldsOf 28)) := by kernel_rfl
  have hfo : (Try.prog.fieldsOf 28) = (match Try.prog.underlying 28 with | some (.struct fs) => fs | _ => #[]) := rfl
  rw [Try.underlying28] at hfo
  rw [run_equalIn_struct w 9999 _ _ _ hu hst, hfo]
  obtain ⟨an, ak, ab⟩ := a
  obtain ⟨bn, bk, bb⟩ := b
  simp [go_sem, Op.eqFields, eqV, undStr, Try.underlying3]
  by_cases h1 : an = bn <;> by_cases h2 : ak = bk <;> by_cases h3 : ab.toList = bb.toList <;> simp [h1, h2, h3]
theorem run_neqV (a b : Val) (x y : Operand) (w : World) : ((do eqGuard .neq 28 x y (.agg #[.int .i64 a.kind, .int .i64 a.n, .string a.s]) (.agg #[.int .i64 b.kind, .int .i64 b.n, .string b.s]); binOp .neq 28 (.agg #[.int .i64 a.kind, .int .i64 a.n, .string a.s]) (.agg #[.int .i64 b.kind, .int .i64 b.n, .string b.s])) : Sem Value).run Try.prog w = .ok (.bool (!(eqV a b))) w := by
  have hm : Try.prog.eqGuardType Try.prog.depth 28 = false := by kernel_rfl
  rw [Sem.run_bind, run_eqGuard_agg w .neq _ x y _ _ hm, Result.andThen_ok, run_neq_struct, eqlV a b w]
  rfl
theorem yields_neqV {ops : Array Oper} {S : World → Prop} {op : Oper} {act : Act} (hw : Region.wanted op (yielded ops act.tmps) = true) (x y : Operand) (t : TypeId) (ho : op.op = .binOp .neq 28 x y t)
    (a b : Val) (hx : act.eval x = .agg #[.int .i64 a.kind, .int .i64 a.n, .string a.s]) (hy : act.eval y = .agg #[.int .i64 b.kind, .int .i64 b.n, .string b.s]) : YieldsIf Try.prog ops S op (.bool (!(eqV a b))) act :=
  .inl ⟨hw, fun w _ => by
    have h := run_neqV a b x y w
    rw [Sem.run_bind] at h
    unfold execOp
    simp only [ho, hx, hy, Sem.run_bind, Sem.run_pure]
    rw [h]; rfl⟩

theorem blk_mid (w : World) (o : Obj) (cs : List Value) (t : TypeId) (o2 : Obj) : Blk (((w.alloc o).alloc (.cells cs.toArray t)).alloc o2) (w.heap.size + 1) cs t := by
  have h := (Blk.new (w.alloc o) cs t).alloc o2
  have e : (w.alloc o).heap.size = w.heap.size + 1 := by simp
  rwa [e] at h
set_option maxRecDepth 100000 in
set_option maxHeartbeats 2000000 in
theorem bare_any (v : Val) (w : World) : Calls Try.prog 47 #[.agg #[.int .i64 v.kind, .int .i64 v.n, .string v.s]] w fun e w' => e = .returned (.agg #[.int .i64 v.bare.kind, .int .i64 v.bare.n, .string v.bare.s]) ∧ Turns [] w w' := by
  obtain ⟨k, n, s⟩ := v
  have zV := zero_val
  by_cases h3 : k = 3
  · subst h3
    have hb := Lib.hid (show Val.bare ⟨3, n, s⟩ = ⟨3, 0, s⟩ from rfl)
    go_enter Try.func47, Try.ntmps47
    go_wp2_with fail
    refine bodyPost_ret (results_cell_row rfl _ _ (w.heap.size + 1) _ _ _ _ rfl (blk_mid w _ ([.int .i64 3, .int .i64 0, .string s] : List Value) _ _) Try.underlying28 rfl (by kernel_rfl)) rfl ?_
    rw [hb.out]
    exact ⟨rfl, (((Turns.refl [] w).alloc _).alloc _).alloc _⟩
  have e3 : (k == 3) = false := by simpa using h3
  by_cases h1 : k = 1
  · subst h1
    have hb := Lib.hid (show Val.bare ⟨1, n, s⟩ = ⟨1, n, ⟨#[]⟩⟩ from rfl)
    go_enter Try.func47, Try.ntmps47
    go_wp2_with fail
    refine bodyPost_ret (results_cell_row rfl _ _ (w.heap.size + 1) _ _ _ _ rfl (blk_mid w _ ([.int .i64 1, .int .i64 n, .string ⟨#[]⟩] : List Value) _ _) Try.underlying28 rfl (by kernel_rfl)) rfl ?_
    rw [hb.out]
    exact ⟨rfl, (((Turns.refl [] w).alloc _).alloc _).alloc _⟩
  have e1 : (k == 1) = false := by simpa using h1
  by_cases h2 : k = 2
  · subst h2
    have hb := Lib.hid (show Val.bare ⟨2, n, s⟩ = ⟨2, n, ⟨#[]⟩⟩ from rfl)
    go_enter Try.func47, Try.ntmps47
    go_wp2_with fail
    refine bodyPost_ret (results_cell_row rfl _ _ (w.heap.size + 1) _ _ _ _ rfl (blk_mid w _ ([.int .i64 2, .int .i64 n, .string ⟨#[]⟩] : List Value) _ _) Try.underlying28 rfl (by kernel_rfl)) rfl ?_
    rw [hb.out]
    exact ⟨rfl, (((Turns.refl [] w).alloc _).alloc _).alloc _⟩
  have e2 : (k == 2) = false := by simpa using h2
  have hb := Lib.hid (show Val.bare ⟨k, n, s⟩ = ⟨k, 0, ⟨#[]⟩⟩ by unfold Val.bare; simp [h1, h2, h3])
  go_enter Try.func47, Try.ntmps47
  go_wp2_with fail
  refine bodyPost_ret (results_cell_row rfl _ _ (w.heap.size + 1) _ _ _ _ rfl (blk_mid w _ ([.int .i64 k, .int .i64 0, .string ⟨#[]⟩] : List Value) _ _) Try.underlying28 rfl (by kernel_rfl)) rfl ?_
  rw [hb.out]
  exact ⟨rfl, (((Turns.refl [] w).alloc _).alloc _).alloc _⟩
end Go.Proofs.Ytfehhiegnhplhaa
