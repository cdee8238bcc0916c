/- Patterns of Go texts over bytes: make, an own copy, what a row holds. -/
import Derived.Test.YtdhbaepmbgoobaaLib
import Derived.Test.YtdhbaepmbgoobaaTurns
import Derived.Test.YtdhbaepmbgoobaaCopyB
namespace Go.Proofs.Ytdhbaepmbgoobaa
open Go.RowKit
set_option linter.unusedVariables false
set_option maxRecDepth 10000
set_option linter.unusedSimpArgs false
set_option linter.unnecessarySimpa false

theorem Sl.drew {w : World} {B size n : Nat} {v : Value} {xs : List Value} (h : Sl w B size v n xs) : Sl w.drew B size v n xs := h.keep fun _ _ => rfl
/-- So many noughts (a plain definition, so that a walk leaves it standing). -/
def zeros (n : Nat) : List UInt8 := List.replicate n 0
theorem zeros_length (n : Nat) : (zeros n).length = n := by simp [zeros]
theorem madeCells_zeros (n : Nat) : madeCells #[Value.int .u8 0] n = (bvs (zeros n)).toArray := by
  apply Array.ext'
  apply List.ext_getElem?
  intro i
  by_cases h : i < n
  · simp [madeCells, zeros, bvs, u8v, List.getElem?_replicate, h, Nat.mod_one]
  · simp [madeCells, zeros, bvs, u8v, List.getElem?_replicate, h]
theorem run_make_u8 (n : Nat) (hn : n ≤ 140737488355328) (w : World) : (Instr.makeSlice 34 (.int .i64 (n : Int)) (.int .i64 (n : Int))).run Try.prog w = .ok (.slice (some ⟨w.heap.size, 0, none⟩) n n) (w.alloc (.cells (bvs (zeros n)).toArray 5)) := by
  obtain ⟨i, hi, hz, hsz, hby⟩ := info_parts T8.info
  have hr := run_make (P := Try.prog) w _ _ i _ T8.und hi hz .i64 .i64 n n (by omega) (by omega) (by rw [hby]; omega) (by omega)
  simp only [Int.toNat_natCast] at hr
  rw [hr, hsz, Nat.mul_one]
  show Result.ok _ (w.alloc (.cells (madeCells #[Value.int .u8 0] n) _)) = _
  rw [madeCells_zeros]
theorem run_make64 (w : World) : (Instr.makeSlice 34 (.int .i64 64) (.int .i64 64)).run Try.prog w = .ok (.slice (some ⟨w.heap.size, 0, none⟩) 64 64) (w.alloc (.cells (bvs (zeros 64)).toArray 5)) := run_make_u8 64 (by omega) w
/-- What an owned row of bytes holds, cell by cell. -/
theorem own_cells {w : World} {base n : Nat} {e : TypeId} {v : Value} {xs : List Value} (h : w.ownsRow base e 1 v n xs) (hn : 0 < n) :
    ∃ g c, v = .slice (some ⟨g, 0, none⟩) n c ∧ n ≤ c ∧ c ≤ maxLen ∧ base ≤ g ∧ g < w.heap.size ∧ ∀ j u, xs[j]? = some u → w.cell? ⟨g, j, none⟩ = some u ∧ w.frozen? ⟨g, j, none⟩ = false := by
  rcases h.2 with ⟨_, h0⟩ | ⟨g, cap, cur, hv, hb, hh, hnc, hcm, _, _⟩
  · omega
  · refine ⟨g, cap, hv, hnc, hcm, hb, (Array.getElem?_eq_some_iff.1 hh).1, fun j u hu => ?_⟩
    have := h.cells (g := g) (by rw [hv]; rfl) j u hu
    rw [Addr.add_mid, Nat.zero_add] at this
    exact ⟨this, by simp [World.frozen?, hh]⟩
/-- 'append([]byte{}, b...)', behind the empty literal: bytes of its own. -/
theorem run_fresh_copy (w : World) {B n : Nat} {x : Value} {bs : List UInt8} (h : Sl w B 1 x n (bvs bs)) (hB : B ≤ w.heap.size) (hn : n ≤ 140737488355328) (ty : TypeId) :
    ∃ v' w', (Builtin.append_ #[34, 34] ty #[.slice (some ⟨w.heap.size, 0, none⟩) 0 0, x]).run Try.prog (w.alloc (.cells #[] 5)) = .ok v' w' ∧
      (w'.ownsRow w.heap.size 5 1 v' n (bvs bs) ∧ Turns [] w w') := by
  have hown : (w.alloc (.cells #[] 5)).ownsRow w.heap.size 5 1 (.slice (some ⟨w.heap.size, 0, none⟩) 0 0) 0 [] := World.ownsRow_made w #[] 0 (Nat.le_refl _) (Nat.zero_le _) (by simp)
  obtain ⟨v', w', hr, ap⟩ := run_append_rd (P := Try.prog) _ T8 ty hown (h.alloc hB _) (bvs_one _) (by simp only [maxLen]; omega) (by omega) (by simp)
  refine ⟨v', w', hr, by simpa using ap.own, ?_⟩
  exact Turns.trans (L' := [w.heap.size]) ((Turns.refl [] w).alloc _) (Turns.of_grown ap.grown (by intro k hk; simp [Value.ownBlock] at hk; simp [hk])) (by intro x hx; simp at hx; simp [hx])
/-- A variable of its own, into which cells are laid. -/
theorem there_var (w : World) (cs : Array Value) (t : TypeId) (n : Nat) (h : cs.size = n) : (w.alloc (.cells cs t)).there w.heap.size 0 n := by
  have := (Blk.new w cs.toList t).there 0 n (by simp [h])
  simpa using this
theorem own_var (W : World) (Z : Array Value) (t : TypeId) (cs : List Value) (hZ : Z.size = cs.length) :
    Blk ((W.alloc (.cells Z t)).setCells W.heap.size 0 cs) W.heap.size cs t ∧ Turns [] W ((W.alloc (.cells Z t)).setCells W.heap.size 0 cs) := by
  have h1 := (Blk.new W Z.toList t).setCells cs 0
  rw [spl_whole _ _ (by simp [hZ])] at h1
  exact ⟨by simpa using h1, by
    have := Turns.setCells (L := []) (a := W) (b := W.heap.size) (.inr (Nat.le_refl _)) cs 0 ((Turns.refl _ _).alloc (.cells Z t))
    exact this⟩
/-- The same, at the run: the world behind it left open. -/
theorem store_var {P : Program} (W : World) (Z : Array Value) (t : TypeId) (cs : List Value) (hZ : Z.size = cs.length) (h1 : ∀ u ∈ cs, u.oneCell' = true) :
    ∃ W', (storeCells ⟨W.heap.size, 0, none⟩ cs).run P (W.alloc (.cells Z t)) = .ok () W' ∧ Blk W' W.heap.size cs t ∧ Turns [] W W' := by
  obtain ⟨hb, ht⟩ := own_var W Z t cs hZ
  refine ⟨_, ?_, hb, ht⟩
  have th := there_var W Z t cs.length hZ
  exact run_storeCells_cells (P := P) W.heap.size 0 cs 0 (W.alloc (.cells Z t)) (fun j hj => by simpa using (th j (by simpa using hj)).1) (fun j hj => by simpa using (th j (by simpa using hj)).2) h1
/-- An append whose run is known. -/
theorem wpList_append_at {P : Program} {w w' : World} {ops : Array Oper} {rest : List Oper} {o : Oper} {a : Act} {Q : Exit → Act → World → Prop} {v' : Value} (hgd : o.guard = none) {t u : TypeId} (s x : Operand)
    (ho : o.op = .call { callee := .builtin .append, args := #[s, x], argTypes := #[t, u] }) {vs vx : Value}
    (hrun : (Builtin.append_ #[t, u] o.type #[vs, vx]).run P w = .ok v' w') (hs : a.eval s = vs) (hx : a.eval x = vx)
    (h : wpList P ops Q rest (a.put o.dst v') w') : wpList P ops Q (o :: rest) a w :=
  wpList_append w hgd s x ho (R := fun v w1 => v = v' ∧ w1 = w') ⟨v', w', hrun, rfl, rfl⟩ hs hx (by rintro _ _ ⟨rfl, rfl⟩; exact h)
end Go.Proofs.Ytdhbaepmbgoobaa
