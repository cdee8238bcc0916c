/- Blocks compared; rows of steps laid behind one another; what a longer history keeps. -/
import Derived.Test.YtoahnhphfabajaaRc5
namespace Go.Proofs.Ytoahnhphfabajaa
open Go.RowKit
set_option linter.unusedVariables false
set_option maxRecDepth 10000
set_option linter.unusedSimpArgs false
set_option linter.unnecessarySimpa false

theorem eqF (d : Nat) (xs : Array Value) : ∀ (fs : List Field), (∀ f ∈ fs, ∃ v, (∀ W, (part f.type xs f.offset).run Try.prog W = .ok v W) ∧ ∀ W, (Op.equalIn d f.type v v).run Try.prog W = .ok true W) → ∀ W, (Op.eqFields d xs xs fs).run Try.prog W = .ok true W
  | [], _, W => by simp [Op.eqFields]
  | f :: fs, h, W => by
    obtain ⟨v, h1, h2⟩ := h f (by simp)
    have ih := eqF d xs fs (fun g hg => h g (by simp [hg])) W
    simp only [Op.eqFields, Sem.run_ite]
    split
    · simp only [Sem.run_bind, h1, h2, Result.andThen_ok, Sem.run_ite, Bool.not_true, Bool.false_eq_true, if_false]
      exact ih
    · exact ih
theorem blo_fields : (Try.prog.fieldsOf 28).toList.map (fun f => (f.type, f.offset)) = [(3, 0), (26, 1), (26, 33), (3, 65)] := by kernel_rfl
set_option maxRecDepth 100000 in
theorem blo_field (b : Blo) (h : b.ok) : (∀ W, (part 3 b.cells.toArray 0).run Try.prog W = .ok (.int .i64 b.n) W) ∧ (∀ W, (part 26 b.cells.toArray 1).run Try.prog W = .ok (.agg (bvs b.prev).toArray) W) ∧ (∀ W, (part 26 b.cells.toArray 33).run Try.prog W = .ok (.agg (bvs b.root).toArray) W) ∧ (∀ W, (part 3 b.cells.toArray 65).run Try.prog W = .ok (.int .i64 b.cnt) W) := by
  obtain ⟨n, pv, rt, cn⟩ := b
  match pv, h.prev, rt, h.root with
  | [a0, a1, a2, a3, a4, a5, a6, a7, a8, a9, a10, a11, a12, a13, a14, a15, a16, a17, a18, a19, a20, a21, a22, a23, a24, a25, a26, a27, a28, a29, a30, a31], _, [b0, b1, b2, b3, b4, b5, b6, b7, b8, b9, b10, b11, b12, b13, b14, b15, b16, b17, b18, b19, b20, b21, b22, b23, b24, b25, b26, b27, b28, b29, b30, b31], _ =>
    exact ⟨fun W => by kernel_rfl, fun W => by kernel_rfl, fun W => by kernel_rfl, fun W => by kernel_rfl⟩
/-- A block is the same as itself. -/
theorem eqlBlo (b : Blo) (h : b.ok) : ∀ w, (Op.equalIn 10000 28 (.agg b.cells.toArray) (.agg b.cells.toArray)).run Try.prog w = .ok true w := fun w => by
  rw [run_equalIn_struct w 9999 28 _ _ (by kernel_rfl) (by kernel_rfl)]
  refine eqF 9999 _ _ (fun f hf => ?_) w
  have hm := List.mem_map_of_mem (f := fun f : Field => (f.type, f.offset)) hf
  rw [blo_fields] at hm
  simp only [List.mem_cons, Prod.mk.injEq, List.not_mem_nil, or_false] at hm
  obtain ⟨p1, p2, p3, p4⟩ := blo_field b h
  rcases hm with ⟨e1, e2⟩ | ⟨e1, e2⟩ | ⟨e1, e2⟩ | ⟨e1, e2⟩ <;> rw [e1, e2]
  · exact ⟨_, p1, fun W => by rw [run_equalIn_int W 9998 3 .i64 .i64 _ _ (by kernel_rfl), beq_self_eq_true]⟩
  · exact ⟨_, p2, fun W => by have := run_equalIn_bytes W 9997 26 5 32 und_hash und_u8 sz_u8 b.prev b.prev h.prev h.prev; rw [beq_self_eq_true] at this; exact this⟩
  · exact ⟨_, p3, fun W => by have := run_equalIn_bytes W 9997 26 5 32 und_hash und_u8 sz_u8 b.root b.root h.root h.root; rw [beq_self_eq_true] at this; exact this⟩
  · exact ⟨_, p4, fun W => by rw [run_equalIn_int W 9998 3 .i64 .i64 _ _ (by kernel_rfl), beq_self_eq_true]⟩

theorem TStp : SliceTy Try.prog 47 70 (.agg #[.int .i64 0, .int .i64 0, .string ⟨#[]⟩, .slice none 0 0]) 4 56 := ⟨Try.underlying47, by kernel_rfl, by kernel_rfl, by omega⟩
/-- Two deep rows, one behind the other. -/
theorem deep_cat {α : Type} {R : World → (Nat → Prop) → List Value → α → Prop} {w : World} {S : Nat → Prop} {size : Nat} {v : Value} {l m : List α} {c1 c2 : List (List Value)} (g1 : c1.length = l.length) (s1 : ∀ c ∈ c1, c.length = size) (r1 : ∀ i (h : i < l.length) (h' : i < c1.length), R w S c1[i] l[i])
    (g2 : c2.length = m.length) (s2 : ∀ c ∈ c2, c.length = size) (r2 : ∀ i (h : i < m.length) (h' : i < c2.length), R w S c2[i] m[i]) (hs : SlS w S size v (l.length + m.length) (c1.flatten ++ c2.flatten)) : Deep R w S size v (l ++ m) := by
  refine Deep.mk' (css := c1 ++ c2) (by simp [g1, g2]) (fun c hc => ?_) (fun i hi hi' => ?_) (by rw [List.length_append, List.flatten_append]; exact hs)
  · rcases List.mem_append.1 hc with hc | hc
    · exact s1 c hc
    · exact s2 c hc
  · by_cases hil : i < l.length
    · rw [List.getElem_append_left (by omega), List.getElem_append_left hil]
      exact r1 i hil (by omega)
    · rw [List.getElem_append_right (by omega), List.getElem_append_right (by omega)]
      simp only [g1]
      have h1 : i - l.length < m.length := by simp at hi; omega
      exact r2 (i - l.length) h1 (by omega)
theorem stp_ones {w : World} {S : Nat → Prop} {l : List Stp} {css : List (List Value)} (g1 : css.length = l.length) (r1 : ∀ i (h : i < l.length) (h' : i < css.length), StpR w S css[i] l[i]) : ∀ u ∈ css.flatten, u.oneCell' = true := by
  intro u hu
  obtain ⟨c, hc, hu⟩ := List.mem_flatten.1 hu
  obtain ⟨i, hi, rfl⟩ := List.mem_iff_getElem.1 hc
  obtain ⟨rv, e, hs⟩ := r1 i (by omega) hi
  obtain ⟨A, cc, rfl, _⟩ := hs.form'
  rw [e] at hu
  simp at hu
  rcases hu with rfl | rfl | rfl | rfl <;> rfl

/-- A longer history keeps the blocks and their transactions. -/
theorem addLed_pre2 (L : Led) (c : List Chg) : ∃ t u, (addLed L c).blks = L.blks ++ t ∧ (addLed L c).txs = L.txs ++ u := by
  unfold addLed
  split
  · exact ⟨_, _, rfl, rfl⟩
  · exact ⟨[], [], by simp [pushL], by simp [pushL]⟩
theorem stepL_pre2 (L : Led) (s : Stp) : ∃ t u, (stepL L s).blks = L.blks ++ t ∧ (stepL L s).txs = L.txs ++ u := by
  unfold stepL
  split
  · split
    · exact ⟨[], [], by simp, by simp⟩
    · exact ⟨_, _, rfl, rfl⟩
  · exact addLed_pre2 L _
theorem foldL_pre2 : ∀ (m : List Stp) (L : Led), ∃ t u, (m.foldl stepL L).blks = L.blks ++ t ∧ (m.foldl stepL L).txs = L.txs ++ u
  | [], L => ⟨[], [], by simp, by simp⟩
  | s :: m, L => by
    obtain ⟨t, u, h1, h2⟩ := stepL_pre2 L s
    obtain ⟨t', u', h3, h4⟩ := foldL_pre2 m (stepL L s)
    exact ⟨t ++ t', u ++ u', by rw [List.foldl_cons, h3, h1, List.append_assoc], by rw [List.foldl_cons, h4, h2, List.append_assoc]⟩
theorem bldL_app (l m : List Stp) : (∀ (a : Nat) (bl : Blo), (bldL l).blks[a]? = some bl → (bldL (l ++ m)).blks[a]? = some bl) ∧ ∀ (a : Nat) (xs : List Txn), (bldL l).txs[a]? = some xs → (bldL (l ++ m)).txs[a]? = some xs := by
  obtain ⟨t, u, h1, h2⟩ := foldL_pre2 m (bldL l)
  have e : bldL (l ++ m) = m.foldl stepL (bldL l) := by unfold bldL; rw [List.foldl_append]
  rw [e, h1, h2]
  exact ⟨fun a bl h => by rw [List.getElem?_append_left (List.getElem?_eq_some_iff.1 h).1]; exact h, fun a xs h => by rw [List.getElem?_append_left (List.getElem?_eq_some_iff.1 h).1]; exact h⟩
end Go.Proofs.Ytoahnhphfabajaa
