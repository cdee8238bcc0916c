/- What an operation on some blocks leaves as it was; a block's cells, whole. -/
import Derived.Test.YtdhbaepmbgoobaaBase
import Derived.Deep.MidRow
namespace Go.Proofs.Ytdhbaepmbgoobaa
open Go.RowKit
set_option linter.unusedVariables false
set_option maxRecDepth 10000
set_option linter.unusedSimpArgs false

/-- From w to w' no block has turned but those of L, and new ones. -/
structure Turns (L : List Nat) (w w' : World) : Prop where
  os : w'.os = w.os
  tape : w'.tape = w.tape
  output : w'.output = w.output
  size : w.heap.size ≤ w'.heap.size
  block : ∀ k, k < w.heap.size → k ∉ L → w'.heap[k]? = w.heap[k]?

theorem Turns.refl (L : List Nat) (w : World) : Turns L w w := ⟨rfl, rfl, rfl, Nat.le_refl _, fun _ _ _ => rfl⟩
/-- One behind the other: the second may turn what the first may, and what it made. -/
theorem Turns.trans {L L' : List Nat} {a b c : World} (h : Turns L a b) (k : Turns L' b c) (hL : ∀ x ∈ L', x ∈ L ∨ a.heap.size ≤ x) : Turns L a c :=
  ⟨k.os.trans h.os, k.tape.trans h.tape, k.output.trans h.output, Nat.le_trans h.size k.size, fun i hi hn => by
    rw [k.block i (Nat.lt_of_lt_of_le hi h.size) (fun hm => by rcases hL i hm with h1 | h1; exact hn h1; omega), h.block i hi hn]⟩
theorem Turns.mono {L L' : List Nat} {a b : World} (h : Turns L a b) (hL : ∀ x ∈ L, x ∈ L' ∨ a.heap.size ≤ x) : Turns L' a b :=
  ⟨h.os, h.tape, h.output, h.size, fun i hi hn => h.block i hi (fun hm => by rcases hL i hm with h1 | h1; exact hn h1; omega)⟩
theorem Turns.drew {L : List Nat} {a w : World} (h : Turns L a w) : Turns L a w.drew := ⟨h.os, h.tape, h.output, h.size, h.block⟩
theorem Turns.alloc {L : List Nat} {a w : World} (h : Turns L a w) (o : Obj) : Turns L a (w.alloc o) :=
  ⟨h.os, h.tape, h.output, by simp; exact Nat.le_succ_of_le h.size, fun i hi hn => by rw [Below.heap_alloc _ _ _ (Nat.lt_of_lt_of_le hi h.size), h.block i hi hn]⟩
theorem Turns.setCell {L : List Nat} {a w : World} (h : Turns L a w) {p : Addr} (hp : p.block ∈ L ∨ a.heap.size ≤ p.block) (u : Value) : Turns L a (w.setCell p u) :=
  ⟨h.os, h.tape, h.output, by simpa [World.setCell] using h.size, fun i hi hn => by
    rw [Below.heap_setCell _ _ _ _ (fun e => by subst e; rcases hp with h1 | h1; exact hn h1; omega), h.block i hi hn]⟩
theorem Turns.of_grown {L : List Nat} {a w : World} {row : Option Nat} (h : a.grownBy w row) (hr : ∀ k, row = some k → k ∈ L ∨ a.heap.size ≤ k) : Turns L a w :=
  ⟨h.os, h.tape, h.output, h.size, fun i hi hn => h.block i hi (fun e => by rcases hr i e.symm with h1 | h1; exact hn h1; omega)⟩
theorem Turns.of_below {L : List Nat} {a w : World} (h : Below a.heap.size a w) : Turns L a w := ⟨h.os, h.tape, h.output, h.size, fun i hi _ => h.block i hi⟩
/-- What lies ahead of all those blocks is as it was. -/
theorem Turns.below {L : List Nat} {B : Nat} {a w : World} (h : Turns L a w) (hB : B ≤ a.heap.size) (hL : ∀ x ∈ L, B ≤ x) : Below B a w :=
  ⟨h.os, h.tape, h.output, h.size, fun k hk => h.block k (by omega) (fun hm => by have := hL k hm; omega)⟩
/-- A slice value that lies in other blocks reads as it did. -/
theorem Turns.slice {L : List Nat} {a w : World} (h : Turns L a w) {B size n : Nat} {v : Value} {xs : List Value} (hs : Sl a B size v n xs) (hB : B ≤ a.heap.size) (hv : ∀ x ∈ L, v.ownBlock ≠ some x) : Sl w B size v n xs := by
  obtain ⟨hl, A, c, rfl, h1, h2, h3, hr⟩ := hs
  refine ⟨hl, A, c, rfl, h1, h2, h3, fun hn => ?_⟩
  obtain ⟨b, off, rfl, hb, hc⟩ := hr hn
  refine ⟨b, off, rfl, hb, fun j u hu => ?_⟩
  rw [World.cell?_of_block (w := a) (w' := w) (h.block b (by omega) (fun hm => hv b hm rfl))]
  exact hc j u hu

/-- A block's cells, whole. -/
def Blk (w : World) (g : Nat) (cs : List Value) (t : TypeId) : Prop := w.heap[g]? = some (.cells cs.toArray t (0, 0))
theorem Blk.lt {w : World} {g : Nat} {cs : List Value} {t : TypeId} (h : Blk w g cs t) : g < w.heap.size := (Array.getElem?_eq_some_iff.1 h).1
theorem Blk.turns {L : List Nat} {w w' : World} {g : Nat} {cs : List Value} {t : TypeId} (h : Blk w g cs t) (k : Turns L w w') (hg : g ∉ L) : Blk w' g cs t := by
  unfold Blk; rw [k.block g h.lt hg]; exact h
theorem Blk.cell {w : World} {g : Nat} {cs : List Value} {t : TypeId} (h : Blk w g cs t) (k : Nat) : w.cell? ⟨g, k, none⟩ = cs[k]? := by
  rw [cell_of_row w g k cs.toArray t (0, 0) h]; simp
theorem Blk.free {w : World} {g : Nat} {cs : List Value} {t : TypeId} (h : Blk w g cs t) (k : Nat) : w.frozen? ⟨g, k, none⟩ = false := by
  have h' : w.heap[g]? = some (.cells cs.toArray t (0, 0)) := h
  simp [World.frozen?, h']
theorem Blk.drew {w : World} {g : Nat} {cs : List Value} {t : TypeId} (h : Blk w g cs t) : Blk w.drew g cs t := h
theorem Blk.alloc {w : World} {g : Nat} {cs : List Value} {t : TypeId} (h : Blk w g cs t) (o : Obj) : Blk (w.alloc o) g cs t := by
  unfold Blk; rw [Below.heap_alloc _ _ _ h.lt]; exact h
theorem Blk.new (w : World) (cs : List Value) (t : TypeId) : Blk (w.alloc (.cells cs.toArray t)) w.heap.size cs t := by
  show (w.heap.push _)[w.heap.size]? = _
  simp
theorem Blk.set {w : World} {g : Nat} {cs : List Value} {t : TypeId} (h : Blk w g cs t) (k : Nat) (u : Value) : Blk (w.setCell ⟨g, k, none⟩ u) g (cs.set k u) t := by
  have h' : w.heap[g]? = some (.cells cs.toArray t (0, 0)) := h
  unfold Blk
  simp [World.setCell, Array.getElem?_modify, h']
theorem Blk.other {w : World} {g : Nat} {cs : List Value} {t : TypeId} (h : Blk w g cs t) {p : Addr} (hp : p.block ≠ g) (u : Value) : Blk (w.setCell p u) g cs t := by
  unfold Blk; rw [Below.heap_setCell _ _ _ _ (fun e => hp e.symm)]; exact h

/-- A list with these elements written over those from place o on. -/
def spl {α : Type} : List α → Nat → List α → List α
  | l, _, [] => l
  | l, o, v :: vs => spl (l.set o v) (o + 1) vs
theorem spl_length {α : Type} (vs : List α) : ∀ (l : List α) (o : Nat), (spl l o vs).length = l.length := by
  induction vs with
  | nil => intro l o; rfl
  | cons v vs ih => intro l o; rw [spl, ih, List.length_set]
theorem spl_map {α β : Type} (f : α → β) (vs : List α) : ∀ (l : List α) (o : Nat), (spl l o vs).map f = spl (l.map f) o (vs.map f) := by
  induction vs with
  | nil => intro l o; rfl
  | cons v vs ih => intro l o; rw [spl, ih, List.map_set]; rfl
theorem spl_out {α : Type} (vs : List α) : ∀ (l : List α) (o k : Nat), k < o ∨ o + vs.length ≤ k → (spl l o vs)[k]? = l[k]? := by
  induction vs with
  | nil => intro l o k h; rfl
  | cons v vs ih =>
    intro l o k h
    simp only [List.length_cons] at h
    rw [spl, ih _ _ _ (by omega), List.getElem?_set_ne (by omega)]
theorem spl_in {α : Type} (vs : List α) : ∀ (l : List α) (o k : Nat), k < vs.length → o + vs.length ≤ l.length → (spl l o vs)[o + k]? = vs[k]? := by
  induction vs with
  | nil => intro l o k h; simp at h
  | cons v vs ih =>
    intro l o k h hl
    simp only [List.length_cons] at h hl
    rw [spl]
    cases k with
    | zero => rw [spl_out _ _ _ _ (by omega), Nat.add_zero, List.getElem?_set_self (by omega)]; rfl
    | succ k => rw [show o + (k + 1) = o + 1 + k by omega, ih _ _ _ (by omega) (by rw [List.length_set]; omega)]; rfl
theorem Blk.setCells {g : Nat} {t : TypeId} (vs : List Value) : ∀ {w : World} {cs : List Value} (o : Nat), Blk w g cs t → Blk (w.setCells g o vs) g (spl cs o vs) t := by
  induction vs with
  | nil => intro w cs o h; exact h
  | cons v vs ih => intro w cs o h; exact ih (o + 1) (h.set o v)
theorem Blk.otherCells {g b : Nat} {t : TypeId} (hb : b ≠ g) (vs : List Value) : ∀ {w : World} {cs : List Value} (o : Nat), Blk w g cs t → Blk (w.setCells b o vs) g cs t := by
  induction vs with
  | nil => intro w cs o h; exact h
  | cons v vs ih => intro w cs o h; exact ih (o + 1) (h.other (p := ⟨b, o, none⟩) hb v)
theorem Turns.setCells {L : List Nat} {a : World} {b : Nat} (hb : b ∈ L ∨ a.heap.size ≤ b) (vs : List Value) : ∀ {w : World} (o : Nat), Turns L a w → Turns L a (w.setCells b o vs) := by
  induction vs with
  | nil => intro w o h; exact h
  | cons v vs ih => intro w o h; exact ih (o + 1) (h.setCell (p := ⟨b, o, none⟩) hb v)
/-- A part of a block, for the laws on whole arrays in the midst of one. -/
theorem Blk.range {w : World} {g : Nat} {cs : List Value} {t : TypeId} (h : Blk w g cs t) (o n : Nat) : w.rangeAt g o ((cs.drop o).take n) := fun j v hv => by
  rw [h.cell]
  rw [List.getElem?_take] at hv
  split at hv
  · rw [List.getElem?_drop] at hv; exact hv
  · cases hv
theorem Blk.there {w : World} {g : Nat} {cs : List Value} {t : TypeId} (h : Blk w g cs t) (o n : Nat) (hn : o + n ≤ cs.length) : w.there g o n := fun j hj => by
  refine ⟨?_, h.free _⟩
  rw [h.cell, List.getElem?_eq_getElem (by omega)]; rfl
end Go.Proofs.Ytdhbaepmbgoobaa
