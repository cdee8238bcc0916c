/- A disk, as it lies in memory, and its small operations. -/
import Derived.Test.YtdhbaepmbgoobaaStep
import Derived.Test.YtdhbaepmbgoobaaLib
namespace Go.Proofs.Ytdhbaepmbgoobaa
open Go.RowKit
set_option linter.unusedVariables false
set_option maxRecDepth 10000
set_option linter.unusedSimpArgs false
set_option linter.unnecessarySimpa false

/-- A disk's state: when the power goes, whether it is gone, the pages' bytes as they were synced, as they are, the Writes between. -/
structure DS where
  left : Int
  dead : Bool
  synced : List UInt8
  now : List UInt8
  writes : List (Nat × List UInt8)
/-- Where it lies: the disk, its pages as synced, as they are; the slice of its Writes. -/
structure DL where
  g : Nat
  s : Nat
  m : Nat
  v : Value
def DL.all (D : DL) : List Nat := D.g :: D.s :: D.m :: D.v.ownBlock.toList
def flatW (ws : List (Nat × List UInt8)) : List Value := ws.flatMap fun x => Value.int .i64 x.1 :: bvs x.2
def DL.head (D : DL) (p : Nat) (st : DS) : List Value := [.int .i64 st.left, .int .u32 (dflag st.dead), .slice (some ⟨D.s, 0, none⟩) p p, .slice (some ⟨D.m, 0, none⟩) p p, D.v]
structure DiskIs (w : World) (B : Nat) (D : DL) (p : Nat) (st : DS) : Prop where
  head : Blk w D.g (D.head p st) 66
  syn : Blk w D.s (bvs st.synced) 99
  now : Blk w D.m (bvs st.now) 99
  own : w.ownsRow B 101 65 D.v st.writes.length (flatW st.writes)
  lenS : st.synced.length = p * 64
  lenN : st.now.length = p * 64
  left0 : 0 ≤ st.left ∧ st.left ≤ 9223372036854775807
  pages : 2 ≤ p ∧ p ≤ 4096
  ap1 : D.g ≠ D.s ∧ D.g ≠ D.m ∧ D.s ≠ D.m
  ap2 : D.v.ownBlock ≠ some D.g ∧ D.v.ownBlock ≠ some D.s ∧ D.v.ownBlock ≠ some D.m
  low : B ≤ D.g ∧ B ≤ D.s ∧ B ≤ D.m
/-- What an operation leaves: the disk, in its new state, at the same place but for its Writes; nothing else has turned. -/
structure DiskDid (w : World) (B : Nat) (D : DL) (p : Nat) (st : DS) (w' : World) (D' : DL) : Prop where
  is : DiskIs w' B D' p st
  same : D'.g = D.g ∧ D'.s = D.s ∧ D'.m = D.m
  turns : Turns D.all w w'
  fresh : ∀ x ∈ D'.all, x ∈ D.all ∨ w.heap.size ≤ x

theorem DiskIs.lt {w : World} {B : Nat} {D : DL} {p : Nat} {st : DS} (h : DiskIs w B D p st) : ∀ x ∈ D.all, x < w.heap.size := by
  intro x hx
  simp only [DL.all, List.mem_cons] at hx
  rcases hx with rfl | rfl | rfl | hx
  · exact h.head.lt
  · exact h.syn.lt
  · exact h.now.lt
  · exact (h.own.lt x (by simpa using hx)).2
theorem DiskIs.lowAll {w : World} {B : Nat} {D : DL} {p : Nat} {st : DS} (h : DiskIs w B D p st) : ∀ x ∈ D.all, B ≤ x := by
  intro x hx
  simp only [DL.all, List.mem_cons] at hx
  rcases hx with rfl | rfl | rfl | hx
  · exact h.low.1
  · exact h.low.2.1
  · exact h.low.2.2
  · rcases h.own.2 with ⟨hv, _⟩ | ⟨g, cap, cur, hv, hb, _⟩
    · rw [hv] at hx; simp [Value.ownBlock] at hx
    · rw [hv] at hx; simp [Value.ownBlock] at hx; omega
/-- Where other blocks turn the disk stands. -/
theorem DiskIs.turns {w w' : World} {B : Nat} {D : DL} {p : Nat} {st : DS} {L : List Nat} (h : DiskIs w B D p st) (t : Turns L w w') (hL : ∀ x ∈ L, x ∉ D.all) : DiskIs w' B D p st :=
  ⟨h.head.turns t (fun hm => hL _ hm (by simp [DL.all])), h.syn.turns t (fun hm => hL _ hm (by simp [DL.all])), h.now.turns t (fun hm => hL _ hm (by simp [DL.all])),
    by
      obtain ⟨h1, h2⟩ := h.own
      refine ⟨h1, ?_⟩
      rcases h2 with h2 | ⟨g, cap, cur, hv, hg, hh, r⟩
      · exact Or.inl h2
      · refine Or.inr ⟨g, cap, cur, hv, hg, ?_, r⟩
        rw [t.block g (Array.getElem?_eq_some_iff.1 hh).1 (fun hm => hL _ hm (by simp [DL.all, hv, Value.ownBlock]))]
        exact hh,
    h.lenS, h.lenN, h.left0, h.pages, h.ap1, h.ap2, h.low⟩
theorem DiskIs.did {w : World} {B : Nat} {D : DL} {p : Nat} {st : DS} (h : DiskIs w B D p st) : DiskDid w B D p st w D := ⟨h, ⟨rfl, rfl, rfl⟩, Turns.refl _ _, fun _ hx => .inl hx⟩

theorem DiskDead_any (w : World) (B : Nat) (D : DL) (p : Nat) (st : DS) (h : DiskIs w B D p st) :
    Calls Try.prog 61 #[.pointer (some ⟨D.g, 0, none⟩)] w fun e w' => e = .returned (.bool st.dead) ∧ w = w' :=
  Dead_any D.g st.dead w (h.head.cell 1)

theorem Pages_any (w : World) (B : Nat) (D : DL) (p : Nat) (st : DS) (h : DiskIs w B D p st) :
    Calls Try.prog 31 #[.pointer (some ⟨D.g, 0, none⟩)] w fun e w' => e = .returned (.int .i64 p) ∧ w = w' := by
  have c3 : w.cell? ⟨D.g, 3, none⟩ = some (.slice (some ⟨D.m, 0, none⟩) p p) := h.head.cell 3
  clear h
  go_enter Try.func31, Try.ntmps31
  go_wp2_with fail
  go_ret
  exact ⟨rfl, rfl⟩

/-- What is wrong with a page's number, or with how many bytes it is to have. -/
def DS.checked (st : DS) (p : Nat) (n size : Int) : Int := if st.dead then 15 else if n < 0 ∨ (p : Int) ≤ n ∨ 64 < size then 1 else 0

set_option maxHeartbeats 1000000 in
theorem checked_any (w : World) (B : Nat) (D : DL) (p : Nat) (st : DS) (n size : Int) (h : DiskIs w B D p st) :
    Calls Try.prog 38 #[.pointer (some ⟨D.g, 0, none⟩), .int .i64 n, .int .i64 size] w fun e w' => e = .returned (.int .i64 (st.checked p n size)) ∧ w = w' := by
  have c3 : w.cell? ⟨D.g, 3, none⟩ = some (.slice (some ⟨D.m, 0, none⟩) p p) := h.head.cell 3
  have Dd := Lib.hid (DiskDead_any w B D p st h)
  clear h
  unfold DS.checked
  by_cases hd : st.dead = true
  · rw [if_pos hd]
    rw [hd] at Dd
    go_enter Try.func38, Try.ntmps38
    go_wp2_with fail
    refine Dd.out.mono ?_
    rintro e' ww ⟨rfl, rfl⟩
    go_wp2_with fail
    go_ret
    exact ⟨rfl, rfl⟩
  · have hd' : st.dead = false := by simpa using hd
    rw [if_neg hd]
    rw [hd'] at Dd
    clear hd hd'
    by_cases h1 : n < 0
    · rw [if_pos (.inl h1)]
      go_enter Try.func38, Try.ntmps38
      go_wp2_with fail
      refine Dd.out.mono ?_
      rintro e' ww ⟨rfl, rfl⟩
      go_wp2_with fail
      go_ret
      exact ⟨rfl, rfl⟩
    by_cases h2 : (p : Int) ≤ n
    · rw [if_pos (.inr (.inl h2))]
      go_enter Try.func38, Try.ntmps38
      go_wp2_with fail
      refine Dd.out.mono ?_
      rintro e' ww ⟨rfl, rfl⟩
      go_wp2_with fail
      go_ret
      exact ⟨rfl, rfl⟩
    by_cases h3 : 64 < size
    · rw [if_pos (.inr (.inr h3))]
      go_enter Try.func38, Try.ntmps38
      go_wp2_with fail
      refine Dd.out.mono ?_
      rintro e' ww ⟨rfl, rfl⟩
      go_wp2_with fail
      go_ret
      exact ⟨rfl, rfl⟩
    · rw [if_neg (by omega)]
      go_enter Try.func38, Try.ntmps38
      go_wp2_with fail
      refine Dd.out.mono ?_
      rintro e' ww ⟨rfl, rfl⟩
      go_wp2_with fail
      go_ret
      exact ⟨rfl, rfl⟩
end Go.Proofs.Ytdhbaepmbgoobaa
