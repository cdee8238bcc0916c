/- A disk beside other blocks that are kept (X): the operations' contracts, where the disk lies left open. -/
import Derived.Test.YtdhbaepmbgoobaaDiskC
import Derived.Test.YtdhbaepmbgoobaaDiskT
import Derived.Test.YtdhbaepmbgoobaaDiskR
import Derived.Test.YtdhbaepmbgoobaaPats
namespace Go.Proofs.Ytdhbaepmbgoobaa
open Go.RowKit
set_option linter.unusedVariables false
set_option maxRecDepth 10000
set_option linter.unusedSimpArgs false
set_option linter.unnecessarySimpa false

/-- A new disk of so many pages. -/
def fresh (p : Nat) : DS := ⟨0, false, List.replicate (p * 64) 0, List.replicate (p * 64) 0, []⟩

structure At (w0 w : World) (B g p : Nat) (st : DS) (X : List Nat) : Prop where
  ex : ∃ D : DL, D.g = g ∧ DiskIs w B D p st ∧ ∀ x ∈ X, x ∉ D.all
  bel : Below w0.heap.size w0 w
  low : w0.heap.size ≤ B
  side : ∀ x ∈ X, w0.heap.size ≤ x ∧ x < w.heap.size
/-- The kept blocks are as they were. -/
def Same (X : List Nat) (w w' : World) : Prop := ∀ x ∈ X, w'.heap[x]? = w.heap[x]?

theorem Same.blk {X : List Nat} {w w' : World} (h : Same X w w') {x : Nat} (hx : x ∈ X) {cs : List Value} {t : TypeId} (b : Blk w x cs t) : Blk w' x cs t := by
  unfold Blk at *; rw [h x hx]; exact b
theorem Same.cell {X : List Nat} {w w' : World} (h : Same X w w') {x o : Nat} (hx : x ∈ X) : w'.cell? ⟨x, o, none⟩ = w.cell? ⟨x, o, none⟩ := World.cell?_of_block (h x hx)

section
variable {w0 w w' : World} {B g p : Nat} {st st' : DS} {X : List Nat}
theorem At.alloc (h : At w0 w B g p st X) (o : Obj) : At w0 (w.alloc o) B g p st (w.heap.size :: X) := by
  obtain ⟨D, hg, hd, hx⟩ := h.ex
  refine ⟨⟨D, hg, hd.turns ((Turns.refl [] w).alloc o) (by simp), fun x hm => ?_⟩, h.bel.alloc h.bel.size o, h.low, fun x hm => ?_⟩
  · rcases List.mem_cons.1 hm with rfl | hm
    · intro hm; have := hd.lt _ hm; omega
    · exact hx x hm
  · rcases List.mem_cons.1 hm with rfl | hm
    · exact ⟨h.bel.size, by simp⟩
    · have := h.side x hm; exact ⟨this.1, by simp; omega⟩
theorem At.turn {L : List Nat} (h : At w0 w B g p st X) (t : Turns L w w') (hL : ∀ x ∈ L, x ∈ X) : At w0 w' B g p st X := by
  obtain ⟨D, hg, hd, hx⟩ := h.ex
  exact ⟨⟨D, hg, hd.turns t (fun x hm => hx x (hL x hm)), hx⟩, h.bel.trans (t.below h.bel.size (fun x hm => (h.side x (hL x hm)).1)), h.low, fun x hm => ⟨(h.side x hm).1, Nat.lt_of_lt_of_le (h.side x hm).2 t.size⟩⟩
theorem At.drew (h : At w0 w B g p st X) : At w0 w.drew B g p st X := h.turn (L := []) (Turns.refl _ _).drew (by simp)
/-- A block that is new is kept, too. -/
theorem At.more' {L : List Nat} (h : At w0 w B g p st X) (t : Turns L w w') (hL : ∀ x ∈ L, x ∈ X) {x : Nat} (h1 : w.heap.size ≤ x) (h2 : x < w'.heap.size) : At w0 w' B g p st (x :: X) := by
  have k := h.turn t hL
  obtain ⟨D, hg, hd, hx⟩ := h.ex
  refine ⟨⟨D, hg, hd.turns t (fun x hm => hx x (hL x hm)), fun y hm => ?_⟩, k.bel, k.low, fun y hm => ?_⟩
  · rcases List.mem_cons.1 hm with rfl | hm
    · intro hm; have := hd.lt _ hm; omega
    · exact hx y hm
  · rcases List.mem_cons.1 hm with rfl | hm
    · exact ⟨Nat.le_trans h.bel.size h1, h2⟩
    · exact k.side y hm
theorem At.more (h : At w0 w B g p st X) (t : Turns [] w w') {x : Nat} (h1 : w.heap.size ≤ x) (h2 : x < w'.heap.size) : At w0 w' B g p st (x :: X) := h.more' t (by simp) h1 h2
theorem At.sub (h : At w0 w B g p st X) {Y : List Nat} (hY : ∀ x ∈ Y, x ∈ X) : At w0 w B g p st Y := by
  obtain ⟨D, hg, hd, hx⟩ := h.ex
  exact ⟨⟨D, hg, hd, fun x hm => hx x (hY x hm)⟩, h.bel, h.low, fun x hm => h.side x (hY x hm)⟩
theorem At.did {D D' : DL} (h : At w0 w B g p st X) (hg : D.g = g) (hx : ∀ x ∈ X, x ∉ D.all) (hd : DiskIs w B D p st) (k : DiskDid w B D p st' w' D') : At w0 w' B g p st' X ∧ Same X w w' := by
  have hl := hd.lowAll
  refine ⟨⟨⟨D', k.same.1.trans hg, k.is, fun x hm hm' => ?_⟩, h.bel.trans (k.turns.below h.bel.size (fun x hm => Nat.le_trans h.low (hl x hm))), h.low, fun x hm => ⟨(h.side x hm).1, Nat.lt_of_lt_of_le (h.side x hm).2 k.turns.size⟩⟩, fun x hm => k.turns.block x (h.side x hm).2 (hx x hm)⟩
  rcases k.fresh x hm' with h1 | h1
  · exact hx x hm h1
  · have := (h.side x hm).2; omega
theorem At.pages (h : At w0 w B g p st X) : 2 ≤ p ∧ p ≤ 4096 := by obtain ⟨D, _, hd, _⟩ := h.ex; exact hd.pages
theorem At.lens (h : At w0 w B g p st X) : st.synced.length = p * 64 ∧ st.now.length = p * 64 := by obtain ⟨D, _, hd, _⟩ := h.ex; exact ⟨hd.lenS, hd.lenN⟩
theorem At.left0 (h : At w0 w B g p st X) : 0 ≤ st.left ∧ st.left ≤ 9223372036854775807 := by obtain ⟨D, _, hd, _⟩ := h.ex; exact hd.left0
end

/-- What an operation that answers with a number leaves. -/
def Done (w0 w : World) (B g p : Nat) (st : DS) (X : List Nat) (c : Int) (e : Ending) (w' : World) : Prop := e = .returned (.int .i64 c) ∧ At w0 w' B g p st X ∧ Same X w w'

section
variable {w0 w : World} {B g p : Nat} {st : DS} {X : List Nat}
theorem New_at (p : Nat) (h2 : 2 ≤ p) (hp : p ≤ 4096) (hb : Below w0.heap.size w0 w) :
    Calls Try.prog 12 #[.int .i64 p] w fun e w' => ∃ B g, e = .returned (.tuple #[.pointer (some ⟨g, 0, none⟩), .int .i64 0]) ∧ At w0 w' B g p (fresh p) [] ∧ Below w.heap.size w w' :=
  (DNew_any p h2 hp w).mono fun e w' ⟨D, he, hd, hbel⟩ => ⟨_, D.g, he, ⟨⟨D, rfl, hd, by simp⟩, hb.trans (hbel.mono hb.size), hb.size, by simp⟩, hbel⟩
theorem Write_at (h : At w0 w B g p st X) (n : Nat) (v : Value) (l : Nat) (bs : List UInt8) (hb : Sl w w.heap.size 1 v l (bvs bs)) (hn : n < p) (hl : bs.length ≤ 64) (hd : st.dead = false) (hwl : st.writes.length ≤ 1000000) :
    Calls Try.prog 17 #[.pointer (some ⟨g, 0, none⟩), .int .i64 n, v] w (Done w0 w B g p (st.wrote n (pageOf bs)) X st.code) := by
  obtain ⟨D, rfl, hd', hx⟩ := h.ex
  refine (Write_any w B D p n st v l bs hd' hb hn hl hd hwl).mono fun e w' hq => ?_
  obtain ⟨D', he, hk⟩ := hq
  exact ⟨he, h.did rfl hx hd' hk⟩
theorem Write_no (h : At w0 w B g p st X) (n : Int) (l : Nat) (A : Option Addr) (c : Nat) (hl : l ≤ 9223372036854775807) (hc : st.checked p n l ≠ 0) :
    Calls Try.prog 17 #[.pointer (some ⟨g, 0, none⟩), .int .i64 n, .slice A l c] w fun e w' => e = .returned (.int .i64 (st.checked p n l)) ∧ w = w' := by
  obtain ⟨D, rfl, hd', hx⟩ := h.ex
  exact Write_bad w B D p n l A c st hd' hl hc
theorem Sync_at (h : At w0 w B g p st X) :
    Calls Try.prog 36 #[.pointer (some ⟨g, 0, none⟩)] w (Done w0 w B g p st.sync X st.syncCode) := by
  obtain ⟨D, rfl, hd', hx⟩ := h.ex
  refine (Sync_any w B D p st hd').mono fun e w' hq => ?_
  obtain ⟨D', he, hk⟩ := hq
  exact ⟨he, h.did rfl hx hd' hk⟩
theorem Crash_at (h : At w0 w B g p st X) (A : Option Addr) (c : Nat) (l : List Int) (hf : st.fine p) (hwl : st.writes.length ≤ 1000000)
    (hs : Sl w w.heap.size 1 (.slice A l.length c) l.length (l.map (Value.int .i64))) (hi : ∀ z ∈ l, -9223372036854775808 ≤ z ∧ z ≤ 9223372036854775807) (hA : l ≠ [] → ∀ a, A = some a → a.block ∈ X ∨ a.block < w0.heap.size) :
    Calls Try.prog 23 #[.pointer (some ⟨g, 0, none⟩), .slice A l.length c] w fun e w' => e = .returned (.tuple #[]) ∧ At w0 w' B g p (st.crash l) X ∧ Same X w w' := by
  obtain ⟨D, rfl, hd', hx⟩ := h.ex
  refine (Crash_any w B D p st A c l hd' hf hwl hs hi (fun hne x hm he => ?_)).mono fun e w' ⟨he, hk⟩ => ⟨he, h.did rfl hx hd' hk⟩
  cases A with
  | none => simp [Value.ownBlock] at he
  | some a =>
    simp only [Value.ownBlock, Option.some.injEq] at he
    subst he
    rcases hA hne a rfl with h1 | h1
    · exact hx _ h1 hm
    · have := hd'.lowAll _ hm; have := h.low; omega
theorem Read_at (h : At w0 w B g p st X) (n : Nat) (hn : n < p) (hd : st.dead = false) :
    Calls Try.prog 43 #[.pointer (some ⟨g, 0, none⟩), .int .i64 n] w fun e w' => ∃ x c, e = .returned (.tuple #[.slice (some ⟨x, 0, none⟩) 64 c, .int .i64 0]) ∧
      Sl w' w'.heap.size 1 (.slice (some ⟨x, 0, none⟩) 64 c) 64 (bvs (pageAt st.now n)) ∧ 64 ≤ c ∧ c ≤ maxLen ∧ (∀ (j : Nat) (b : UInt8), (pageAt st.now n)[j]? = some b → w'.cell? ⟨x, j, none⟩ = some (.int .u8 (b.toNat : Int)) ∧ w'.frozen? ⟨x, j, none⟩ = false) ∧
      At w0 w' B g p st (x :: X) ∧ Same X w w' := by
  obtain ⟨D, rfl, hd', hx⟩ := h.ex
  refine (Read_any w B D p n st hd' hn hd).mono fun e w' ⟨v', he, own, bel⟩ => ?_
  obtain ⟨x, c, rfl, h1, h2, h3, h4, hc⟩ := own_cells own (by omega)
  exact ⟨x, c, he, Sl.of_own own, h1, h2, fun j b hb => hc j (.int .u8 (b.toNat : Int)) (by simp [bvs, hb, u8v]), h.more (Turns.of_below bel) h3 h4, fun y hy => bel.block y (h.side y hy).2⟩
theorem Read_no (h : At w0 w B g p st X) (n : Int) (hc : st.checked p n 0 ≠ 0) :
    Calls Try.prog 43 #[.pointer (some ⟨g, 0, none⟩), .int .i64 n] w fun e w' => e = .returned (.tuple #[.slice none 0 0, .int .i64 (st.checked p n 0)]) ∧ w = w' := by
  obtain ⟨D, rfl, hd', hx⟩ := h.ex
  exact Read_bad w B D p n st hd' hc
theorem Dead_at (h : At w0 w B g p st X) :
    Calls Try.prog 61 #[.pointer (some ⟨g, 0, none⟩)] w fun e w' => e = .returned (.bool st.dead) ∧ w = w' := by
  obtain ⟨D, rfl, hd', hx⟩ := h.ex
  exact DiskDead_any w B D p st hd'
theorem Pages_at (h : At w0 w B g p st X) :
    Calls Try.prog 31 #[.pointer (some ⟨g, 0, none⟩)] w fun e w' => e = .returned (.int .i64 p) ∧ w = w' := by
  obtain ⟨D, rfl, hd', hx⟩ := h.ex
  exact Pages_any w B D p st hd'
theorem Tamper_at (h : At w0 w B g p st X) (n a : Nat) (v : Value) (bs : List UInt8) (hb : Sl w w.heap.size 1 v bs.length (bvs bs)) (hv : ∀ x, v.ownBlock = some x → x ∈ X ∨ x < w0.heap.size) (hn : n < p) (ha : a ≤ 64) (hl : bs.length ≤ 64 - a) :
    Calls Try.prog 24 #[.pointer (some ⟨g, 0, none⟩), .int .i64 n, .int .i64 a, v] w fun e w' => e = .returned (.bool true) ∧ At w0 w' B g p (st.tamper n a bs) X ∧ Same X w w' := by
  obtain ⟨D, rfl, hd', hx⟩ := h.ex
  refine (Tamper_ok w B D p n a st v bs hd' hb (fun x hm he => ?_) hn ha hl).mono fun e w' ⟨he, hk⟩ => ⟨he, h.did rfl hx hd' hk⟩
  rcases hv x he with h1 | h1
  · exact hx _ h1 hm
  · have := hd'.lowAll _ hm; have := h.low; omega
theorem Tamper_no (h : At w0 w B g p st X) (l : Nat) (n a : Int) (A : Option Addr) (c : Nat) (hl : l ≤ 9223372036854775807) (hno : ¬ tamperOk p n a l) :
    Calls Try.prog 24 #[.pointer (some ⟨g, 0, none⟩), .int .i64 n, .int .i64 a, .slice A l c] w fun e w' => e = .returned (.bool false) ∧ w = w' := by
  obtain ⟨D, rfl, hd', hx⟩ := h.ex
  exact Tamper_bad w B D p l n a A c st hd' hl hno
/-- The power is told when to go. -/
def DS.stop (st : DS) (n : Int) : DS := ⟨max n 0, st.dead, st.synced, st.now, st.writes⟩
theorem Stop_at (h : At w0 w B g p st X) (n : Int) (hn : n ≤ 9223372036854775807) :
    Calls Try.prog 22 #[.pointer (some ⟨g, 0, none⟩), .int .i64 n] w fun e w' => e = .returned (.tuple #[]) ∧ At w0 w' B g p (st.stop n) X ∧ Same X w w' := by
  obtain ⟨D, rfl, hd', hx⟩ := h.ex
  refine (Stop_any D.g st.left n _ w hd'.head).mono fun e w' ⟨he, hb, ht⟩ => ⟨he, h.did rfl hx hd' (power_did (L := max n 0) (d := st.dead) hd' hb ht (by omega))⟩
end
/-- The kept blocks: what a slice value in one of them, or ahead of all, holds. -/
theorem At.arg {w0 w : World} {B g p n : Nat} {st : DS} {X : List Nat} {v : Value} {xs : List Value} {size : Nat} (h : At w0 w B g p st X) (hs : Sl w0 w0.heap.size size v n xs) : Sl w w.heap.size size v n xs := (hs.below h.bel).more h.bel.size
/-- A slice in a kept block reads as it did. -/
theorem sl_same {X : List Nat} {w w' : World} {x o n c m size : Nat} {xs : List Value} (h : Sl w w.heap.size size (.slice (some ⟨x, o, none⟩) n c) m xs) (sm : Same X w w') (hx : x ∈ X) : Sl w' w'.heap.size size (.slice (some ⟨x, o, none⟩) n c) m xs := by
  obtain ⟨hl, A, c', he, h1, h2, h3, hr⟩ := h
  refine ⟨hl, A, c', he, h1, h2, h3, fun hn => ?_⟩
  obtain ⟨b, off, rfl, hb, hc⟩ := hr hn
  injection he with e1 e2 e3
  injection e1 with e1
  injection e1 with e1 e4 e5
  subst e1 e4
  have hh := sm x hx
  refine ⟨x, o, rfl, ?_, fun j u hu => (World.cell?_of_block hh).trans (hc j u hu)⟩
  rcases Nat.lt_or_ge x w'.heap.size with h | h
  · exact h
  · rw [Array.getElem?_eq_none h, Array.getElem?_eq_getElem hb] at hh
    cases hh
end Go.Proofs.Ytdhbaepmbgoobaa
