/- The writers, code's and the document's, in one form: a row of the caller's own, W0 the world where it began. -/
import Derived.Test.YtdllgnccjejhiaaRef1
import Derived.Test.YtdllgnccjejhiaaTurns
import Derived.Test.YtdllgnccjejhiaaShape
namespace Go.Proofs.Ytdllgnccjejhiaa
open Go.RowKit
set_option linter.unusedVariables false
set_option maxRecDepth 10000
set_option linter.unusedSimpArgs false
set_option linter.unnecessarySimpa false

/-- A row of one's own, made behind W0, that holds these bytes. -/
structure Mine (W0 w : World) (v : Value) (bs : List UInt8) : Prop where
  own : w.ownsRow W0.heap.size 5 1 v bs.length (bvs bs)
  turns : Turns [] W0 w
theorem Mine.nil {W0 w : World} (t : Turns [] W0 w) : Mine W0 w (.slice none 0 0) [] := ⟨World.ownsRow_nil _ _ _ _, t⟩
theorem Mine.sl {W0 w : World} {v : Value} {bs : List UInt8} (h : Mine W0 w v bs) : Sl w w.heap.size 1 v bs.length (bvs bs) := Sl.of_own h.own
theorem Mine.drew {W0 w : World} {v : Value} {bs : List UInt8} (h : Mine W0 w v bs) : Mine W0 w.drew v bs := ⟨h.own.drew, h.turns.drew⟩
theorem Mine.alloc {W0 w : World} {v : Value} {bs : List UInt8} (h : Mine W0 w v bs) (o : Obj) : Mine W0 (w.alloc o) v bs := ⟨h.own.alloc o, h.turns.alloc o⟩
theorem Mine.on {W0 w w' : World} {v : Value} {bs : List UInt8} (h : Mine W0 w v bs) (t : Turns [] w w') : Mine W0 w' v bs := by
  refine ⟨?_, h.turns.trans t (by simp)⟩
  obtain ⟨h1, h2⟩ := h.own
  refine ⟨h1, ?_⟩
  rcases h2 with h2 | ⟨g, cap, cur, hv, hg, hh, r⟩
  · exact Or.inl h2
  · refine Or.inr ⟨g, cap, cur, hv, hg, ?_, r⟩
    rw [t.block g (Array.getElem?_eq_some_iff.1 hh).1 (by simp)]
    exact hh
theorem mine_new {W0 w w' : World} {v : Value} {n : Nat} {bs : List UInt8} (t : Turns [] W0 w) (own : w'.ownsRow w.heap.size 5 1 v n (bvs bs)) (hb : Below w.heap.size w w') : Mine W0 w' v bs := by
  have hl := own.1
  rw [bvs_length, Nat.mul_one] at hl
  subst hl
  exact ⟨own_more own t.size, t.trans (Turns.of_below (L := []) hb) (by simp)⟩
theorem mine_apd {W0 w w' : World} {v v' : Value} {n m : Nat} {bs cs : List UInt8} (h : Mine W0 w v bs) (ap : Apd W0.heap.size 5 1 w v n (bvs bs) w' v' m (bvs cs)) : Mine W0 w' v' cs := by
  have hl := ap.own.1
  rw [bvs_length, Nat.mul_one] at hl
  subst hl
  refine ⟨ap.own, ?_⟩
  exact h.turns.trans (L' := v.ownBlock.toList) (Turns.of_grown ap.grown (by intro k hk; exact .inl (by simpa using hk))) (by intro x hx; exact .inr (h.own.lt x (by simpa using hx)).1)

theorem CInt {W0 w : World} {v : Value} {bs : List UInt8} (n : Int) (h : Mine W0 w v bs) (hm : bs.length ≤ 1000000000) :
    Calls Try.prog 32 #[v, .int .i64 n] w fun e w' => ∃ v', e = .returned v' ∧ Mine W0 w' v' (bs ++ le8 n) ∧ Turns [] w w' :=
  (Int_any v bs.length bs n w h.sl hm).mono fun e w' ⟨v', he, ho, hb⟩ => ⟨v', he, mine_new h.turns ho hb, Turns.of_below (L := []) hb⟩
theorem CByte {W0 w : World} {v : Value} {bs : List UInt8} (n : Int) (h : Mine W0 w v bs) (hm : bs.length ≤ 1000000000) :
    Calls Try.prog 29 #[v, .int .i64 n] w fun e w' => ∃ v', e = .returned v' ∧ Mine W0 w' v' (bs ++ [byte1 n]) ∧ Turns [] w w' :=
  (Byte_any v bs n w h.sl hm).mono fun e w' ⟨v', he, ho, hb⟩ => ⟨v', he, mine_new h.turns ho hb, Turns.of_below (L := []) hb⟩
theorem CText {W0 w : World} {v : Value} {bs : List UInt8} (s : ByteArray) (h : Mine W0 w v bs) (hm : bs.length ≤ 1000000000) (hs : s.size ≤ maxLen) :
    Calls Try.prog 30 #[v, .string s] w fun e w' => ∃ v', e = .returned v' ∧ Mine W0 w' v' (bs ++ textBytes s.data.toList) ∧ Turns [] w w' :=
  (Text_any v bs s w h.sl hm hs).mono fun e w' ⟨v', he, ho, hb⟩ => ⟨v', he, mine_new h.turns ho hb, Turns.of_below (L := []) hb⟩
theorem RInt {W0 w : World} {v : Value} {bs : List UInt8} (n : Int) (h : Mine W0 w v bs) (hm : bs.length ≤ 1000000000) :
    Calls Try.prog 36 #[v, .int .i64 n] w fun e w' => ∃ v', e = .returned v' ∧ Mine W0 w' v' (bs ++ le8 n) :=
  (RInt_any W0.heap.size v bs n w h.own h.turns.size hm).mono fun e w' ⟨v', he, ap⟩ => ⟨v', he, mine_apd h ap⟩
theorem RByte {W0 w : World} {v : Value} {bs : List UInt8} (n : Int) (h : Mine W0 w v bs) (hm : bs.length ≤ 1000000000) :
    Calls Try.prog 33 #[v, .int .i64 n] w fun e w' => ∃ v', e = .returned v' ∧ Mine W0 w' v' (bs ++ [byte1 n]) :=
  (RByte_any W0.heap.size v bs n w h.own h.turns.size hm).mono fun e w' ⟨v', he, ap⟩ => ⟨v', he, mine_apd h ap⟩
theorem RText {W0 w : World} {v : Value} {bs : List UInt8} (s : ByteArray) (h : Mine W0 w v bs) (hm : bs.length ≤ 1000000000) (hs : s.size ≤ maxLen) :
    Calls Try.prog 34 #[v, .string s] w fun e w' => ∃ v', e = .returned v' ∧ Mine W0 w' v' (bs ++ textBytes s.data.toList) :=
  (RText_any W0.heap.size v bs s w h.own h.turns.size hm hs).mono fun e w' ⟨v', he, ap⟩ => ⟨v', he, mine_apd h ap⟩
end Go.Proofs.Ytdllgnccjejhiaa
