/- The writers, code's and the document's, in one form: a row of the caller's own, W0 the world where it began. -/
import Derived.Test.YtfehhiegnhplhaaRef1
import Derived.Test.YtfehhiegnhplhaaMine
import Derived.Test.YtfehhiegnhplhaaShape
namespace Go.Proofs.Ytfehhiegnhplhaa
open Go.RowKit
set_option linter.unusedVariables false
set_option maxRecDepth 10000
set_option linter.unusedSimpArgs false
set_option linter.unnecessarySimpa false

theorem CInt {W0 w : World} {v : Value} {bs : List UInt8} (n : Int) (h : Mine W0 w v bs) (hm : bs.length ≤ 1000000000) :
    Calls Try.prog 19 #[v, .int .i64 n] w fun e w' => ∃ v', e = .returned v' ∧ Mine W0 w' v' (bs ++ le8 n) ∧ Turns [] w w' :=
  (Int_any v bs.length bs n w h.sl hm).mono fun e w' ⟨v', he, ho, hb⟩ => ⟨v', he, mine_new h.turns ho hb, Turns.of_below (L := []) hb⟩
theorem CByte {W0 w : World} {v : Value} {bs : List UInt8} (n : Int) (h : Mine W0 w v bs) (hm : bs.length ≤ 1000000000) :
    Calls Try.prog 18 #[v, .int .i64 n] w fun e w' => ∃ v', e = .returned v' ∧ Mine W0 w' v' (bs ++ [byte1 n]) ∧ Turns [] w w' :=
  (Byte_any v bs n w h.sl hm).mono fun e w' ⟨v', he, ho, hb⟩ => ⟨v', he, mine_new h.turns ho hb, Turns.of_below (L := []) hb⟩
theorem CText {W0 w : World} {v : Value} {bs : List UInt8} (s : ByteArray) (h : Mine W0 w v bs) (hm : bs.length ≤ 1000000000) (hs : s.size ≤ maxLen) :
    Calls Try.prog 20 #[v, .string s] w fun e w' => ∃ v', e = .returned v' ∧ Mine W0 w' v' (bs ++ textBytes s.data.toList) ∧ Turns [] w w' :=
  (Text_any v bs s w h.sl hm hs).mono fun e w' ⟨v', he, ho, hb⟩ => ⟨v', he, mine_new h.turns ho hb, Turns.of_below (L := []) hb⟩
theorem RInt {W0 w : World} {v : Value} {bs : List UInt8} (n : Int) (h : Mine W0 w v bs) (hm : bs.length ≤ 1000000000) :
    Calls Try.prog 29 #[v, .int .i64 n] w fun e w' => ∃ v', e = .returned v' ∧ Mine W0 w' v' (bs ++ le8 n) :=
  (RInt_any W0.heap.size v bs n w h.own h.turns.size hm).mono fun e w' ⟨v', he, ap⟩ => ⟨v', he, mine_apd h ap⟩
theorem RByte {W0 w : World} {v : Value} {bs : List UInt8} (n : Int) (h : Mine W0 w v bs) (hm : bs.length ≤ 1000000000) :
    Calls Try.prog 28 #[v, .int .i64 n] w fun e w' => ∃ v', e = .returned v' ∧ Mine W0 w' v' (bs ++ [byte1 n]) :=
  (RByte_any W0.heap.size v bs n w h.own h.turns.size hm).mono fun e w' ⟨v', he, ap⟩ => ⟨v', he, mine_apd h ap⟩
theorem RText {W0 w : World} {v : Value} {bs : List UInt8} (s : ByteArray) (h : Mine W0 w v bs) (hm : bs.length ≤ 1000000000) (hs : s.size ≤ maxLen) :
    Calls Try.prog 30 #[v, .string s] w fun e w' => ∃ v', e = .returned v' ∧ Mine W0 w' v' (bs ++ textBytes s.data.toList) :=
  (RText_any W0.heap.size v bs s w h.own h.turns.size hm hs).mono fun e w' ⟨v', he, ap⟩ => ⟨v', he, mine_apd h ap⟩
end Go.Proofs.Ytfehhiegnhplhaa
