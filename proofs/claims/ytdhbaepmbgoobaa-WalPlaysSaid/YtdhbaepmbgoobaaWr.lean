/- The writers, code's and the document's, in one form: a row of the caller's own, W0 the world where it began. -/
import Derived.Test.YtdhbaepmbgoobaaRef1
import Derived.Test.YtdhbaepmbgoobaaMine
import Derived.Test.YtdhbaepmbgoobaaShape
namespace Go.Proofs.Ytdhbaepmbgoobaa
open Go.RowKit
set_option linter.unusedVariables false
set_option maxRecDepth 10000
set_option linter.unusedSimpArgs false
set_option linter.unnecessarySimpa false

theorem CInt {W0 w : World} {v : Value} {bs : List UInt8} (n : Int) (h : Mine W0 w v bs) (hm : bs.length ≤ 1000000000) :
    Calls Try.prog 35 #[v, .int .i64 n] w fun e w' => ∃ v', e = .returned v' ∧ Mine W0 w' v' (bs ++ le8 n) ∧ Turns [] w w' :=
  (Int_any v bs.length bs n w h.sl hm).mono fun e w' ⟨v', he, ho, hb⟩ => ⟨v', he, mine_new h.turns ho hb, Turns.of_below (L := []) hb⟩
theorem RInt {W0 w : World} {v : Value} {bs : List UInt8} (n : Int) (h : Mine W0 w v bs) (hm : bs.length ≤ 1000000000) :
    Calls Try.prog 56 #[v, .int .i64 n] w fun e w' => ∃ v', e = .returned v' ∧ Mine W0 w' v' (bs ++ le8 n) :=
  (RInt_any W0.heap.size v bs n w h.own h.turns.size hm).mono fun e w' ⟨v', he, ap⟩ => ⟨v', he, mine_apd h ap⟩
end Go.Proofs.Ytdhbaepmbgoobaa
