/- Blocks built, set, laid side by side; rows of one's own that grow. -/
import Derived.Test.YtoahnhphfabajaaGreatLdK
import Derived.Great.BuildSlice
namespace Go.Proofs.YtoahnhphfabajaaGreat
open Go.RowKit
set_option linter.unusedVariables false
set_option maxRecDepth 10000
set_option linter.unusedSimpArgs false
set_option linter.unnecessarySimpa false

theorem zero_blo : (Tryz.prog.info? 70).bind (·.zero) = some (.agg blo0.cells.toArray) := by kernel_rfl
section
variable {o : Oper} {a : Act} {w : World} {K : Act → World → Prop} {Q : Exit → Act → World → Prop} {t e : TypeId} {z : Value} {size bytes : Nat}
end
end Go.Proofs.YtoahnhphfabajaaGreat
