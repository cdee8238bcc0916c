/- Sums, and rows of sums, that came in. -/
import Derived.Test.YtoahnhphfabajaaGreatGB
import Derived.Test.YtoahnhphfabajaaGreatGI
import Derived.WideKeyArr2
namespace Go.Proofs.YtoahnhphfabajaaGreat
set_option maxRecDepth 10000
open Go.RowKit Go.WideShapes
set_option linter.unusedVariables false
set_option maxRecDepth 10000
set_option linter.unusedSimpArgs false
set_option linter.unnecessarySimpa false

section
variable {H : Type} {enc : TypeId × Value → H} {w : World}
end
end Go.Proofs.YtoahnhphfabajaaGreat
