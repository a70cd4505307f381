/- The library's copies. -/
import Derived.Test.YtignicccfjdiiaaFamD
set_option linter.unusedVariables false
set_option linter.unusedSimpArgs false
namespace Go.Proofs.Ytignicccfjdiiaa
open Go Go.RowKit


end Go.Proofs.Ytignicccfjdiiaa
