/- Fixups filled in. -/
import Derived.Test.YtignicccfjdiiaaFixD
import Derived.Test.YtignicccfjdiiaaLib
set_option linter.unusedVariables false
set_option linter.unusedSimpArgs false
namespace Go.Proofs.Ytignicccfjdiiaa
open Go Go.RowKit


end Go.Proofs.Ytignicccfjdiiaa
