/- Names in order, each once. -/
import Derived.Test.YtignicccfjdiiaaNamV
set_option linter.unusedVariables false
set_option linter.unusedSimpArgs false
namespace Go.Proofs.Ytignicccfjdiiaa
open Go Go.RowKit


end Go.Proofs.Ytignicccfjdiiaa
