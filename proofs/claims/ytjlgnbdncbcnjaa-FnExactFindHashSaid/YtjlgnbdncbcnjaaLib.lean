/- The library's copies. -/
import Derived.Test.YtjlgnbdncbcnjaaFamB
set_option linter.unusedVariables false
set_option linter.unusedSimpArgs false
namespace Go.Proofs.Ytjlgnbdncbcnjaa
open Go Go.RowKit


end Go.Proofs.Ytjlgnbdncbcnjaa
