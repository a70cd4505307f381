/- The library's copies. -/
import Derived.Test.YthkefakjihafeaaGreatFamD
set_option linter.unusedVariables false
set_option linter.unusedSimpArgs false
namespace Go.Proofs.YthkefakjihafeaaGreat
open Go Go.RowKit


end Go.Proofs.YthkefakjihafeaaGreat
