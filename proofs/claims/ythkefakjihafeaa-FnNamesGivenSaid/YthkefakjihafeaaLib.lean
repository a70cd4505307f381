/- The library's copies. -/
import Derived.Test.YthkefakjihafeaaFamD
set_option linter.unusedVariables false
set_option linter.unusedSimpArgs false
namespace Go.Proofs.Ythkefakjihafeaa
open Go Go.RowKit


end Go.Proofs.Ythkefakjihafeaa
