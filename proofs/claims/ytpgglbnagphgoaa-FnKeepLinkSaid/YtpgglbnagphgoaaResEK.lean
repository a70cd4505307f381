/- Where a name is given, counted in one go: plain Lean. -/
import Derived.Test.YtpgglbnagphgoaaResDK
set_option linter.unusedVariables false
set_option linter.unusedSimpArgs false
namespace Go.Proofs.Ytpgglbnagphgoaa
open Go Go.RowKit

end Go.Proofs.Ytpgglbnagphgoaa
