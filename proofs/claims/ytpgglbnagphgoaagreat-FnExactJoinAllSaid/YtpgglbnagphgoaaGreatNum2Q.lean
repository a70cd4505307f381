/- Numbers in bytes, values of fixups: both packages keep the same contracts. -/
import Derived.Test.YtpgglbnagphgoaaGreatNum1Q
set_option linter.unusedVariables false
set_option linter.unusedSimpArgs false
set_option maxRecDepth 200000
set_option maxHeartbeats 4000000
namespace Go.Proofs.YtpgglbnagphgoaaGreat
open Go Go.RowKit


end Go.Proofs.YtpgglbnagphgoaaGreat
