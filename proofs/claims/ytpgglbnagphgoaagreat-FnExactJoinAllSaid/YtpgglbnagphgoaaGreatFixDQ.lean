/- Fixups filled in: plain Lean. -/
import Derived.Test.YtpgglbnagphgoaaGreatNum2Q
import Derived.Test.YtpgglbnagphgoaaGreatListsQ
set_option linter.unusedVariables false
set_option linter.unusedSimpArgs false
namespace Go.Proofs.YtpgglbnagphgoaaGreat
open Go Go.RowKit

theorem fixWide_le (k : Int) : fixWide k = 0 ∨ fixWide k = 1 ∨ fixWide k = 2 ∨ fixWide k = 4 := by
 unfold fixWide
 split
 ·omega
 ·split
  ·omega
  ·split <;> omega
end Go.Proofs.YtpgglbnagphgoaaGreat
