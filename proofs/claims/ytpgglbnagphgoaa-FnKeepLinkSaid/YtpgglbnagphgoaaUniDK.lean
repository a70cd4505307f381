/- No two symbols of a valid object that are not local have one name: plain Lean. -/
import Derived.Test.YtpgglbnagphgoaaResEK
set_option linter.unusedVariables false
set_option linter.unusedSimpArgs false
namespace Go.Proofs.Ytpgglbnagphgoaa
open Go Go.RowKit

/-! Symbols of a valid object by their names. -/
def glo (l : List Sym) (n : ByteArray) : Option Sym := l.find? fun s => decide (s.bind ≠ 0 ∧ s.name = n)
end Go.Proofs.Ytpgglbnagphgoaa
