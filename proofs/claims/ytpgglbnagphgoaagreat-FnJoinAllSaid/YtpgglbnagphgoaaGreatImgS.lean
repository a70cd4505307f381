/- Images, memories, patches: both packages keep the same contracts. -/
import Derived.Test.YtpgglbnagphgoaaGreatLibS
set_option linter.unusedVariables false
set_option linter.unusedSimpArgs false
namespace Go.Proofs.YtpgglbnagphgoaaGreat
open Go Go.RowKit


def imgOk (m : Img) : Prop := isBase m.base ∧ (m.bytes.length : Int) ≤ 2000
instance (m : Img) : Decidable (imgOk m) := by unfold imgOk; infer_instance
end Go.Proofs.YtpgglbnagphgoaaGreat
