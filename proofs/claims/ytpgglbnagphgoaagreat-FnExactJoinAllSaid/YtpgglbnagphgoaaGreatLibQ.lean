/- The library's copies. -/
import Derived.Test.YtpgglbnagphgoaaGreatFamDQ
set_option linter.unusedVariables false
set_option linter.unusedSimpArgs false
set_option maxRecDepth 200000
set_option maxHeartbeats 4000000
namespace Go.Proofs.YtpgglbnagphgoaaGreat
open Go Go.RowKit


def C_slices_Clone_byte_byte : Con := { ps := [.ro (.list .u)], out := fun x => let a : List (Int) := x.1; .req (a.length ≤ 1048576) (newL .u a), det := true }
abbrev L_slices_Clone_byte_byte : List (Nat × Con) := []
def G_slices_Clone_byte_byte : Cfg := GK L_slices_Clone_byte_byte
def an_slices_Clone_byte_byte : PTL C_slices_Clone_byte_byte.ps → Nat → Option Ann := fun _ _ => none
theorem vc_slices_Clone_byte_byte (a : List (Int)) : (KP Tryz.f69 G_slices_Clone_byte_byte C_slices_Clone_byte_byte an_slices_Clone_byte_byte (a, ())) = ((∀ (b : Bool), (b = true →
 a = ([] : List Int)) →
 (b = true →
 ([] : List Int) = a ∧ True) ∧ (b = false →
 ((0 + a.length) * 1 ≤ 140737488355328 ∧ 0 + a.length ≤ 1000000000000) ∧ a = a ∧ True))) := by kernel_rfl
theorem det_slices_Clone_byte_byte : C_slices_Clone_byte_byte.det = true → ∀ x, (C_slices_Clone_byte_byte.out x).Det := fun _ x => by simp only [C_slices_Clone_byte_byte]; repeat (first | exact Det.ret _ | exact Det.vc' | apply Det.req)
theorem ok_slices_Clone_byte_byte : ConOK Tryz.prog 69 C_slices_Clone_byte_byte := by
 refine con_q (l := L_slices_Clone_byte_byte) trivial Tryz.func69 rfl (by decide) (by kernel_rfl) rfl an_slices_Clone_byte_byte fun x ho hx => ?_
 obtain ⟨a, ⟨⟩⟩ := x
 refine Keeps.of (vc_slices_Clone_byte_byte a) ?_
 revert a ho hx
 show ∀ (a : List (Int)), _
 intro a ho hx
 dsimp only [C_slices_Clone_byte_byte, okPTL, okPT, Ok, Ty.cells, SN.cells, OkL, OkC, okI, ci, cb, cs, cl] at ho
 dsimp only [C_slices_Clone_byte_byte, vc, v1, decB, SR.pre] at hx
 (try delta i64 LN); simp only [VBt]; (repeat' first | intro _ | apply And.intro); all_goals (try omega); all_goals grind
end Go.Proofs.YtpgglbnagphgoaaGreat
