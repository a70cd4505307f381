/- Fixups filled in. -/
import Derived.Test.YtpgglbnagphgoaaGreatFixDS
import Derived.Test.YtpgglbnagphgoaaGreatLibS
set_option linter.unusedVariables false
set_option linter.unusedSimpArgs false
set_option maxRecDepth 200000
set_option maxHeartbeats 4000000
namespace Go.Proofs.YtpgglbnagphgoaaGreat
open Go Go.RowKit


def C_impl_ApplyFixup : Con := { ps := [.ro (.list .u), .ro .i, .ro (.st .fixup), .ro .i], out := fun x => let b : List (Int) := x.1; let p : Int := x.2.1; let f : Fixup := x.2.2.1; let t : Int := x.2.2.2.1; .req (b.length ≤ 1048576) (newLB .u (fxApp b p f t) (fxVal b p f t).isSome), det := true }
abbrev L_impl_ApplyFixup : List (Nat × Con) := [(69, C_slices_Clone_byte_byte), (83, C_impl_FixupWide), (78, C_impl_within), (84, C_impl_FixupValue), (85, C_impl_PutNumber)]
def G_impl_ApplyFixup : Cfg := GK L_impl_ApplyFixup
def an_impl_ApplyFixup : PTL C_impl_ApplyFixup.ps → Nat → Option Ann := fun _ _ => none
theorem vc_impl_ApplyFixup (b : List (Int)) (p : Int) (f : Fixup) (t : Int) : (KP Tryz.f44 G_impl_ApplyFixup C_impl_ApplyFixup an_impl_ApplyFixup (b, p, f, t, ())) = (b.length ≤ 1048576 ∧ (Bool.not (decide (0 ≤ p ∧ p ≤ 100000)) = true →
 false = @Option.isSome Int (fxVal b p f t) ∧ b = fxApp b p f t ∧ True) ∧ (Bool.not (decide (0 ≤ p ∧ p ≤ 100000)) = false →
 (decide (fixWide f.kind = 0) = true →
 false = @Option.isSome Int (fxVal b p f t) ∧ b = fxApp b p f t ∧ True) ∧ (decide (fixWide f.kind = 0) = false →
 b.length ≤ 9223372036854775807 →
 i64 (LN b - fixWide f.kind) ∧ (Bool.not (decide (0 ≤ f.at_ ∧ f.at_ ≤ LN b - fixWide f.kind)) = true →
 false = @Option.isSome Int (fxVal b p f t) ∧ b = fxApp b p f t ∧ True) ∧ (Bool.not (decide (0 ≤ f.at_ ∧ f.at_ ≤ LN b - fixWide f.kind)) = false →
 i64 (p + f.at_) ∧ (Bool.not (@Option.isSome Int (fixVal f.kind (p + f.at_) t f.add)) = true →
 false = @Option.isSome Int (fxVal b p f t) ∧ b = fxApp b p f t ∧ True) ∧ (Bool.not (@Option.isSome Int (fixVal f.kind (p + f.at_) t f.add)) = false →
 (0 ≤ f.at_ ∧ f.at_ ≤ LN b) ∧ (f.at_.toNat + (b.length - f.at_.toNat) ≤ b.length →
 true = @Option.isSome Int (fxVal b p f t) ∧ b.take f.at_.toNat ++ (putN (@Option.getD Int (fixVal f.kind (p + f.at_) t f.add) (0 : Int)) (fixWide f.kind)).take (b.length - f.at_.toNat) ++ b.drop (f.at_.toNat + @Min.min Nat _ (putN (@Option.getD Int (fixVal f.kind (p + f.at_) t f.add) (0 : Int)) (fixWide f.kind)).length (b.length - f.at_.toNat)) = fxApp b p f t ∧ True)))))) := by kernel_rfl
theorem det_impl_ApplyFixup : C_impl_ApplyFixup.det = true → ∀ x, (C_impl_ApplyFixup.out x).Det := fun _ x => by simp only [C_impl_ApplyFixup]; repeat (first | exact Det.ret _ | exact Det.vc' | apply Det.req)
theorem ok_impl_ApplyFixup : ConOK Tryz.prog 44 C_impl_ApplyFixup := by
 refine con_q (l := L_impl_ApplyFixup) ⟨⟨ok_slices_Clone_byte_byte, det_slices_Clone_byte_byte⟩, ⟨⟨ok_impl_FixupWide, det_impl_FixupWide⟩, ⟨⟨ok_impl_within, det_impl_within⟩, ⟨⟨ok_impl_FixupValue, det_impl_FixupValue⟩, ⟨⟨ok_impl_PutNumber, det_impl_PutNumber⟩, trivial⟩⟩⟩⟩⟩ Tryz.func44 rfl (by decide) (by kernel_rfl) rfl an_impl_ApplyFixup fun x ho hx => ?_
 obtain ⟨b, p, f, t, ⟨⟩⟩ := x
 refine Keeps.of (vc_impl_ApplyFixup b p f t) ?_
 revert b p f t ho hx
 show ∀ (b : List (Int)) (p : Int) (f : Fixup) (t : Int), _
 intro b p f t ho hx
 dsimp only [C_impl_ApplyFixup, okPTL, okPT, Ok, Ty.cells, SN.cells, OkL, OkC, okI, ci, cb, cs, cl] at ho
 dsimp only [C_impl_ApplyFixup, vc, v1, decB, SR.pre] at hx
 have hw := fixWide_le f.kind
 have he := fxVal_eq b p f t
 have hn := @fxApp_none b p f t
 have hc := @fxApp_copy b p f t
 have hok : fxOk b p f = decide (0 ≤ p ∧ p ≤ 100000 ∧ fixWide f.kind ≠ 0 ∧ 0 ≤ f.at_ ∧ f.at_ ≤ b.length - fixWide f.kind) := rfl
 cases hv : fixVal f.kind (p + f.at_) t f.add <;> ((try delta i64 LN); simp only [VBt]; (repeat' first | intro _ | apply And.intro); all_goals (try omega); all_goals grind)
end Go.Proofs.YtpgglbnagphgoaaGreat
