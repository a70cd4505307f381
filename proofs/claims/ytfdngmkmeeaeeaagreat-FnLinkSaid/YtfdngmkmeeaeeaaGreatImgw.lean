/- Images, memories, patches: both packages keep the same contracts. -/
import Derived.Test.YtfdngmkmeeaeeaaGreatLiba
set_option linter.unusedVariables false
set_option linter.unusedSimpArgs false
set_option maxRecDepth 200000
set_option maxHeartbeats 4000000
namespace Go.Proofs.YtfdngmkmeeaeeaaGreat
open Go Go.RowKit


def imgOk (m : Img) : Prop := isBase m.base ∧ (m.bytes.length : Int) ≤ 2000
instance (m : Img) : Decidable (imgOk m) := by unfold imgOk; infer_instance
def imgByte (m : Img) (at_ : Int) : Int := if imgOk m ∧ m.base ≤ at_ ∧ at_ < m.base + m.bytes.length then m.bytes.getD (at_ - m.base).toNat 0 else -1
def C_impl_ImageValid : Con := { ps := [.ro (.st .img)], out := fun x => let m : Img := x.1; vc .bool (decide (imgOk m)), det := true }
abbrev L_impl_ImageValid : List (Nat × Con) := [(110, C_impl_isBase)]
def G_impl_ImageValid : Cfg := GK L_impl_ImageValid
def an_impl_ImageValid : PTL C_impl_ImageValid.ps → Nat → Option Ann := fun _ _ => none
theorem vc_impl_ImageValid (m : Img) : (KP Tryz.f50 G_impl_ImageValid C_impl_ImageValid an_impl_ImageValid (m, ())) = ((decide (isBase m.base) = true →
 m.bytes.length ≤ 9223372036854775807 →
 decide (LN m.bytes ≤ 2000) = decide (imgOk m) ∧ True) ∧ (decide (isBase m.base) = false →
 false = decide (imgOk m) ∧ True)) := by kernel_rfl
theorem det_impl_ImageValid : C_impl_ImageValid.det = true → ∀ x, (C_impl_ImageValid.out x).Det := fun _ _ => Det.vc'
theorem ok_impl_ImageValid : ConOK Tryz.prog 50 C_impl_ImageValid := by
 refine con_q (l := L_impl_ImageValid) ⟨⟨ok_impl_isBase, det_impl_isBase⟩, trivial⟩ Tryz.func50 rfl (by decide) (by kernel_rfl) rfl an_impl_ImageValid fun x ho hx => ?_
 obtain ⟨m, ⟨⟩⟩ := x
 refine Keeps.of (vc_impl_ImageValid m) ?_
 revert m ho hx
 show ∀ (m : Img), _
 intro m ho hx
 dsimp only [C_impl_ImageValid, okPTL, okPT, Ok, Ty.cells, SN.cells, OkL, OkC, okI, ci, cb, cs, cl] at ho
 dsimp only [C_impl_ImageValid, vc, v1, decB, SR.pre] at hx
 (try delta i64 LN); simp only [decide_eq_true_eq, decide_eq_false_iff_not, Bool.not_eq_true', Bool.not_eq_false', and_true, true_and, and_assoc, Int.toNat_natCast, exists_eq_left', exists_eq_left, exists_and_left, Int.not_lt, Int.not_le, Bool.false_eq_true, false_implies, implies_true, forall_const, List.length_append, List.length_cons, List.length_nil, Int.sub_add_cancel, Int.add_sub_cancel]
 grind [imgOk]
def C_impl_ImageByte : Con := { ps := [.ro (.st .img), .ro .i], out := fun x => let m : Img := x.1; let at_ : Int := x.2.1; vc .i (imgByte m at_), det := true }
abbrev L_impl_ImageByte : List (Nat × Con) := [(50, C_impl_ImageValid), (109, C_impl_within)]
def G_impl_ImageByte : Cfg := GK L_impl_ImageByte
def an_impl_ImageByte : PTL C_impl_ImageByte.ps → Nat → Option Ann := fun _ _ => none
theorem vc_impl_ImageByte (m : Img) (at_ : Int) : (KP Tryz.f49 G_impl_ImageByte C_impl_ImageByte an_impl_ImageByte (m, at_, ())) = ((Bool.not (decide (imgOk m)) = true →
 (- (1 : Int)) = imgByte m at_ ∧ True) ∧ (Bool.not (decide (imgOk m)) = false →
 m.bytes.length ≤ 9223372036854775807 →
 i64 (m.base + LN m.bytes) ∧ i64 (m.base + LN m.bytes - 1) ∧ (Bool.not (decide (m.base ≤ at_ ∧ at_ ≤ m.base + LN m.bytes - 1)) = true →
 (- (1 : Int)) = imgByte m at_ ∧ True) ∧ (Bool.not (decide (m.base ≤ at_ ∧ at_ ≤ m.base + LN m.bytes - 1)) = false →
 i64 (at_ - m.base) ∧ (0 ≤ at_ - m.base ∧ at_ - m.base < LN m.bytes) ∧ (∀ (a : Int), m.bytes[(at_ - m.base).toNat]? = some a →
 Ok (Ty.int IntKind.u8) a →
 a = imgByte m at_ ∧ True)))) := by kernel_rfl
theorem det_impl_ImageByte : C_impl_ImageByte.det = true → ∀ x, (C_impl_ImageByte.out x).Det := fun _ _ => Det.vc'
theorem ok_impl_ImageByte : ConOK Tryz.prog 49 C_impl_ImageByte := by
 refine con_q (l := L_impl_ImageByte) ⟨⟨ok_impl_ImageValid, det_impl_ImageValid⟩, ⟨⟨ok_impl_within, det_impl_within⟩, trivial⟩⟩ Tryz.func49 rfl (by decide) (by kernel_rfl) rfl an_impl_ImageByte fun x ho hx => ?_
 obtain ⟨m, at_, ⟨⟩⟩ := x
 refine Keeps.of (vc_impl_ImageByte m at_) ?_
 revert m at_ ho hx
 show ∀ (m : Img) (at_ : Int), _
 intro m at_ ho hx
 dsimp only [C_impl_ImageByte, okPTL, okPT, Ok, Ty.cells, SN.cells, OkL, OkC, okI, ci, cb, cs, cl] at ho
 dsimp only [C_impl_ImageByte, vc, v1, decB, SR.pre] at hx
 (try delta i64 LN); simp only [VBt]; (repeat' first | intro _ | apply And.intro); all_goals (try omega); all_goals grind [imgByte, imgOk, isBase, getD_some]
end Go.Proofs.YtfdngmkmeeaeeaaGreat
