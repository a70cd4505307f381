/- The library's copies. -/
import Derived.Test.YtpdddafaelbgkaaFamB
set_option linter.unusedVariables false
set_option linter.unusedSimpArgs false
namespace Go.Proofs.Ytpdddafaelbgkaa
open Go Go.RowKit


def C_slices_Clone_byte_byte : Con := { ps := [.ro (.list .u)], out := fun x => let a : List (Int) := x.1; .req (a.length ≤ 1048576) (newL .u a), det := true }
def G_slices_Clone_byte_byte : Cfg := mkG (tyL [(3, .i), (5, .u), (4, .bool), (9, .str), (163, .int .u64), (71, .st .fixup), (24, .st .img), (39, .st .region), (35, .st .mem), (30, .st .patch), (94, .st .hash), (92, .list .i), (90, .list .str), (22, .list .u), (67, .st .fixup), (52, .st .img), (149, .st .region), (55, .st .mem), (101, .st .hash)]) [] false
def an_slices_Clone_byte_byte : PTL C_slices_Clone_byte_byte.ps → Nat → Option Ann := fun _ _ => none
set_option maxRecDepth 200000 in
theorem vc_slices_Clone_byte_byte (a : List (Int)) : (keeps Try.prog G_slices_Clone_byte_byte (an_slices_Clone_byte_byte (a, ())) (Try.f114.body.getD .skip) Try.f114.results.toList C_slices_Clone_byte_byte (a, ())) = ((∀ (x_1 : Bool), (((x_1 = true) →
 (@Eq (List Int) a ([] : List Int))) →
 (((x_1 = true) →
 ((@Eq (List Int) ([] : List Int) a) ∧
 True)) ∧
 ((x_1 = false) →
 ((((((0 : Nat) + (List.length a)) * (1 : Nat)) ≤ (140737488355328 : Nat)) ∧
 (((0 : Nat) + (List.length a)) ≤ (1000000000000 : Nat))) ∧
 ((@Eq (List Int) a a) ∧
 True))))))) := by kernel_rfl
theorem det_slices_Clone_byte_byte : C_slices_Clone_byte_byte.det = true → ∀ x, (C_slices_Clone_byte_byte.out x).Det := fun _ x => by simp only [C_slices_Clone_byte_byte]; repeat (first | exact Det.ret _ | exact Det.vc' | apply Det.req | apply Det.giv | apply Det.fork | apply Det.bif' | intro _)
set_option maxRecDepth 200000 in
set_option maxHeartbeats 1000000 in
theorem ok_slices_Clone_byte_byte : ConOK Try.prog 114 C_slices_Clone_byte_byte := by
  refine con_mk (wr := false) (ty := tyL [(3, .i), (5, .u), (4, .bool), (9, .str), (163, .int .u64), (71, .st .fixup), (24, .st .img), (39, .st .region), (35, .st .mem), (30, .st .patch), (94, .st .hash), (92, .list .i), (90, .list .str), (22, .list .u), (67, .st .fixup), (52, .st .img), (149, .st .region), (55, .st .mem), (101, .st .hash)]) (l := []) trivial Try.checked.mixed (fn := Try.f114) (body := Try.f114.body.getD .skip) Try.func114 rfl (by decide) (by kernel_rfl) rfl an_slices_Clone_byte_byte fun x ho hx => ?_
  obtain ⟨a, ⟨⟩⟩ := x
  refine Keeps.of (vc_slices_Clone_byte_byte a) ?_
  revert a ho hx
  show ∀ (a : List (Int)), _
  intro a ho hx
  dsimp only [C_slices_Clone_byte_byte, okPTL, okPT, Ok, Ty.cells, SN.cells, OkL, OkC, okI, ci, cb, cs, cl] at ho
  dsimp only [C_slices_Clone_byte_byte, vc, v1, decB, SR.pre] at hx
  simp only [decide_eq_true_eq, decide_eq_false_iff_not, Bool.not_eq_true', Bool.not_eq_false', and_true, true_and, Int.toNat_natCast, exists_eq_left', exists_eq_left, exists_and_left, Int.not_lt, Int.not_le, Bool.false_eq_true, false_implies, implies_true, forall_const, List.length_append, List.length_cons, List.length_nil, Int.sub_add_cancel, Int.add_sub_cancel, and_imp, get_set_iff, forall_eq', forall_eq, List.set_set, mkd_get, mkd_len, List.length_set, Option.some.injEq]; (repeat' first | intro _ | apply And.intro); all_goals (try omega); all_goals grind
def C_slices_Clone_impl_Region_impl_Region : Con := { ps := [.ro (.list (.st .region))], out := fun x => let a : List (Region) := x.1; .req (a.length ≤ 1048576) (newL (.st .region) a), det := true }
def G_slices_Clone_impl_Region_impl_Region : Cfg := mkG (tyL [(3, .i), (5, .u), (4, .bool), (9, .str), (163, .int .u64), (71, .st .fixup), (24, .st .img), (39, .st .region), (35, .st .mem), (30, .st .patch), (94, .st .hash), (92, .list .i), (90, .list .str), (22, .list .u), (67, .st .fixup), (52, .st .img), (149, .st .region), (55, .st .mem), (101, .st .hash)]) [] false
def an_slices_Clone_impl_Region_impl_Region : PTL C_slices_Clone_impl_Region_impl_Region.ps → Nat → Option Ann := fun _ _ => none
set_option maxRecDepth 200000 in
theorem vc_slices_Clone_impl_Region_impl_Region (a : List (Region)) : (keeps Try.prog G_slices_Clone_impl_Region_impl_Region (an_slices_Clone_impl_Region_impl_Region (a, ())) (Try.f121.body.getD .skip) Try.f121.results.toList C_slices_Clone_impl_Region_impl_Region (a, ())) = ((∀ (x_1 : Bool), (((x_1 = true) →
 (@Eq (List Go.Proofs.Ytpdddafaelbgkaa.Region) a ([] : List Go.Proofs.Ytpdddafaelbgkaa.Region))) →
 (((x_1 = true) →
 ((@Eq (List Go.Proofs.Ytpdddafaelbgkaa.Region) ([] : List Go.Proofs.Ytpdddafaelbgkaa.Region) a) ∧
 True)) ∧
 ((x_1 = false) →
 ((((((0 : Nat) + (List.length a)) * (24 : Nat)) ≤ (140737488355328 : Nat)) ∧
 (((0 : Nat) + (List.length a)) ≤ (1000000000000 : Nat))) ∧
 ((@Eq (List Go.Proofs.Ytpdddafaelbgkaa.Region) a a) ∧
 True))))))) := by kernel_rfl
theorem det_slices_Clone_impl_Region_impl_Region : C_slices_Clone_impl_Region_impl_Region.det = true → ∀ x, (C_slices_Clone_impl_Region_impl_Region.out x).Det := fun _ x => by simp only [C_slices_Clone_impl_Region_impl_Region]; repeat (first | exact Det.ret _ | exact Det.vc' | apply Det.req | apply Det.giv | apply Det.fork | apply Det.bif' | intro _)
set_option maxRecDepth 200000 in
set_option maxHeartbeats 1000000 in
theorem ok_slices_Clone_impl_Region_impl_Region : ConOK Try.prog 121 C_slices_Clone_impl_Region_impl_Region := by
  refine con_mk (wr := false) (ty := tyL [(3, .i), (5, .u), (4, .bool), (9, .str), (163, .int .u64), (71, .st .fixup), (24, .st .img), (39, .st .region), (35, .st .mem), (30, .st .patch), (94, .st .hash), (92, .list .i), (90, .list .str), (22, .list .u), (67, .st .fixup), (52, .st .img), (149, .st .region), (55, .st .mem), (101, .st .hash)]) (l := []) trivial Try.checked.mixed (fn := Try.f121) (body := Try.f121.body.getD .skip) Try.func121 rfl (by decide) (by kernel_rfl) rfl an_slices_Clone_impl_Region_impl_Region fun x ho hx => ?_
  obtain ⟨a, ⟨⟩⟩ := x
  refine Keeps.of (vc_slices_Clone_impl_Region_impl_Region a) ?_
  revert a ho hx
  show ∀ (a : List (Region)), _
  intro a ho hx
  dsimp only [C_slices_Clone_impl_Region_impl_Region, okPTL, okPT, Ok, Ty.cells, SN.cells, OkL, OkC, okI, ci, cb, cs, cl] at ho
  dsimp only [C_slices_Clone_impl_Region_impl_Region, vc, v1, decB, SR.pre] at hx
  simp only [decide_eq_true_eq, decide_eq_false_iff_not, Bool.not_eq_true', Bool.not_eq_false', and_true, true_and, Int.toNat_natCast, exists_eq_left', exists_eq_left, exists_and_left, Int.not_lt, Int.not_le, Bool.false_eq_true, false_implies, implies_true, forall_const, List.length_append, List.length_cons, List.length_nil, Int.sub_add_cancel, Int.add_sub_cancel, and_imp, get_set_iff, forall_eq', forall_eq, List.set_set, mkd_get, mkd_len, List.length_set, Option.some.injEq]; (repeat' first | intro _ | apply And.intro); all_goals (try omega); all_goals grind
end Go.Proofs.Ytpdddafaelbgkaa
