/- The library's copies. -/
import Derived.Test.YtdghhckdjbpfbaaFamB
set_option linter.unusedVariables false
set_option linter.unusedSimpArgs false
namespace Go.Proofs.Ytdghhckdjbpfbaa
open Go Go.RowKit


def C_slices_Clone_byte_byte : Con := { ps := [.ro (.list .u)], out := fun x => let a : List (Int) := x.1; .req (a.length ≤ 1048576) (newL .u a), det := true }
def G_slices_Clone_byte_byte : Cfg := mkG (tyL [(3, .i), (5, .u), (4, .bool), (9, .str), (126, .int .u64), (45, .st .fixup), (24, .st .img), (91, .st .patch), (65, .st .hash), (63, .list .i), (61, .list .str), (22, .list .u), (41, .st .fixup), (33, .st .img), (72, .st .hash)]) [] false
def an_slices_Clone_byte_byte : PTL C_slices_Clone_byte_byte.ps → Nat → Option Ann := fun _ _ => none
set_option maxRecDepth 200000 in
theorem vc_slices_Clone_byte_byte (a : List (Int)) : (keeps Try.prog G_slices_Clone_byte_byte (an_slices_Clone_byte_byte (a, ())) (Try.f77.body.getD .skip) Try.f77.results.toList C_slices_Clone_byte_byte (a, ())) = ((∀ (x_1 : Bool), (((x_1 = true) →
 (@Eq (List Int) a ([] : List Int))) →
 (((x_1 = true) →
 ((@Eq (List Int) ([] : List Int) a) ∧
 True)) ∧
 ((x_1 = false) →
 ((((((0 : Nat) + (List.length a)) * (1 : Nat)) ≤ (140737488355328 : Nat)) ∧
 (((0 : Nat) + (List.length a)) ≤ (1000000000000 : Nat))) ∧
 ((@Eq (List Int) a a) ∧
 True))))))) := by kernel_rfl
theorem det_slices_Clone_byte_byte : C_slices_Clone_byte_byte.det = true → ∀ x, (C_slices_Clone_byte_byte.out x).Det := fun _ x => by simp only [C_slices_Clone_byte_byte]; repeat (first | exact Det.ret _ | exact Det.vc' | apply Det.req | apply Det.giv | apply Det.fork | apply Det.bif' | intro _)
set_option maxRecDepth 200000 in
set_option maxHeartbeats 1000000 in
theorem ok_slices_Clone_byte_byte : ConOK Try.prog 77 C_slices_Clone_byte_byte := by
  refine con_mk (wr := false) (ty := tyL [(3, .i), (5, .u), (4, .bool), (9, .str), (126, .int .u64), (45, .st .fixup), (24, .st .img), (91, .st .patch), (65, .st .hash), (63, .list .i), (61, .list .str), (22, .list .u), (41, .st .fixup), (33, .st .img), (72, .st .hash)]) (l := []) trivial Try.checked.mixed (fn := Try.f77) (body := Try.f77.body.getD .skip) Try.func77 rfl (by decide) (by kernel_rfl) rfl an_slices_Clone_byte_byte fun x ho hx => ?_
  obtain ⟨a, ⟨⟩⟩ := x
  refine Keeps.of (vc_slices_Clone_byte_byte a) ?_
  revert a ho hx
  show ∀ (a : List (Int)), _
  intro a ho hx
  dsimp only [C_slices_Clone_byte_byte, okPTL, okPT, Ok, Ty.cells, SN.cells, OkL, OkC, okI, ci, cb, cs, cl] at ho
  dsimp only [C_slices_Clone_byte_byte, vc, v1, decB, SR.pre] at hx
  simp only [decide_eq_true_eq, decide_eq_false_iff_not, Bool.not_eq_true', Bool.not_eq_false', and_true, true_and, Int.toNat_natCast, exists_eq_left', exists_eq_left, exists_and_left, Int.not_lt, Int.not_le, Bool.false_eq_true, false_implies, implies_true, forall_const, List.length_append, List.length_cons, List.length_nil, Int.sub_add_cancel, Int.add_sub_cancel, and_imp, get_set_iff, forall_eq', forall_eq, List.set_set, mkd_get, mkd_len, List.length_set, Option.some.injEq]; (repeat' first | intro _ | apply And.intro); all_goals (try omega); all_goals grind
def C_laws_toFixup : Con := { ps := [.ro (.st .fixup)], out := fun x => let a : Fixup := x.1; newS .fixup a, det := true }
def G_laws_toFixup : Cfg := mkG (tyL [(3, .i), (5, .u), (4, .bool), (9, .str), (126, .int .u64), (45, .st .fixup), (24, .st .img), (91, .st .patch), (65, .st .hash), (63, .list .i), (61, .list .str), (22, .list .u), (41, .st .fixup), (33, .st .img), (72, .st .hash)]) [] false
def an_laws_toFixup : PTL C_laws_toFixup.ps → Nat → Option Ann := fun _ _ => none
set_option maxRecDepth 200000 in
theorem vc_laws_toFixup (a : Fixup) : (keeps Try.prog G_laws_toFixup (an_laws_toFixup (a, ())) (Try.f29.body.getD .skip) Try.f29.results.toList C_laws_toFixup (a, ())) = ((((Fixup.at_ a) = (Fixup.at_ a)) ∧
 (((Fixup.kind a) = (Fixup.kind a)) ∧
 (((Fixup.to a) = (Fixup.to a)) ∧
 (((Fixup.add a) = (Fixup.add a)) ∧
 True))))) := by kernel_rfl
theorem det_laws_toFixup : C_laws_toFixup.det = true → ∀ x, (C_laws_toFixup.out x).Det := fun _ x => by simp only [C_laws_toFixup]; repeat (first | exact Det.ret _ | exact Det.vc' | apply Det.req | apply Det.giv | apply Det.fork | apply Det.bif' | intro _)
set_option maxRecDepth 200000 in
set_option maxHeartbeats 1000000 in
theorem ok_laws_toFixup : ConOK Try.prog 29 C_laws_toFixup := by
  refine con_mk (wr := false) (ty := tyL [(3, .i), (5, .u), (4, .bool), (9, .str), (126, .int .u64), (45, .st .fixup), (24, .st .img), (91, .st .patch), (65, .st .hash), (63, .list .i), (61, .list .str), (22, .list .u), (41, .st .fixup), (33, .st .img), (72, .st .hash)]) (l := []) trivial Try.checked.mixed (fn := Try.f29) (body := Try.f29.body.getD .skip) Try.func29 rfl (by decide) (by kernel_rfl) rfl an_laws_toFixup fun x ho hx => ?_
  obtain ⟨a, ⟨⟩⟩ := x
  refine Keeps.of (vc_laws_toFixup a) ?_
  revert a ho hx
  show ∀ (a : Fixup), _
  intro a ho hx
  dsimp only [C_laws_toFixup, okPTL, okPT, Ok, Ty.cells, SN.cells, OkL, OkC, okI, ci, cb, cs, cl] at ho
  dsimp only [C_laws_toFixup, vc, v1, decB, SR.pre] at hx
  simp only [decide_eq_true_eq, decide_eq_false_iff_not, Bool.not_eq_true', Bool.not_eq_false', and_true, true_and, Int.toNat_natCast, exists_eq_left', exists_eq_left, exists_and_left, Int.not_lt, Int.not_le, Bool.false_eq_true, false_implies, implies_true, forall_const, List.length_append, List.length_cons, List.length_nil, Int.sub_add_cancel, Int.add_sub_cancel, and_imp, get_set_iff, forall_eq', forall_eq, List.set_set, mkd_get, mkd_len, List.length_set, Option.some.injEq]; (repeat' first | intro _ | apply And.intro); all_goals (try omega); all_goals grind [szIm, szMe, szHa, szPa]
end Go.Proofs.Ytdghhckdjbpfbaa
