/- Names in order, each once. -/
import Derived.Test.YtjlgnbdncbcnjaaSortC
import Derived.Test.YtjlgnbdncbcnjaaNamV
set_option linter.unusedVariables false
set_option linter.unusedSimpArgs false
namespace Go.Proofs.Ytjlgnbdncbcnjaa
open Go Go.RowKit


def C_slices_Clone_string_string : Con := { ps := [.ro (.list .str)], out := fun x => let a : List (ByteArray) := x.1; .req (a.length ≤ 1048576) (newL .str a), det := true }
def G_slices_Clone_string_string : Cfg := mkG (tyL [(3, .i), (5, .u), (4, .bool), (9, .str), (80, .int .u64), (26, .st .hash), (24, .list .i), (22, .list .str), (38, .list .u), (33, .st .hash)]) [] false
def an_slices_Clone_string_string : PTL C_slices_Clone_string_string.ps → Nat → Option Ann := fun _ _ => none
set_option maxRecDepth 200000 in
theorem vc_slices_Clone_string_string (a : List (ByteArray)) : (keeps Try.prog G_slices_Clone_string_string (an_slices_Clone_string_string (a, ())) (Try.f35.body.getD .skip) Try.f35.results.toList C_slices_Clone_string_string (a, ())) = ((∀ (x_1 : Bool), (((x_1 = true) →
 (@Eq (List ByteArray) a ([] : List ByteArray))) →
 (((x_1 = true) →
 ((@Eq (List ByteArray) ([] : List ByteArray) a) ∧
 True)) ∧
 ((x_1 = false) →
 ((((((0 : Nat) + (List.length a)) * (16 : Nat)) ≤ (140737488355328 : Nat)) ∧
 (((0 : Nat) + (List.length a)) ≤ (1000000000000 : Nat))) ∧
 ((@Eq (List ByteArray) a a) ∧
 True))))))) := by kernel_rfl
theorem det_slices_Clone_string_string : C_slices_Clone_string_string.det = true → ∀ x, (C_slices_Clone_string_string.out x).Det := fun _ x => by simp only [C_slices_Clone_string_string]; repeat (first | exact Det.ret _ | exact Det.vc' | apply Det.req | apply Det.giv | apply Det.fork | apply Det.bif' | intro _)
set_option maxRecDepth 200000 in
set_option maxHeartbeats 1000000 in
theorem ok_slices_Clone_string_string : ConOK Try.prog 35 C_slices_Clone_string_string := by
  refine con_mk (wr := false) (ty := tyL [(3, .i), (5, .u), (4, .bool), (9, .str), (80, .int .u64), (26, .st .hash), (24, .list .i), (22, .list .str), (38, .list .u), (33, .st .hash)]) (l := []) trivial Try.checked.mixed (fn := Try.f35) (body := Try.f35.body.getD .skip) Try.func35 rfl (by decide) (by kernel_rfl) rfl an_slices_Clone_string_string fun x ho hx => ?_
  obtain ⟨a, ⟨⟩⟩ := x
  refine Keeps.of (vc_slices_Clone_string_string a) ?_
  revert a ho hx
  show ∀ (a : List (ByteArray)), _
  intro a ho hx
  dsimp only [C_slices_Clone_string_string, okPTL, okPT, Ok, Ty.cells, SN.cells, OkL, OkC, okI, ci, cb, cs, cl] at ho
  dsimp only [C_slices_Clone_string_string, vc, v1, decB, SR.pre] at hx
  simp only [decide_eq_true_eq, decide_eq_false_iff_not, Bool.not_eq_true', Bool.not_eq_false', and_true, true_and, Int.toNat_natCast, exists_eq_left', exists_eq_left, exists_and_left, Int.not_lt, Int.not_le, Bool.false_eq_true, false_implies, implies_true, forall_const, List.length_append, List.length_cons, List.length_nil, Int.sub_add_cancel, Int.add_sub_cancel, and_imp, get_set_iff, forall_eq', forall_eq, List.set_set, mkd_get, mkd_len, List.length_set, Option.some.injEq]; (repeat' first | intro _ | apply And.intro); all_goals (try omega); all_goals grind
def C_impl_sorted : Con := { ps := [.ro (.list .str)], out := fun x => let l : List (ByteArray) := x.1; .req (l.length ≤ 1048576) (newL .str (sortU l)), det := true }
def G_impl_sorted : Cfg := mkG (tyL [(3, .i), (5, .u), (4, .bool), (9, .str), (80, .int .u64), (26, .st .hash), (24, .list .i), (22, .list .str), (38, .list .u), (33, .st .hash)]) [(35, C_slices_Clone_string_string), (59, C_sortS), (60, C_compS), (59, C_sortS), (60, C_compS)] false
def an_impl_sorted : PTL C_impl_sorted.ps → Nat → Option Ann := fun _ _ => none
set_option maxRecDepth 200000 in
theorem vc_impl_sorted (l : List (ByteArray)) : (keeps Try.prog G_impl_sorted (an_impl_sorted (l, ())) (Try.f33.body.getD .skip) Try.f33.results.toList C_impl_sorted (l, ())) = ((((List.length l) ≤ (1048576 : Nat)) ∧
 (((List.length l) ≤ (1048576 : Nat)) ∧
 (((List.length (sortB l)) ≤ (1048576 : Nat)) ∧
 (((List.length (List.take (List.length (compB (sortB l))) (List.drop (0 : Nat) ((compB (sortB l)) ++ (@List.replicate ByteArray ((List.length (sortB l)) - (List.length (compB (sortB l)))) (unS ([] : List UInt8))))))) ≤ (1048576 : Nat)) ∧
 ((@Eq (List ByteArray) (List.take (List.length (compB (sortB l))) (List.drop (0 : Nat) ((compB (sortB l)) ++ (@List.replicate ByteArray ((List.length (sortB l)) - (List.length (compB (sortB l)))) (unS ([] : List UInt8)))))) (sortU l)) ∧
 True)))))) := by kernel_rfl
theorem det_impl_sorted : C_impl_sorted.det = true → ∀ x, (C_impl_sorted.out x).Det := fun _ x => by simp only [C_impl_sorted]; repeat (first | exact Det.ret _ | exact Det.vc' | apply Det.req | apply Det.giv | apply Det.fork | apply Det.bif' | intro _)
set_option maxRecDepth 200000 in
set_option maxHeartbeats 1000000 in
theorem ok_impl_sorted : ConOK Try.prog 33 C_impl_sorted := by
  refine con_mk (wr := false) (ty := tyL [(3, .i), (5, .u), (4, .bool), (9, .str), (80, .int .u64), (26, .st .hash), (24, .list .i), (22, .list .str), (38, .list .u), (33, .st .hash)]) (l := [(35, C_slices_Clone_string_string), (59, C_sortS), (60, C_compS), (59, C_sortS), (60, C_compS)]) ⟨⟨ok_slices_Clone_string_string, det_slices_Clone_string_string⟩, ⟨⟨ok_sortS, det_sortS⟩, ⟨⟨ok_compS, det_compS⟩, ⟨⟨ok_sortS, det_sortS⟩, ⟨⟨ok_compS, det_compS⟩, trivial⟩⟩⟩⟩⟩ Try.checked.mixed (fn := Try.f33) (body := Try.f33.body.getD .skip) Try.func33 rfl (by decide) (by kernel_rfl) rfl an_impl_sorted fun x ho hx => ?_
  obtain ⟨l, ⟨⟩⟩ := x
  refine Keeps.of (vc_impl_sorted l) ?_
  revert l ho hx
  show ∀ (l : List (ByteArray)), _
  intro l ho hx
  dsimp only [C_impl_sorted, okPTL, okPT, Ok, Ty.cells, SN.cells, OkL, OkC, okI, ci, cb, cs, cl] at ho
  dsimp only [C_impl_sorted, vc, v1, decB, SR.pre] at hx
  have h := comp_sort l
  have h1 := sortB_len l
  have h2 := compB_len (sortB l)
  simp only [decide_eq_true_eq, decide_eq_false_iff_not, Bool.not_eq_true', Bool.not_eq_false', and_true, true_and, Int.toNat_natCast, exists_eq_left', exists_eq_left, exists_and_left, Int.not_lt, Int.not_le, Bool.false_eq_true, false_implies, implies_true, forall_const, List.length_append, List.length_cons, List.length_nil, Int.sub_add_cancel, Int.add_sub_cancel, and_imp, get_set_iff, forall_eq', forall_eq, List.set_set, mkd_get, mkd_len, List.length_set, Option.some.injEq]; (repeat' first | intro _ | apply And.intro); all_goals (try omega); all_goals (try (rw [List.take_left' rfl] at *)); all_goals grind
end Go.Proofs.Ytjlgnbdncbcnjaa
