/- Names in order, each once. -/
import Derived.Test.YtpgglbnagphgoaaGreatSortCQ
import Derived.Test.YtpgglbnagphgoaaGreatNamVQ
set_option linter.unusedVariables false
set_option linter.unusedSimpArgs false
set_option maxRecDepth 200000
set_option maxHeartbeats 4000000
namespace Go.Proofs.YtpgglbnagphgoaaGreat
open Go Go.RowKit


def C_slices_Clone_string_string : Con := { ps := [.ro (.list .str)], out := fun x => let a : List (ByteArray) := x.1; .req (a.length ≤ 1048576) (newL .str a), det := true }
abbrev L_slices_Clone_string_string : List (Nat × Con) := []
def G_slices_Clone_string_string : Cfg := GK L_slices_Clone_string_string
def an_slices_Clone_string_string : PTL C_slices_Clone_string_string.ps → Nat → Option Ann := fun _ _ => none
theorem vc_slices_Clone_string_string (a : List (ByteArray)) : (KP Tryz.f106 G_slices_Clone_string_string C_slices_Clone_string_string an_slices_Clone_string_string (a, ())) = ((∀ (b : Bool), (b = true →
 a = ([] : List ByteArray)) →
 (b = true →
 ([] : List ByteArray) = a ∧ True) ∧ (b = false →
 ((0 + a.length) * 16 ≤ 140737488355328 ∧ 0 + a.length ≤ 1000000000000) ∧ a = a ∧ True))) := by kernel_rfl
theorem det_slices_Clone_string_string : C_slices_Clone_string_string.det = true → ∀ x, (C_slices_Clone_string_string.out x).Det := fun _ x => by simp only [C_slices_Clone_string_string]; repeat (first | exact Det.ret _ | exact Det.vc' | apply Det.req)
theorem ok_slices_Clone_string_string : ConOK Tryz.prog 106 C_slices_Clone_string_string := by
 refine con_q (l := L_slices_Clone_string_string) trivial Tryz.func106 rfl (by decide) (by kernel_rfl) rfl an_slices_Clone_string_string fun x ho hx => ?_
 obtain ⟨a, ⟨⟩⟩ := x
 refine Keeps.of (vc_slices_Clone_string_string a) ?_
 revert a ho hx
 show ∀ (a : List (ByteArray)), _
 intro a ho hx
 dsimp only [C_slices_Clone_string_string, okPTL, okPT, Ok, Ty.cells, SN.cells, OkL, OkC, okI, ci, cb, cs, cl] at ho
 dsimp only [C_slices_Clone_string_string, vc, v1, decB, SR.pre] at hx
 (try delta i64 LN); simp only [VBt]; (repeat' first | intro _ | apply And.intro); all_goals (try omega); all_goals grind
def C_impl_sorted : Con := { ps := [.ro (.list .str)], out := fun x => let l : List (ByteArray) := x.1; .req (l.length ≤ 1048576) (newL .str (sortU l)), det := true }
abbrev L_impl_sorted : List (Nat × Con) := [(106, C_slices_Clone_string_string), (107, C_sortS), (108, C_compS), (107, C_sortS), (108, C_compS)]
def G_impl_sorted : Cfg := GK L_impl_sorted
def an_impl_sorted : PTL C_impl_sorted.ps → Nat → Option Ann := fun _ _ => none
theorem vc_impl_sorted (l : List (ByteArray)) : (KP Tryz.f67 G_impl_sorted C_impl_sorted an_impl_sorted (l, ())) = (l.length ≤ 1048576 ∧ l.length ≤ 1048576 ∧ (sortB l).length ≤ 1048576 ∧ (((compB (sortB l) ++ @List.replicate ByteArray ((sortB l).length - (compB (sortB l)).length) (unS ([] : List UInt8))).drop 0).take (compB (sortB l)).length).length ≤ 1048576 ∧ ((compB (sortB l) ++ @List.replicate ByteArray ((sortB l).length - (compB (sortB l)).length) (unS ([] : List UInt8))).drop 0).take (compB (sortB l)).length = sortU l ∧ True) := by kernel_rfl
theorem det_impl_sorted : C_impl_sorted.det = true → ∀ x, (C_impl_sorted.out x).Det := fun _ x => by simp only [C_impl_sorted]; repeat (first | exact Det.ret _ | exact Det.vc' | apply Det.req)
theorem ok_impl_sorted : ConOK Tryz.prog 67 C_impl_sorted := by
 refine con_q (l := L_impl_sorted) ⟨⟨ok_slices_Clone_string_string, det_slices_Clone_string_string⟩, ⟨⟨ok_sortS, det_sortS⟩, ⟨⟨ok_compS, det_compS⟩, ⟨⟨ok_sortS, det_sortS⟩, ⟨⟨ok_compS, det_compS⟩, trivial⟩⟩⟩⟩⟩ Tryz.func67 rfl (by decide) (by kernel_rfl) rfl an_impl_sorted fun x ho hx => ?_
 obtain ⟨l, ⟨⟩⟩ := x
 refine Keeps.of (vc_impl_sorted l) ?_
 revert l ho hx
 show ∀ (l : List (ByteArray)), _
 intro l ho hx
 dsimp only [C_impl_sorted, okPTL, okPT, Ok, Ty.cells, SN.cells, OkL, OkC, okI, ci, cb, cs, cl] at ho
 dsimp only [C_impl_sorted, vc, v1, decB, SR.pre] at hx
 have h := comp_sort l
 have h1 := sortB_len l
 have h2 := compB_len (sortB l)
 (try delta i64 LN); simp only [VBt]; (repeat' first | intro _ | apply And.intro); all_goals (try omega); all_goals (try (rw [List.take_left' rfl] at *)); all_goals grind
end Go.Proofs.YtpgglbnagphgoaaGreat
