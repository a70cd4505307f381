/- Fixups filled in. -/
import Derived.Test.YtdghhckdjbpfbaaFixD
import Derived.Test.YtdghhckdjbpfbaaLib
set_option linter.unusedVariables false
set_option linter.unusedSimpArgs false
namespace Go.Proofs.Ytdghhckdjbpfbaa
open Go Go.RowKit


def C_impl_ApplyFixup : Con := { ps := [.ro (.list .u), .ro .i, .ro (.st .fixup), .ro .i], out := fun x => let b : List (Int) := x.1; let p : Int := x.2.1; let f : Fixup := x.2.2.1; let t : Int := x.2.2.2.1; .req (b.length ≤ 1048576) (newLB .u (fxApp b p f t) (fxVal b p f t).isSome), det := true }
def G_impl_ApplyFixup : Cfg := mkG (tyL [(3, .i), (5, .u), (4, .bool), (9, .str), (126, .int .u64), (45, .st .fixup), (24, .st .img), (91, .st .patch), (65, .st .hash), (63, .list .i), (61, .list .str), (22, .list .u), (41, .st .fixup), (33, .st .img), (72, .st .hash)]) [(77, C_slices_Clone_byte_byte), (41, C_impl_FixupWide), (78, C_impl_within), (42, C_impl_FixupValue), (79, C_impl_PutNumber)] false
def an_impl_ApplyFixup : PTL C_impl_ApplyFixup.ps → Nat → Option Ann := fun _ _ => none
set_option maxRecDepth 200000 in
theorem vc_impl_ApplyFixup (b : List (Int)) (p : Int) (f : Fixup) (t : Int) : (keeps Try.prog G_impl_ApplyFixup (an_impl_ApplyFixup (b, p, f, t, ())) (Try.f30.body.getD .skip) Try.f30.results.toList C_impl_ApplyFixup (b, p, f, t, ())) = ((((List.length b) ≤ (1048576 : Nat)) ∧
 ((((Bool.not (decide (((0 : Int) ≤ p) ∧
 (p ≤ (100000 : Int))))) = true) →
 ((false = (@Option.isSome Int (fxVal b p f t))) ∧
 ((@Eq (List Int) b (fxApp b p f t)) ∧
 True))) ∧
 (((Bool.not (decide (((0 : Int) ≤ p) ∧
 (p ≤ (100000 : Int))))) = false) →
 ((((decide ((fixWide (Fixup.kind f)) = (0 : Int))) = true) →
 ((false = (@Option.isSome Int (fxVal b p f t))) ∧
 ((@Eq (List Int) b (fxApp b p f t)) ∧
 True))) ∧
 (((decide ((fixWide (Fixup.kind f)) = (0 : Int))) = false) →
 (((List.length b) ≤ (9223372036854775807 : Nat)) →
 ((((- (9223372036854775808 : Int)) ≤ ((@Nat.cast Int _ (List.length b)) - (fixWide (Fixup.kind f)))) ∧
 (((@Nat.cast Int _ (List.length b)) - (fixWide (Fixup.kind f))) ≤ (9223372036854775807 : Int))) ∧
 ((((Bool.not (decide (((0 : Int) ≤ (Fixup.at_ f)) ∧
 ((Fixup.at_ f) ≤ ((@Nat.cast Int _ (List.length b)) - (fixWide (Fixup.kind f))))))) = true) →
 ((false = (@Option.isSome Int (fxVal b p f t))) ∧
 ((@Eq (List Int) b (fxApp b p f t)) ∧
 True))) ∧
 (((Bool.not (decide (((0 : Int) ≤ (Fixup.at_ f)) ∧
 ((Fixup.at_ f) ≤ ((@Nat.cast Int _ (List.length b)) - (fixWide (Fixup.kind f))))))) = false) →
 ((((- (9223372036854775808 : Int)) ≤ (p + (Fixup.at_ f))) ∧
 ((p + (Fixup.at_ f)) ≤ (9223372036854775807 : Int))) ∧
 ((((Bool.not (@Option.isSome Int (fixVal (Fixup.kind f) (p + (Fixup.at_ f)) t (Fixup.add f)))) = true) →
 ((false = (@Option.isSome Int (fxVal b p f t))) ∧
 ((@Eq (List Int) b (fxApp b p f t)) ∧
 True))) ∧
 (((Bool.not (@Option.isSome Int (fixVal (Fixup.kind f) (p + (Fixup.at_ f)) t (Fixup.add f)))) = false) →
 ((((0 : Int) ≤ (Fixup.at_ f)) ∧
 ((Fixup.at_ f) ≤ (@Nat.cast Int _ (List.length b)))) ∧
 ((((Int.toNat (Fixup.at_ f)) + ((List.length b) - (Int.toNat (Fixup.at_ f)))) ≤ (List.length b)) →
 ((true = (@Option.isSome Int (fxVal b p f t))) ∧
 ((@Eq (List Int) (((List.take (Int.toNat (Fixup.at_ f)) b) ++ (List.take ((List.length b) - (Int.toNat (Fixup.at_ f))) (putN (@Option.getD Int (fixVal (Fixup.kind f) (p + (Fixup.at_ f)) t (Fixup.add f)) (0 : Int)) (fixWide (Fixup.kind f))))) ++ (List.drop ((Int.toNat (Fixup.at_ f)) + (@Min.min Nat _ (List.length (putN (@Option.getD Int (fixVal (Fixup.kind f) (p + (Fixup.at_ f)) t (Fixup.add f)) (0 : Int)) (fixWide (Fixup.kind f)))) ((List.length b) - (Int.toNat (Fixup.at_ f))))) b)) (fxApp b p f t)) ∧
 True))))))))))))))))) := by kernel_rfl
theorem det_impl_ApplyFixup : C_impl_ApplyFixup.det = true → ∀ x, (C_impl_ApplyFixup.out x).Det := fun _ x => by simp only [C_impl_ApplyFixup]; repeat (first | exact Det.ret _ | exact Det.vc' | apply Det.req | apply Det.giv | apply Det.fork | apply Det.bif' | intro _)
set_option maxRecDepth 200000 in
set_option maxHeartbeats 1000000 in
theorem ok_impl_ApplyFixup : ConOK Try.prog 30 C_impl_ApplyFixup := by
  refine con_mk (wr := false) (ty := tyL [(3, .i), (5, .u), (4, .bool), (9, .str), (126, .int .u64), (45, .st .fixup), (24, .st .img), (91, .st .patch), (65, .st .hash), (63, .list .i), (61, .list .str), (22, .list .u), (41, .st .fixup), (33, .st .img), (72, .st .hash)]) (l := [(77, C_slices_Clone_byte_byte), (41, C_impl_FixupWide), (78, C_impl_within), (42, C_impl_FixupValue), (79, C_impl_PutNumber)]) ⟨⟨ok_slices_Clone_byte_byte, det_slices_Clone_byte_byte⟩, ⟨⟨ok_impl_FixupWide, det_impl_FixupWide⟩, ⟨⟨ok_impl_within, det_impl_within⟩, ⟨⟨ok_impl_FixupValue, det_impl_FixupValue⟩, ⟨⟨ok_impl_PutNumber, det_impl_PutNumber⟩, trivial⟩⟩⟩⟩⟩ Try.checked.mixed (fn := Try.f30) (body := Try.f30.body.getD .skip) Try.func30 rfl (by decide) (by kernel_rfl) rfl an_impl_ApplyFixup fun x ho hx => ?_
  obtain ⟨b, p, f, t, ⟨⟩⟩ := x
  refine Keeps.of (vc_impl_ApplyFixup b p f t) ?_
  revert b p f t ho hx
  show ∀ (b : List (Int)) (p : Int) (f : Fixup) (t : Int), _
  intro b p f t ho hx
  dsimp only [C_impl_ApplyFixup, okPTL, okPT, Ok, Ty.cells, SN.cells, OkL, OkC, okI, ci, cb, cs, cl] at ho
  dsimp only [C_impl_ApplyFixup, vc, v1, decB, SR.pre] at hx
  have hw := fixWide_le f.kind
  have he := fxVal_eq b p f t
  have hn := @fxApp_none b p f t
  have hc := @fxApp_copy b p f t
  have hok : fxOk b p f = decide (0 ≤ p ∧ p ≤ 100000 ∧ fixWide f.kind ≠ 0 ∧ 0 ≤ f.at_ ∧ f.at_ ≤ b.length - fixWide f.kind) := rfl
  cases hv : fixVal f.kind (p + f.at_) t f.add <;> (simp only [decide_eq_true_eq, decide_eq_false_iff_not, Bool.not_eq_true', Bool.not_eq_false', and_true, true_and, Int.toNat_natCast, exists_eq_left', exists_eq_left, exists_and_left, Int.not_lt, Int.not_le, Bool.false_eq_true, false_implies, implies_true, forall_const, List.length_append, List.length_cons, List.length_nil, Int.sub_add_cancel, Int.add_sub_cancel, and_imp, get_set_iff, forall_eq', forall_eq, List.set_set, mkd_get, mkd_len, List.length_set, Option.some.injEq]; (repeat' first | intro _ | apply And.intro); all_goals (try omega); all_goals grind)
def C_spec_ApplyFixup : Con := { ps := [.ro (.list .u), .ro .i, .ro (.st .fixup), .ro .i], out := fun x => let b : List (Int) := x.1; let p : Int := x.2.1; let f : Fixup := x.2.2.1; let t : Int := x.2.2.2.1; .req (b.length ≤ 1048576) (newLB .u (fxApp b p f t) (fxVal b p f t).isSome), det := true }
def G_spec_ApplyFixup : Cfg := mkG (tyL [(3, .i), (5, .u), (4, .bool), (9, .str), (126, .int .u64), (45, .st .fixup), (24, .st .img), (91, .st .patch), (65, .st .hash), (63, .list .i), (61, .list .str), (22, .list .u), (41, .st .fixup), (33, .st .img), (72, .st .hash)]) [(73, C_spec_FixupWide), (74, C_spec_l1In), (75, C_spec_FixupValue), (76, C_spec_PutNumber)] false
def an_spec_ApplyFixup : PTL C_spec_ApplyFixup.ps → Nat → Option Ann := fun x kk_ => let b : List (Int) := x.1; let p : Int := x.2.1; let f : Fixup := x.2.2.1; let t : Int := x.2.2.2.1; if kk_ = 10 then some (.all (Int) fun k => .giv ((fxVal b p f t).isSome = true ∧ 0 ≤ k ∧ k ≤ fixWide f.kind) (.mk [(10, asl 20), (11, ai (fixWide f.kind)), (14, al .u (putN ((fxVal b p f t).getD 0) (fixWide f.kind))), (15, ai k), (6, aref 66)] [(20, .row (some 5) .u (fxFill b f.at_.toNat (putN ((fxVal b p f t).getD 0) (fixWide f.kind)) k.toNat) true), (66, bx (ast .fixup f))] ((fixWide f.kind - k).toNat))) else none
set_option maxRecDepth 200000 in
theorem vc_spec_ApplyFixup (b : List (Int)) (p : Int) (f : Fixup) (t : Int) : (keeps Try.prog G_spec_ApplyFixup (an_spec_ApplyFixup (b, p, f, t, ())) (Try.f27.body.getD .skip) Try.f27.results.toList C_spec_ApplyFixup (b, p, f, t, ())) = (((((((0 : Nat) + (List.length b)) * (1 : Nat)) ≤ (140737488355328 : Nat)) ∧
 (((0 : Nat) + (List.length b)) ≤ (1000000000000 : Nat))) ∧
 ((((decide ((fixWide (Fixup.kind f)) = (0 : Int))) = true) →
 ((false = (@Option.isSome Int (fxVal b p f t))) ∧
 ((@Eq (List Int) b (fxApp b p f t)) ∧
 True))) ∧
 (((decide ((fixWide (Fixup.kind f)) = (0 : Int))) = false) →
 (((List.length b) ≤ (9223372036854775807 : Nat)) →
 ((((- (9223372036854775808 : Int)) ≤ ((@Nat.cast Int _ (List.length b)) - (fixWide (Fixup.kind f)))) ∧
 (((@Nat.cast Int _ (List.length b)) - (fixWide (Fixup.kind f))) ≤ (9223372036854775807 : Int))) ∧
 ((((Bool.not (decide (((0 : Int) ≤ (Fixup.at_ f)) ∧
 ((Fixup.at_ f) ≤ ((@Nat.cast Int _ (List.length b)) - (fixWide (Fixup.kind f))))))) = true) →
 ((false = (@Option.isSome Int (fxVal b p f t))) ∧
 ((@Eq (List Int) b (fxApp b p f t)) ∧
 True))) ∧
 (((Bool.not (decide (((0 : Int) ≤ (Fixup.at_ f)) ∧
 ((Fixup.at_ f) ≤ ((@Nat.cast Int _ (List.length b)) - (fixWide (Fixup.kind f))))))) = false) →
 ((((Bool.not (decide (((0 : Int) ≤ p) ∧
 (p ≤ (100000 : Int))))) = true) →
 ((false = (@Option.isSome Int (fxVal b p f t))) ∧
 ((@Eq (List Int) b (fxApp b p f t)) ∧
 True))) ∧
 (((Bool.not (decide (((0 : Int) ≤ p) ∧
 (p ≤ (100000 : Int))))) = false) →
 ((((- (9223372036854775808 : Int)) ≤ (p + (Fixup.at_ f))) ∧
 ((p + (Fixup.at_ f)) ≤ (9223372036854775807 : Int))) ∧
 ((((Bool.not (@Option.isSome Int (fixVal (Fixup.kind f) (p + (Fixup.at_ f)) t (Fixup.add f)))) = true) →
 ((false = (@Option.isSome Int (fxVal b p f t))) ∧
 ((@Eq (List Int) b (fxApp b p f t)) ∧
 True))) ∧
 (((Bool.not (@Option.isSome Int (fixVal (Fixup.kind f) (p + (Fixup.at_ f)) t (Fixup.add f)))) = false) →
 ((∃ (x_1 : Int), (((fixWide (Fixup.kind f)) = (fixWide (Fixup.kind f))) ∧
 ((@Eq (List Int) (putN (@Option.getD Int (fixVal (Fixup.kind f) (p + (Fixup.at_ f)) t (Fixup.add f)) (0 : Int)) (fixWide (Fixup.kind f))) (putN (@Option.getD Int (fxVal b p f t) (0 : Int)) (fixWide (Fixup.kind f)))) ∧
 (((0 : Int) = x_1) ∧
 ((@Eq (List Int) b (fxFill b (Int.toNat (Fixup.at_ f)) (putN (@Option.getD Int (fxVal b p f t) (0 : Int)) (fixWide (Fixup.kind f))) (Int.toNat x_1))) ∧
 (((Fixup.at_ f) = (Fixup.at_ f)) ∧
 (((Fixup.kind f) = (Fixup.kind f)) ∧
 (((Fixup.to f) = (Fixup.to f)) ∧
 (((Fixup.add f) = (Fixup.add f)) ∧
 ((((@Option.isSome Int (fxVal b p f t)) = true) ∧
 (((0 : Int) ≤ x_1) ∧
 (x_1 ≤ (fixWide (Fixup.kind f))))) ∧
 True)))))))))) ∧
 (∀ (x_2 : Int), ((((@Option.isSome Int (fxVal b p f t)) = true) ∧
 (((0 : Int) ≤ x_2) ∧
 (x_2 ≤ (fixWide (Fixup.kind f))))) →
 ((((decide (x_2 < (fixWide (Fixup.kind f)))) = true) →
 ((((- (9223372036854775808 : Int)) ≤ ((Fixup.at_ f) + x_2)) ∧
 (((Fixup.at_ f) + x_2) ≤ (9223372036854775807 : Int))) ∧
 ((((0 : Int) ≤ x_2) ∧
 (x_2 < (@Nat.cast Int _ (List.length (putN (@Option.getD Int (fxVal b p f t) (0 : Int)) (fixWide (Fixup.kind f))))))) ∧
 (∀ (x_3 : Int), ((@Eq (Option Int) ((putN (@Option.getD Int (fxVal b p f t) (0 : Int)) (fixWide (Fixup.kind f))))[(Int.toNat x_2)]? (some x_3)) →
 ((Ok (Ty.int IntKind.u8) x_3) →
 ((((0 : Int) ≤ ((Fixup.at_ f) + x_2)) ∧
 (((Fixup.at_ f) + x_2) < (@Nat.cast Int _ (List.length (fxFill b (Int.toNat (Fixup.at_ f)) (putN (@Option.getD Int (fxVal b p f t) (0 : Int)) (fixWide (Fixup.kind f))) (Int.toNat x_2)))))) ∧
 (∀ (x_4 : Int), ((@Eq (Option Int) ((fxFill b (Int.toNat (Fixup.at_ f)) (putN (@Option.getD Int (fxVal b p f t) (0 : Int)) (fixWide (Fixup.kind f))) (Int.toNat x_2)))[(Int.toNat ((Fixup.at_ f) + x_2))]? (some x_4)) →
 ((((- (9223372036854775808 : Int)) ≤ (x_2 + (1 : Int))) ∧
 ((x_2 + (1 : Int)) ≤ (9223372036854775807 : Int))) ∧
 (∃ (x_5 : Int), (((fixWide (Fixup.kind f)) = (fixWide (Fixup.kind f))) ∧
 ((@Eq (List Int) (putN (@Option.getD Int (fxVal b p f t) (0 : Int)) (fixWide (Fixup.kind f))) (putN (@Option.getD Int (fxVal b p f t) (0 : Int)) (fixWide (Fixup.kind f)))) ∧
 (((x_2 + (1 : Int)) = x_5) ∧
 ((@Eq (List Int) (List.set (fxFill b (Int.toNat (Fixup.at_ f)) (putN (@Option.getD Int (fxVal b p f t) (0 : Int)) (fixWide (Fixup.kind f))) (Int.toNat x_2)) (Int.toNat ((Fixup.at_ f) + x_2)) x_3) (fxFill b (Int.toNat (Fixup.at_ f)) (putN (@Option.getD Int (fxVal b p f t) (0 : Int)) (fixWide (Fixup.kind f))) (Int.toNat x_5))) ∧
 (((Fixup.at_ f) = (Fixup.at_ f)) ∧
 (((Fixup.kind f) = (Fixup.kind f)) ∧
 (((Fixup.to f) = (Fixup.to f)) ∧
 (((Fixup.add f) = (Fixup.add f)) ∧
 ((((@Option.isSome Int (fxVal b p f t)) = true) ∧
 (((0 : Int) ≤ x_5) ∧
 (x_5 ≤ (fixWide (Fixup.kind f))))) ∧
 ((Int.toNat ((fixWide (Fixup.kind f)) - x_5)) < (Int.toNat ((fixWide (Fixup.kind f)) - x_2))))))))))))))))))))))) ∧
 (((decide (x_2 < (fixWide (Fixup.kind f)))) = false) →
 ((true = (@Option.isSome Int (fxVal b p f t))) ∧
 ((@Eq (List Int) (fxFill b (Int.toNat (Fixup.at_ f)) (putN (@Option.getD Int (fxVal b p f t) (0 : Int)) (fixWide (Fixup.kind f))) (Int.toNat x_2)) (fxApp b p f t)) ∧
 True)))))))))))))))))))) := by kernel_rfl
theorem det_spec_ApplyFixup : C_spec_ApplyFixup.det = true → ∀ x, (C_spec_ApplyFixup.out x).Det := fun _ x => by simp only [C_spec_ApplyFixup]; repeat (first | exact Det.ret _ | exact Det.vc' | apply Det.req | apply Det.giv | apply Det.fork | apply Det.bif' | intro _)
set_option maxRecDepth 200000 in
set_option maxHeartbeats 1000000 in
theorem ok_spec_ApplyFixup : ConOK Try.prog 27 C_spec_ApplyFixup := by
  refine con_mk (wr := false) (ty := tyL [(3, .i), (5, .u), (4, .bool), (9, .str), (126, .int .u64), (45, .st .fixup), (24, .st .img), (91, .st .patch), (65, .st .hash), (63, .list .i), (61, .list .str), (22, .list .u), (41, .st .fixup), (33, .st .img), (72, .st .hash)]) (l := [(73, C_spec_FixupWide), (74, C_spec_l1In), (75, C_spec_FixupValue), (76, C_spec_PutNumber)]) ⟨⟨ok_spec_FixupWide, det_spec_FixupWide⟩, ⟨⟨ok_spec_l1In, det_spec_l1In⟩, ⟨⟨ok_spec_FixupValue, det_spec_FixupValue⟩, ⟨⟨ok_spec_PutNumber, det_spec_PutNumber⟩, trivial⟩⟩⟩⟩ Try.checked.mixed (fn := Try.f27) (body := Try.f27.body.getD .skip) Try.func27 rfl (by decide) (by kernel_rfl) rfl an_spec_ApplyFixup fun x ho hx => ?_
  obtain ⟨b, p, f, t, ⟨⟩⟩ := x
  refine Keeps.of (vc_spec_ApplyFixup b p f t) ?_
  revert b p f t ho hx
  show ∀ (b : List (Int)) (p : Int) (f : Fixup) (t : Int), _
  intro b p f t ho hx
  dsimp only [C_spec_ApplyFixup, okPTL, okPT, Ok, Ty.cells, SN.cells, OkL, OkC, okI, ci, cb, cs, cl] at ho
  dsimp only [C_spec_ApplyFixup, vc, v1, decB, SR.pre] at hx
  have hw := fixWide_le f.kind
  have he := fxVal_eq b p f t
  have hn := @fxApp_none b p f t
  have hc := @fxApp_some b p f t
  have hok : fxOk b p f = decide (0 ≤ p ∧ p ≤ 100000 ∧ fixWide f.kind ≠ 0 ∧ 0 ≤ f.at_ ∧ f.at_ ≤ b.length - fixWide f.kind) := rfl
  cases hv : fixVal f.kind (p + f.at_) t f.add <;> (simp only [decide_eq_true_eq, decide_eq_false_iff_not, Bool.not_eq_true', Bool.not_eq_false', and_true, true_and, Int.toNat_natCast, exists_eq_left', exists_eq_left, exists_and_left, Int.not_lt, Int.not_le, Bool.false_eq_true, false_implies, implies_true, forall_const, List.length_append, List.length_cons, List.length_nil, Int.sub_add_cancel, Int.add_sub_cancel, and_imp, get_set_iff, forall_eq', forall_eq, List.set_set, mkd_get, mkd_len, List.length_set, Option.some.injEq]; (repeat' first | intro _ | apply And.intro); all_goals (try omega); all_goals first | exact fxFill_set' (by omega) (by omega) (by omega) (by assumption) | grind [fxFill_zero, fxFill_len])
end Go.Proofs.Ytdghhckdjbpfbaa
