/- The laws' families: structs. -/
import Derived.Test.YtdghhckdjbpfbaaFamB
set_option linter.unusedVariables false
set_option linter.unusedSimpArgs false
namespace Go.Proofs.Ytdghhckdjbpfbaa
open Go Go.RowKit


def C_laws_eqPatch : Con := { ps := [.ro (.st .patch), .ro (.st .patch)], out := fun x => let a : Patch := x.1; let b : Patch := x.2.1; vc .bool (decide (a = b)), det := true }
def G_laws_eqPatch : Cfg := mkG (tyL [(3, .i), (5, .u), (4, .bool), (9, .str), (126, .int .u64), (45, .st .fixup), (24, .st .img), (91, .st .patch), (65, .st .hash), (63, .list .i), (61, .list .str), (22, .list .u), (41, .st .fixup), (33, .st .img), (72, .st .hash)]) [(31, C_laws_eqByteS)] false
def an_laws_eqPatch : PTL C_laws_eqPatch.ps → Nat → Option Ann := fun _ _ => none
set_option maxRecDepth 200000 in
theorem vc_laws_eqPatch (a : Patch) (b : Patch) : (keeps Try.prog G_laws_eqPatch (an_laws_eqPatch (a, b, ())) (Try.f72.body.getD .skip) Try.f72.results.toList C_laws_eqPatch (a, b, ())) = (((((decide ((Patch.at_ a) ≠ (Patch.at_ b))) = true) →
 ((false = (decide (@Eq Patch a b))) ∧
 True)) ∧
 (((decide ((Patch.at_ a) ≠ (Patch.at_ b))) = false) →
 ((((Bool.not (decide (@Eq (List Int) (Patch.bytes a) (Patch.bytes b)))) = true) →
 ((false = (decide (@Eq Patch a b))) ∧
 True)) ∧
 (((Bool.not (decide (@Eq (List Int) (Patch.bytes a) (Patch.bytes b)))) = false) →
 ((true = (decide (@Eq Patch a b))) ∧
 True)))))) := by kernel_rfl
theorem det_laws_eqPatch : C_laws_eqPatch.det = true → ∀ x, (C_laws_eqPatch.out x).Det := fun _ x => by simp only [C_laws_eqPatch]; repeat (first | exact Det.ret _ | exact Det.vc' | apply Det.req | apply Det.giv | apply Det.fork | apply Det.bif' | intro _)
set_option maxRecDepth 200000 in
set_option maxHeartbeats 1000000 in
theorem ok_laws_eqPatch : ConOK Try.prog 72 C_laws_eqPatch := by
  refine con_mk (wr := false) (ty := tyL [(3, .i), (5, .u), (4, .bool), (9, .str), (126, .int .u64), (45, .st .fixup), (24, .st .img), (91, .st .patch), (65, .st .hash), (63, .list .i), (61, .list .str), (22, .list .u), (41, .st .fixup), (33, .st .img), (72, .st .hash)]) (l := [(31, C_laws_eqByteS)]) ⟨⟨ok_laws_eqByteS, det_laws_eqByteS⟩, trivial⟩ Try.checked.mixed (fn := Try.f72) (body := Try.f72.body.getD .skip) Try.func72 rfl (by decide) (by kernel_rfl) rfl an_laws_eqPatch fun x ho hx => ?_
  obtain ⟨a, b, ⟨⟩⟩ := x
  refine Keeps.of (vc_laws_eqPatch a b) ?_
  revert a b ho hx
  show ∀ (a : Patch) (b : Patch), _
  intro a b ho hx
  dsimp only [C_laws_eqPatch, okPTL, okPT, Ok, Ty.cells, SN.cells, OkL, OkC, okI, ci, cb, cs, cl] at ho
  dsimp only [C_laws_eqPatch, vc, v1, decB, SR.pre] at hx
  simp only [decide_eq_true_eq, decide_eq_false_iff_not, Bool.not_eq_true', Bool.not_eq_false', and_true, true_and, Int.toNat_natCast, exists_eq_left', exists_eq_left, exists_and_left, Int.not_lt, Int.not_le, Bool.false_eq_true, false_implies, implies_true, forall_const, List.length_append, List.length_cons, List.length_nil, Int.sub_add_cancel, Int.add_sub_cancel, and_imp, get_set_iff, forall_eq', forall_eq, List.set_set, mkd_get, mkd_len, List.length_set, Option.some.injEq]; (repeat' first | intro _ | apply And.intro); all_goals (try omega); all_goals (first | grind [cases Img] | (cases a; cases b; simp_all; done) | (obtain ⟨⟨_, _⟩, _⟩ := a; obtain ⟨⟨_, _⟩, _⟩ := b; simp_all; done) | (obtain ⟨_, _, _⟩ := a; obtain ⟨_, _, _⟩ := b; simp_all; done) | (obtain ⟨_, ⟨_, _⟩⟩ := a; obtain ⟨_, ⟨_, _⟩⟩ := b; simp_all; done))
def C_laws_eqPatchS : Con := { ps := [.ro (.list (.st .patch)), .ro (.list (.st .patch))], out := fun x => let a : List (Patch) := x.1; let b : List (Patch) := x.2.1; vc .bool (decide (a = b)), det := true }
def G_laws_eqPatchS : Cfg := mkG (tyL [(3, .i), (5, .u), (4, .bool), (9, .str), (126, .int .u64), (45, .st .fixup), (24, .st .img), (91, .st .patch), (65, .st .hash), (63, .list .i), (61, .list .str), (22, .list .u), (41, .st .fixup), (33, .st .img), (72, .st .hash)]) [(72, C_laws_eqPatch)] false
def an_laws_eqPatchS : PTL C_laws_eqPatchS.ps → Nat → Option Ann := fun x kk_ => let a : List (Patch) := x.1; let b : List (Patch) := x.2.1; if kk_ = 4 then some (.all (Int) fun i => .giv (0 ≤ i ∧ i ≤ a.length ∧ a.length = b.length ∧ a.take i.toNat = b.take i.toNat) (.mk [(5, ai i), (0, al (.st .patch) a), (1, al (.st .patch) b)] [] ((a.length - i.toNat)))) else none
set_option maxRecDepth 200000 in
theorem vc_laws_eqPatchS (a : List (Patch)) (b : List (Patch)) : (keeps Try.prog G_laws_eqPatchS (an_laws_eqPatchS (a, b, ())) (Try.f22.body.getD .skip) Try.f22.results.toList C_laws_eqPatchS (a, b, ())) = ((((List.length a) ≤ (9223372036854775807 : Nat)) →
 (((List.length b) ≤ (9223372036854775807 : Nat)) →
 ((((decide ((@Nat.cast Int _ (List.length a)) ≠ (@Nat.cast Int _ (List.length b)))) = true) →
 ((false = (decide (@Eq (List Patch) a b))) ∧
 True)) ∧
 (((decide ((@Nat.cast Int _ (List.length a)) ≠ (@Nat.cast Int _ (List.length b)))) = false) →
 ((∃ (x_1 : Int), (((0 : Int) = x_1) ∧
 ((@Eq (List Patch) a a) ∧
 ((@Eq (List Patch) b b) ∧
 ((((0 : Int) ≤ x_1) ∧
 ((x_1 ≤ (@Nat.cast Int _ (List.length a))) ∧
 (((List.length a) = (List.length b)) ∧
 (@Eq (List Patch) (List.take (Int.toNat x_1) a) (List.take (Int.toNat x_1) b))))) ∧
 True))))) ∧
 (∀ (x_2 : Int), ((((0 : Int) ≤ x_2) ∧
 ((x_2 ≤ (@Nat.cast Int _ (List.length a))) ∧
 (((List.length a) = (List.length b)) ∧
 (@Eq (List Patch) (List.take (Int.toNat x_2) a) (List.take (Int.toNat x_2) b))))) →
 (((List.length a) ≤ (9223372036854775807 : Nat)) →
 ((((decide (x_2 < (@Nat.cast Int _ (List.length a)))) = true) →
 ((((0 : Int) ≤ x_2) ∧
 (x_2 < (@Nat.cast Int _ (List.length a)))) ∧
 (∀ (x_3 : Patch), ((@Eq (Option Patch) (a)[(Int.toNat x_2)]? (some x_3)) →
 ((Ok (Ty.st SN.patch) x_3) →
 ((((0 : Int) ≤ x_2) ∧
 (x_2 < (@Nat.cast Int _ (List.length b)))) ∧
 (∀ (x_4 : Patch), ((@Eq (Option Patch) (b)[(Int.toNat x_2)]? (some x_4)) →
 ((Ok (Ty.st SN.patch) x_4) →
 ((((Bool.not (decide (@Eq Patch x_3 x_4))) = true) →
 ((false = (decide (@Eq (List Patch) a b))) ∧
 True)) ∧
 (((Bool.not (decide (@Eq Patch x_3 x_4))) = false) →
 ((((- (9223372036854775808 : Int)) ≤ (x_2 + (1 : Int))) ∧
 ((x_2 + (1 : Int)) ≤ (9223372036854775807 : Int))) ∧
 (∃ (x_5 : Int), (((x_2 + (1 : Int)) = x_5) ∧
 ((@Eq (List Patch) a a) ∧
 ((@Eq (List Patch) b b) ∧
 ((((0 : Int) ≤ x_5) ∧
 ((x_5 ≤ (@Nat.cast Int _ (List.length a))) ∧
 (((List.length a) = (List.length b)) ∧
 (@Eq (List Patch) (List.take (Int.toNat x_5) a) (List.take (Int.toNat x_5) b))))) ∧
 (((List.length a) - (Int.toNat x_5)) < ((List.length a) - (Int.toNat x_2)))))))))))))))))))) ∧
 (((decide (x_2 < (@Nat.cast Int _ (List.length a)))) = false) →
 ((true = (decide (@Eq (List Patch) a b))) ∧
 True)))))))))))) := by kernel_rfl
theorem det_laws_eqPatchS : C_laws_eqPatchS.det = true → ∀ x, (C_laws_eqPatchS.out x).Det := fun _ x => by simp only [C_laws_eqPatchS]; repeat (first | exact Det.ret _ | exact Det.vc' | apply Det.req | apply Det.giv | apply Det.fork | apply Det.bif' | intro _)
set_option maxRecDepth 200000 in
set_option maxHeartbeats 1000000 in
theorem ok_laws_eqPatchS : ConOK Try.prog 22 C_laws_eqPatchS := by
  refine con_mk (wr := false) (ty := tyL [(3, .i), (5, .u), (4, .bool), (9, .str), (126, .int .u64), (45, .st .fixup), (24, .st .img), (91, .st .patch), (65, .st .hash), (63, .list .i), (61, .list .str), (22, .list .u), (41, .st .fixup), (33, .st .img), (72, .st .hash)]) (l := [(72, C_laws_eqPatch)]) ⟨⟨ok_laws_eqPatch, det_laws_eqPatch⟩, trivial⟩ Try.checked.mixed (fn := Try.f22) (body := Try.f22.body.getD .skip) Try.func22 rfl (by decide) (by kernel_rfl) rfl an_laws_eqPatchS fun x ho hx => ?_
  obtain ⟨a, b, ⟨⟩⟩ := x
  refine Keeps.of (vc_laws_eqPatchS a b) ?_
  revert a b ho hx
  show ∀ (a : List (Patch)) (b : List (Patch)), _
  intro a b ho hx
  dsimp only [C_laws_eqPatchS, okPTL, okPT, Ok, Ty.cells, SN.cells, OkL, OkC, okI, ci, cb, cs, cl] at ho
  dsimp only [C_laws_eqPatchS, vc, v1, decB, SR.pre] at hx
  simp only [decide_eq_true_eq, decide_eq_false_iff_not, Bool.not_eq_true', Bool.not_eq_false', and_true, true_and, Int.toNat_natCast, exists_eq_left', exists_eq_left, exists_and_left, Int.not_lt, Int.not_le, Bool.false_eq_true, false_implies, implies_true, forall_const, List.length_append, List.length_cons, List.length_nil, Int.sub_add_cancel, Int.add_sub_cancel, and_imp, get_set_iff, forall_eq', forall_eq, List.set_set, mkd_get, mkd_len, List.length_set, Option.some.injEq]; (repeat' first | intro _ | apply And.intro); all_goals (try omega); all_goals first | grind [take_all', take_next, take_diff] | exact take_next2 (by omega) (by assumption) (by assumption) (by assumption) (by assumption) | exact take_diff2 (by assumption) (by assumption) (by assumption)
def C_laws_markPatchS : Con := { ps := [.row none (.st .patch), .ro .i], out := fun x => let a : List (Patch) := x.1; let k : Int := x.2.1; .req (0 ≤ k ∧ k + sumI cPa a ≤ 1000000000000) (turnL (.st .patch) (mkL mkPa cPa a k) (k + sumI cPa a)), det := true }
def G_laws_markPatchS : Cfg := mkG (tyL [(3, .i), (5, .u), (4, .bool), (9, .str), (126, .int .u64), (45, .st .fixup), (24, .st .img), (91, .st .patch), (65, .st .hash), (63, .list .i), (61, .list .str), (22, .list .u), (41, .st .fixup), (33, .st .img), (72, .st .hash)]) [(32, C_laws_markByteS)] false
def an_laws_markPatchS : PTL C_laws_markPatchS.ps → Nat → Option Ann := fun x kk_ => let a : List (Patch) := x.1; let k : Int := x.2.1; if kk_ = 2 then some (.all (Int) fun i => .giv (0 ≤ i ∧ i ≤ a.length) (.mk [(5, ai i), (1, ai (k + sumI cPa (a.take i.toNat))), (0, asl 0)] [(0, .row none (.st .patch) (mkd mkPa cPa a k i.toNat) true)] ((a.length - i.toNat)))) else none
set_option maxRecDepth 200000 in
theorem vc_laws_markPatchS (a : List (Patch)) (k : Int) : (keeps Try.prog G_laws_markPatchS (an_laws_markPatchS (a, k, ())) (Try.f25.body.getD .skip) Try.f25.results.toList C_laws_markPatchS (a, k, ())) = (((∃ (x_1 : Int), (((0 : Int) = x_1) ∧
 ((k = (k + (@sumI Patch cPa (List.take (Int.toNat x_1) a)))) ∧
 ((@Eq (List Patch) a (@mkd Patch mkPa cPa a k (Int.toNat x_1))) ∧
 ((((0 : Int) ≤ x_1) ∧
 (x_1 ≤ (@Nat.cast Int _ (List.length a)))) ∧
 True))))) ∧
 (∀ (x_2 : Int), ((((0 : Int) ≤ x_2) ∧
 (x_2 ≤ (@Nat.cast Int _ (List.length a)))) →
 (((List.length (@mkd Patch mkPa cPa a k (Int.toNat x_2))) ≤ (9223372036854775807 : Nat)) →
 ((((decide (x_2 < (@Nat.cast Int _ (List.length (@mkd Patch mkPa cPa a k (Int.toNat x_2)))))) = true) →
 ((((0 : Int) ≤ x_2) ∧
 (x_2 < (@Nat.cast Int _ (List.length (@mkd Patch mkPa cPa a k (Int.toNat x_2)))))) ∧
 (∀ (x_3 : Patch), ((@Eq (Option Patch) ((@mkd Patch mkPa cPa a k (Int.toNat x_2)))[(Int.toNat x_2)]? (some x_3)) →
 ((((- (9223372036854775808 : Int)) ≤ ((k + (@sumI Patch cPa (List.take (Int.toNat x_2) a))) + (1 : Int))) ∧
 (((k + (@sumI Patch cPa (List.take (Int.toNat x_2) a))) + (1 : Int)) ≤ (9223372036854775807 : Int))) ∧
 ((((0 : Int) ≤ x_2) ∧
 (x_2 < (@Nat.cast Int _ (List.length (List.set (@mkd Patch mkPa cPa a k (Int.toNat x_2)) (Int.toNat x_2) (Patch.mk (k + (@sumI Patch cPa (List.take (Int.toNat x_2) a))) (Patch.bytes x_3))))))) ∧
 (∀ (x_4 : Patch), ((@Eq (Option Patch) ((List.set (@mkd Patch mkPa cPa a k (Int.toNat x_2)) (Int.toNat x_2) (Patch.mk (k + (@sumI Patch cPa (List.take (Int.toNat x_2) a))) (Patch.bytes x_3))))[(Int.toNat x_2)]? (some x_4)) →
 ((Ok (Ty.st SN.patch) x_4) →
 (∀ (x_5 : Patch), ((@Eq (Option Patch) ((List.set (@mkd Patch mkPa cPa a k (Int.toNat x_2)) (Int.toNat x_2) (Patch.mk (k + (@sumI Patch cPa (List.take (Int.toNat x_2) a))) (Patch.bytes x_3))))[(Int.toNat x_2)]? (some x_5)) →
 ((((0 : Int) ≤ ((k + (@sumI Patch cPa (List.take (Int.toNat x_2) a))) + (1 : Int))) ∧
 ((((k + (@sumI Patch cPa (List.take (Int.toNat x_2) a))) + (1 : Int)) + (@sumI Int (@cOne Int) (Patch.bytes x_5))) ≤ (1000000000000 : Int))) ∧
 ((((- (9223372036854775808 : Int)) ≤ (x_2 + (1 : Int))) ∧
 ((x_2 + (1 : Int)) ≤ (9223372036854775807 : Int))) ∧
 (∃ (x_6 : Int), (((x_2 + (1 : Int)) = x_6) ∧
 (((((k + (@sumI Patch cPa (List.take (Int.toNat x_2) a))) + (1 : Int)) + (@sumI Int (@cOne Int) (Patch.bytes x_5))) = (k + (@sumI Patch cPa (List.take (Int.toNat x_6) a)))) ∧
 ((@Eq (List Patch) (List.set (List.set (@mkd Patch mkPa cPa a k (Int.toNat x_2)) (Int.toNat x_2) (Patch.mk (k + (@sumI Patch cPa (List.take (Int.toNat x_2) a))) (Patch.bytes x_3))) (Int.toNat x_2) (Patch.mk (Patch.at_ x_5) (@mkL Int mkU (@cOne Int) (Patch.bytes x_5) ((k + (@sumI Patch cPa (List.take (Int.toNat x_2) a))) + (1 : Int))))) (@mkd Patch mkPa cPa a k (Int.toNat x_6))) ∧
 ((((0 : Int) ≤ x_6) ∧
 (x_6 ≤ (@Nat.cast Int _ (List.length a)))) ∧
 (((List.length a) - (Int.toNat x_6)) < ((List.length a) - (Int.toNat x_2))))))))))))))))))))) ∧
 (((decide (x_2 < (@Nat.cast Int _ (List.length (@mkd Patch mkPa cPa a k (Int.toNat x_2)))))) = false) →
 (((k + (@sumI Patch cPa (List.take (Int.toNat x_2) a))) = (k + (@sumI Patch cPa a))) ∧
 ((@Eq (List Patch) (@mkd Patch mkPa cPa a k (Int.toNat x_2)) (@mkL Patch mkPa cPa a k)) ∧
 True))))))))) := by kernel_rfl
theorem det_laws_markPatchS : C_laws_markPatchS.det = true → ∀ x, (C_laws_markPatchS.out x).Det := fun _ x => by simp only [C_laws_markPatchS]; repeat (first | exact Det.ret _ | exact Det.vc' | apply Det.req | apply Det.giv | apply Det.fork | apply Det.bif' | intro _)
set_option maxRecDepth 200000 in
set_option maxHeartbeats 1000000 in
theorem ok_laws_markPatchS : ConOK Try.prog 25 C_laws_markPatchS := by
  refine con_mk (wr := false) (ty := tyL [(3, .i), (5, .u), (4, .bool), (9, .str), (126, .int .u64), (45, .st .fixup), (24, .st .img), (91, .st .patch), (65, .st .hash), (63, .list .i), (61, .list .str), (22, .list .u), (41, .st .fixup), (33, .st .img), (72, .st .hash)]) (l := [(32, C_laws_markByteS)]) ⟨⟨ok_laws_markByteS, det_laws_markByteS⟩, trivial⟩ Try.checked.mixed (fn := Try.f25) (body := Try.f25.body.getD .skip) Try.func25 rfl (by decide) (by kernel_rfl) rfl an_laws_markPatchS fun x ho hx => ?_
  obtain ⟨a, k, ⟨⟩⟩ := x
  refine Keeps.of (vc_laws_markPatchS a k) ?_
  revert a k ho hx
  show ∀ (a : List (Patch)) (k : Int), _
  intro a k ho hx
  dsimp only [C_laws_markPatchS, okPTL, okPT, Ok, Ty.cells, SN.cells, OkL, OkC, okI, ci, cb, cs, cl] at ho
  dsimp only [C_laws_markPatchS, vc, v1, decB, SR.pre] at hx
  have cn : ∀ x : Patch, 0 ≤ cPa x := cPa_nn
  have cl := sumI_le cn a
  have cs := sumI_nn cn
  simp only [decide_eq_true_eq, decide_eq_false_iff_not, Bool.not_eq_true', Bool.not_eq_false', and_true, true_and, Int.toNat_natCast, exists_eq_left', exists_eq_left, exists_and_left, Int.not_lt, Int.not_le, Bool.false_eq_true, false_implies, implies_true, forall_const, List.length_append, List.length_cons, List.length_nil, Int.sub_add_cancel, Int.add_sub_cancel, and_imp, get_set_iff, forall_eq', forall_eq, List.set_set, mkd_get, mkd_len, List.length_set, Option.some.injEq]; (repeat' first | intro _ | apply And.intro); all_goals (try omega); all_goals first | (simp only [List.length_take, List.length_replicate, mkd_len, List.length_set, List.length_append]; omega) | exact mkd_full' (by omega) | exact (mkd_zero _ _).symm | exact mkd_set' (by assumption) (by omega) (by subst_vars; simp [mkRg, mkFx, mkSy, mkPa, mkSe, mkMb, mkOb, mkIL, Int.add_assoc]) | grind [mkd_len, mkd_get, mkd_zero, sumI_next, sumI_all, cOne, c4, cPa, sumI]
def C_laws_heldPatchS : Con := { ps := [.ro (.list (.st .patch)), .ro .i], out := fun x => let a : List (Patch) := x.1; let k : Int := x.2.1; .req (0 ≤ k ∧ k + sumI cPa a ≤ 1000000000000) (vc .i (hdL hPa a k)), det := true }
def G_laws_heldPatchS : Cfg := mkG (tyL [(3, .i), (5, .u), (4, .bool), (9, .str), (126, .int .u64), (45, .st .fixup), (24, .st .img), (91, .st .patch), (65, .st .hash), (63, .list .i), (61, .list .str), (22, .list .u), (41, .st .fixup), (33, .st .img), (72, .st .hash)]) [(33, C_laws_heldByteS)] false
def an_laws_heldPatchS : PTL C_laws_heldPatchS.ps → Nat → Option Ann := fun x kk_ => let a : List (Patch) := x.1; let k : Int := x.2.1; if kk_ = 2 then some (.all (Int) fun i => .all (Int) fun m => .giv (0 ≤ i ∧ i ≤ a.length ∧ 0 ≤ m ∧ m + sumI cPa (a.drop i.toNat) ≤ 1000000000000 ∧ hdL hPa a k = hdL hPa (a.drop i.toNat) m) (.mk [(5, ai i), (1, ai m), (0, al (.st .patch) a)] [] ((a.length - i.toNat)))) else none
set_option maxRecDepth 200000 in
theorem vc_laws_heldPatchS (a : List (Patch)) (k : Int) : (keeps Try.prog G_laws_heldPatchS (an_laws_heldPatchS (a, k, ())) (Try.f26.body.getD .skip) Try.f26.results.toList C_laws_heldPatchS (a, k, ())) = (((∃ (x_1 : Int), (∃ (x_2 : Int), (((0 : Int) = x_1) ∧
 ((k = x_2) ∧
 ((@Eq (List Patch) a a) ∧
 ((((0 : Int) ≤ x_1) ∧
 ((x_1 ≤ (@Nat.cast Int _ (List.length a))) ∧
 (((0 : Int) ≤ x_2) ∧
 (((x_2 + (@sumI Patch cPa (List.drop (Int.toNat x_1) a))) ≤ (1000000000000 : Int)) ∧
 ((@hdL Patch hPa a k) = (@hdL Patch hPa (List.drop (Int.toNat x_1) a) x_2)))))) ∧
 True)))))) ∧
 (∀ (x_3 : Int), (∀ (x_4 : Int), ((((0 : Int) ≤ x_3) ∧
 ((x_3 ≤ (@Nat.cast Int _ (List.length a))) ∧
 (((0 : Int) ≤ x_4) ∧
 (((x_4 + (@sumI Patch cPa (List.drop (Int.toNat x_3) a))) ≤ (1000000000000 : Int)) ∧
 ((@hdL Patch hPa a k) = (@hdL Patch hPa (List.drop (Int.toNat x_3) a) x_4)))))) →
 (((List.length a) ≤ (9223372036854775807 : Nat)) →
 ((((decide (x_3 < (@Nat.cast Int _ (List.length a)))) = true) →
 ((((0 : Int) ≤ x_3) ∧
 (x_3 < (@Nat.cast Int _ (List.length a)))) ∧
 (∀ (x_5 : Patch), ((@Eq (Option Patch) (a)[(Int.toNat x_3)]? (some x_5)) →
 ((Ok (Ty.st SN.patch) x_5) →
 ((((decide ((Patch.at_ x_5) ≠ x_4)) = true) →
 (((- (1 : Int)) = (@hdL Patch hPa a k)) ∧
 True)) ∧
 (((decide ((Patch.at_ x_5) ≠ x_4)) = false) →
 ((((- (9223372036854775808 : Int)) ≤ (x_4 + (1 : Int))) ∧
 ((x_4 + (1 : Int)) ≤ (9223372036854775807 : Int))) ∧
 ((((0 : Int) ≤ x_3) ∧
 (x_3 < (@Nat.cast Int _ (List.length a)))) ∧
 (∀ (x_6 : Patch), ((@Eq (Option Patch) (a)[(Int.toNat x_3)]? (some x_6)) →
 ((Ok (Ty.st SN.patch) x_6) →
 ((((0 : Int) ≤ (x_4 + (1 : Int))) ∧
 (((x_4 + (1 : Int)) + (@sumI Int (@cOne Int) (Patch.bytes x_6))) ≤ (1000000000000 : Int))) ∧
 ((((decide ((@hdL Int hU (Patch.bytes x_6) (x_4 + (1 : Int))) < (0 : Int))) = true) →
 (((- (1 : Int)) = (@hdL Patch hPa a k)) ∧
 True)) ∧
 (((decide ((@hdL Int hU (Patch.bytes x_6) (x_4 + (1 : Int))) < (0 : Int))) = false) →
 ((((- (9223372036854775808 : Int)) ≤ (x_3 + (1 : Int))) ∧
 ((x_3 + (1 : Int)) ≤ (9223372036854775807 : Int))) ∧
 (∃ (x_7 : Int), (∃ (x_8 : Int), (((x_3 + (1 : Int)) = x_7) ∧
 (((@hdL Int hU (Patch.bytes x_6) (x_4 + (1 : Int))) = x_8) ∧
 ((@Eq (List Patch) a a) ∧
 ((((0 : Int) ≤ x_7) ∧
 ((x_7 ≤ (@Nat.cast Int _ (List.length a))) ∧
 (((0 : Int) ≤ x_8) ∧
 (((x_8 + (@sumI Patch cPa (List.drop (Int.toNat x_7) a))) ≤ (1000000000000 : Int)) ∧
 ((@hdL Patch hPa a k) = (@hdL Patch hPa (List.drop (Int.toNat x_7) a) x_8)))))) ∧
 (((List.length a) - (Int.toNat x_7)) < ((List.length a) - (Int.toNat x_3))))))))))))))))))))))))) ∧
 (((decide (x_3 < (@Nat.cast Int _ (List.length a)))) = false) →
 ((x_4 = (@hdL Patch hPa a k)) ∧
 True))))))))) := by kernel_rfl
theorem det_laws_heldPatchS : C_laws_heldPatchS.det = true → ∀ x, (C_laws_heldPatchS.out x).Det := fun _ x => by simp only [C_laws_heldPatchS]; repeat (first | exact Det.ret _ | exact Det.vc' | apply Det.req | apply Det.giv | apply Det.fork | apply Det.bif' | intro _)
set_option maxRecDepth 200000 in
set_option maxHeartbeats 1000000 in
theorem ok_laws_heldPatchS : ConOK Try.prog 26 C_laws_heldPatchS := by
  refine con_mk (wr := false) (ty := tyL [(3, .i), (5, .u), (4, .bool), (9, .str), (126, .int .u64), (45, .st .fixup), (24, .st .img), (91, .st .patch), (65, .st .hash), (63, .list .i), (61, .list .str), (22, .list .u), (41, .st .fixup), (33, .st .img), (72, .st .hash)]) (l := [(33, C_laws_heldByteS)]) ⟨⟨ok_laws_heldByteS, det_laws_heldByteS⟩, trivial⟩ Try.checked.mixed (fn := Try.f26) (body := Try.f26.body.getD .skip) Try.func26 rfl (by decide) (by kernel_rfl) rfl an_laws_heldPatchS fun x ho hx => ?_
  obtain ⟨a, k, ⟨⟩⟩ := x
  refine Keeps.of (vc_laws_heldPatchS a k) ?_
  revert a k ho hx
  show ∀ (a : List (Patch)) (k : Int), _
  intro a k ho hx
  dsimp only [C_laws_heldPatchS, okPTL, okPT, Ok, Ty.cells, SN.cells, OkL, OkC, okI, ci, cb, cs, cl] at ho
  dsimp only [C_laws_heldPatchS, vc, v1, decB, SR.pre] at hx
  have cn : ∀ x : Patch, 0 ≤ cPa x := cPa_nn
  have cs := sumI_nn cn
  have hu := hdU_or; have hg := cOne_ge (α := Int)
  simp +contextual only [decide_eq_true_eq, decide_eq_false_iff_not, Bool.not_eq_true', Bool.not_eq_false', and_true, true_and, Int.toNat_natCast, exists_eq_left', exists_eq_left, exists_and_left, Int.not_lt, Int.not_le, Bool.false_eq_true, false_implies, implies_true, forall_const, List.length_append, List.length_cons, List.length_nil, Int.sub_add_cancel, Int.add_sub_cancel, and_imp, get_set_iff, forall_eq', forall_eq, List.set_set, mkd_get, mkd_len, List.length_set, Option.some.injEq]; (repeat' first | intro _ | apply And.intro); all_goals (try omega); all_goals first | (simp only [List.length_take, List.length_replicate, mkd_len, List.length_set, List.length_append]; omega) | grind [hdL_drop, sumI_drop, drop_end, hdL, sumI, cOne, c4, cPa, hRg, hFx, hSy, hPa, hSe, hOb, hMb, hIL]
def C_laws_toHashTable : Con := { ps := [.ro (.st .hash)], out := fun x => let a : HashT := x.1; .req (szHa a ≤ 1048576) (newS .hash a), det := true }
def G_laws_toHashTable : Cfg := mkG (tyL [(3, .i), (5, .u), (4, .bool), (9, .str), (126, .int .u64), (45, .st .fixup), (24, .st .img), (91, .st .patch), (65, .st .hash), (63, .list .i), (61, .list .str), (22, .list .u), (41, .st .fixup), (33, .st .img), (72, .st .hash)]) [(46, C_laws_toStringS), (100, C_laws_toIntS)] false
def an_laws_toHashTable : PTL C_laws_toHashTable.ps → Nat → Option Ann := fun _ _ => none
set_option maxRecDepth 200000 in
theorem vc_laws_toHashTable (a : HashT) : (keeps Try.prog G_laws_toHashTable (an_laws_toHashTable (a, ())) (Try.f55.body.getD .skip) Try.f55.results.toList C_laws_toHashTable (a, ())) = (((((@Nat.cast Int _ (List.length (HashT.names a))) + (@sumI ByteArray (fun (s_1 : ByteArray) => (@Nat.cast Int _ (ByteArray.size s_1))) (HashT.names a))) ≤ (1048576 : Int)) ∧
 (((@Nat.cast Int _ (List.length (HashT.first a))) ≤ (1048576 : Int)) ∧
 (((@Nat.cast Int _ (List.length (HashT.next a))) ≤ (1048576 : Int)) ∧
 ((@Eq (List ByteArray) (HashT.names a) (HashT.names a)) ∧
 ((@Eq (List Int) (HashT.first a) (HashT.first a)) ∧
 ((@Eq (List Int) (HashT.next a) (HashT.next a)) ∧
 True))))))) := by kernel_rfl
theorem det_laws_toHashTable : C_laws_toHashTable.det = true → ∀ x, (C_laws_toHashTable.out x).Det := fun _ x => by simp only [C_laws_toHashTable]; repeat (first | exact Det.ret _ | exact Det.vc' | apply Det.req | apply Det.giv | apply Det.fork | apply Det.bif' | intro _)
set_option maxRecDepth 200000 in
set_option maxHeartbeats 1000000 in
theorem ok_laws_toHashTable : ConOK Try.prog 55 C_laws_toHashTable := by
  refine con_mk (wr := false) (ty := tyL [(3, .i), (5, .u), (4, .bool), (9, .str), (126, .int .u64), (45, .st .fixup), (24, .st .img), (91, .st .patch), (65, .st .hash), (63, .list .i), (61, .list .str), (22, .list .u), (41, .st .fixup), (33, .st .img), (72, .st .hash)]) (l := [(46, C_laws_toStringS), (100, C_laws_toIntS)]) ⟨⟨ok_laws_toStringS, det_laws_toStringS⟩, ⟨⟨ok_laws_toIntS, det_laws_toIntS⟩, trivial⟩⟩ Try.checked.mixed (fn := Try.f55) (body := Try.f55.body.getD .skip) Try.func55 rfl (by decide) (by kernel_rfl) rfl an_laws_toHashTable fun x ho hx => ?_
  obtain ⟨a, ⟨⟩⟩ := x
  refine Keeps.of (vc_laws_toHashTable a) ?_
  revert a ho hx
  show ∀ (a : HashT), _
  intro a ho hx
  dsimp only [C_laws_toHashTable, okPTL, okPT, Ok, Ty.cells, SN.cells, OkL, OkC, okI, ci, cb, cs, cl] at ho
  dsimp only [C_laws_toHashTable, vc, v1, decB, SR.pre] at hx
  have f0 := sumI_nn (f := fun s : ByteArray => (s.size : Int)) szStr_nn a.names
  simp only [decide_eq_true_eq, decide_eq_false_iff_not, Bool.not_eq_true', Bool.not_eq_false', and_true, true_and, Int.toNat_natCast, exists_eq_left', exists_eq_left, exists_and_left, Int.not_lt, Int.not_le, Bool.false_eq_true, false_implies, implies_true, forall_const, List.length_append, List.length_cons, List.length_nil, Int.sub_add_cancel, Int.add_sub_cancel, and_imp, get_set_iff, forall_eq', forall_eq, List.set_set, mkd_get, mkd_len, List.length_set, Option.some.injEq]; (repeat' first | intro _ | apply And.intro); all_goals (try omega); all_goals grind [szIm, szMe, szHa, szPa]
def C_laws_szHashTable : Con := { ps := [.ro (.st .hash), .ro .i], out := fun x => let a : HashT := x.1; let left : Int := x.2.1; .req (0 ≤ left ∧ left ≤ 1048576) (vc .i (szR (szHa a) left)), det := true }
def G_laws_szHashTable : Cfg := mkG (tyL [(3, .i), (5, .u), (4, .bool), (9, .str), (126, .int .u64), (45, .st .fixup), (24, .st .img), (91, .st .patch), (65, .st .hash), (63, .list .i), (61, .list .str), (22, .list .u), (41, .st .fixup), (33, .st .img), (72, .st .hash)]) [(44, C_laws_szStringS), (98, C_laws_szIntS)] false
def an_laws_szHashTable : PTL C_laws_szHashTable.ps → Nat → Option Ann := fun _ _ => none
set_option maxRecDepth 200000 in
theorem vc_laws_szHashTable (a : HashT) (left : Int) : (keeps Try.prog G_laws_szHashTable (an_laws_szHashTable (a, left, ())) (Try.f53.body.getD .skip) Try.f53.results.toList C_laws_szHashTable (a, left, ())) = (((((0 : Int) ≤ left) ∧
 (left ≤ (1048576 : Int))) ∧
 ((((decide ((szR ((@Nat.cast Int _ (List.length (HashT.names a))) + (@sumI ByteArray (fun (s_1 : ByteArray) => (@Nat.cast Int _ (ByteArray.size s_1))) (HashT.names a))) left) < (0 : Int))) = true) →
 (((- (1 : Int)) = (szR (szHa a) left)) ∧
 True)) ∧
 (((decide ((szR ((@Nat.cast Int _ (List.length (HashT.names a))) + (@sumI ByteArray (fun (s_2 : ByteArray) => (@Nat.cast Int _ (ByteArray.size s_2))) (HashT.names a))) left) < (0 : Int))) = false) →
 ((((0 : Int) ≤ (szR ((@Nat.cast Int _ (List.length (HashT.names a))) + (@sumI ByteArray (fun (s_3 : ByteArray) => (@Nat.cast Int _ (ByteArray.size s_3))) (HashT.names a))) left)) ∧
 ((szR ((@Nat.cast Int _ (List.length (HashT.names a))) + (@sumI ByteArray (fun (s_4 : ByteArray) => (@Nat.cast Int _ (ByteArray.size s_4))) (HashT.names a))) left) ≤ (1048576 : Int))) ∧
 ((((decide ((szR (@Nat.cast Int _ (List.length (HashT.first a))) (szR ((@Nat.cast Int _ (List.length (HashT.names a))) + (@sumI ByteArray (fun (s_5 : ByteArray) => (@Nat.cast Int _ (ByteArray.size s_5))) (HashT.names a))) left)) < (0 : Int))) = true) →
 (((- (1 : Int)) = (szR (szHa a) left)) ∧
 True)) ∧
 (((decide ((szR (@Nat.cast Int _ (List.length (HashT.first a))) (szR ((@Nat.cast Int _ (List.length (HashT.names a))) + (@sumI ByteArray (fun (s_6 : ByteArray) => (@Nat.cast Int _ (ByteArray.size s_6))) (HashT.names a))) left)) < (0 : Int))) = false) →
 ((((0 : Int) ≤ (szR (@Nat.cast Int _ (List.length (HashT.first a))) (szR ((@Nat.cast Int _ (List.length (HashT.names a))) + (@sumI ByteArray (fun (s_7 : ByteArray) => (@Nat.cast Int _ (ByteArray.size s_7))) (HashT.names a))) left))) ∧
 ((szR (@Nat.cast Int _ (List.length (HashT.first a))) (szR ((@Nat.cast Int _ (List.length (HashT.names a))) + (@sumI ByteArray (fun (s_8 : ByteArray) => (@Nat.cast Int _ (ByteArray.size s_8))) (HashT.names a))) left)) ≤ (1048576 : Int))) ∧
 ((((decide ((szR (@Nat.cast Int _ (List.length (HashT.next a))) (szR (@Nat.cast Int _ (List.length (HashT.first a))) (szR ((@Nat.cast Int _ (List.length (HashT.names a))) + (@sumI ByteArray (fun (s_9 : ByteArray) => (@Nat.cast Int _ (ByteArray.size s_9))) (HashT.names a))) left))) < (0 : Int))) = true) →
 (((- (1 : Int)) = (szR (szHa a) left)) ∧
 True)) ∧
 (((decide ((szR (@Nat.cast Int _ (List.length (HashT.next a))) (szR (@Nat.cast Int _ (List.length (HashT.first a))) (szR ((@Nat.cast Int _ (List.length (HashT.names a))) + (@sumI ByteArray (fun (s_10 : ByteArray) => (@Nat.cast Int _ (ByteArray.size s_10))) (HashT.names a))) left))) < (0 : Int))) = false) →
 (((szR (@Nat.cast Int _ (List.length (HashT.next a))) (szR (@Nat.cast Int _ (List.length (HashT.first a))) (szR ((@Nat.cast Int _ (List.length (HashT.names a))) + (@sumI ByteArray (fun (s_11 : ByteArray) => (@Nat.cast Int _ (ByteArray.size s_11))) (HashT.names a))) left))) = (szR (szHa a) left)) ∧
 True))))))))))) := by kernel_rfl
theorem det_laws_szHashTable : C_laws_szHashTable.det = true → ∀ x, (C_laws_szHashTable.out x).Det := fun _ x => by simp only [C_laws_szHashTable]; repeat (first | exact Det.ret _ | exact Det.vc' | apply Det.req | apply Det.giv | apply Det.fork | apply Det.bif' | intro _)
set_option maxRecDepth 200000 in
set_option maxHeartbeats 1000000 in
theorem ok_laws_szHashTable : ConOK Try.prog 53 C_laws_szHashTable := by
  refine con_mk (wr := false) (ty := tyL [(3, .i), (5, .u), (4, .bool), (9, .str), (126, .int .u64), (45, .st .fixup), (24, .st .img), (91, .st .patch), (65, .st .hash), (63, .list .i), (61, .list .str), (22, .list .u), (41, .st .fixup), (33, .st .img), (72, .st .hash)]) (l := [(44, C_laws_szStringS), (98, C_laws_szIntS)]) ⟨⟨ok_laws_szStringS, det_laws_szStringS⟩, ⟨⟨ok_laws_szIntS, det_laws_szIntS⟩, trivial⟩⟩ Try.checked.mixed (fn := Try.f53) (body := Try.f53.body.getD .skip) Try.func53 rfl (by decide) (by kernel_rfl) rfl an_laws_szHashTable fun x ho hx => ?_
  obtain ⟨a, left, ⟨⟩⟩ := x
  refine Keeps.of (vc_laws_szHashTable a left) ?_
  revert a left ho hx
  show ∀ (a : HashT) (left : Int), _
  intro a left ho hx
  dsimp only [C_laws_szHashTable, okPTL, okPT, Ok, Ty.cells, SN.cells, OkL, OkC, okI, ci, cb, cs, cl] at ho
  dsimp only [C_laws_szHashTable, vc, v1, decB, SR.pre] at hx
  have f0 := sumI_nn (f := fun s : ByteArray => (s.size : Int)) szStr_nn a.names
  simp only [decide_eq_true_eq, decide_eq_false_iff_not, Bool.not_eq_true', Bool.not_eq_false', and_true, true_and, Int.toNat_natCast, exists_eq_left', exists_eq_left, exists_and_left, Int.not_lt, Int.not_le, Bool.false_eq_true, false_implies, implies_true, forall_const, List.length_append, List.length_cons, List.length_nil, Int.sub_add_cancel, Int.add_sub_cancel, and_imp, get_set_iff, forall_eq', forall_eq, List.set_set, mkd_get, mkd_len, List.length_set, Option.some.injEq]; (repeat' first | intro _ | apply And.intro); all_goals (try omega); all_goals grind [szR, szIm, szMe, szHa, szPa]
def C_laws_eqHashTable : Con := { ps := [.ro (.st .hash), .ro (.st .hash)], out := fun x => let a : HashT := x.1; let b : HashT := x.2.1; vc .bool (decide (a = b)), det := true }
def G_laws_eqHashTable : Cfg := mkG (tyL [(3, .i), (5, .u), (4, .bool), (9, .str), (126, .int .u64), (45, .st .fixup), (24, .st .img), (91, .st .patch), (65, .st .hash), (63, .list .i), (61, .list .str), (22, .list .u), (41, .st .fixup), (33, .st .img), (72, .st .hash)]) [(49, C_laws_eqStringS), (93, C_laws_eqIntS)] false
def an_laws_eqHashTable : PTL C_laws_eqHashTable.ps → Nat → Option Ann := fun _ _ => none
set_option maxRecDepth 200000 in
theorem vc_laws_eqHashTable (a : HashT) (b : HashT) : (keeps Try.prog G_laws_eqHashTable (an_laws_eqHashTable (a, b, ())) (Try.f48.body.getD .skip) Try.f48.results.toList C_laws_eqHashTable (a, b, ())) = (((((Bool.not (decide (@Eq (List ByteArray) (HashT.names a) (HashT.names b)))) = true) →
 ((false = (decide (@Eq HashT a b))) ∧
 True)) ∧
 (((Bool.not (decide (@Eq (List ByteArray) (HashT.names a) (HashT.names b)))) = false) →
 ((((Bool.not (decide (@Eq (List Int) (HashT.first a) (HashT.first b)))) = true) →
 ((false = (decide (@Eq HashT a b))) ∧
 True)) ∧
 (((Bool.not (decide (@Eq (List Int) (HashT.first a) (HashT.first b)))) = false) →
 ((((Bool.not (decide (@Eq (List Int) (HashT.next a) (HashT.next b)))) = true) →
 ((false = (decide (@Eq HashT a b))) ∧
 True)) ∧
 (((Bool.not (decide (@Eq (List Int) (HashT.next a) (HashT.next b)))) = false) →
 ((true = (decide (@Eq HashT a b))) ∧
 True)))))))) := by kernel_rfl
theorem det_laws_eqHashTable : C_laws_eqHashTable.det = true → ∀ x, (C_laws_eqHashTable.out x).Det := fun _ x => by simp only [C_laws_eqHashTable]; repeat (first | exact Det.ret _ | exact Det.vc' | apply Det.req | apply Det.giv | apply Det.fork | apply Det.bif' | intro _)
set_option maxRecDepth 200000 in
set_option maxHeartbeats 1000000 in
theorem ok_laws_eqHashTable : ConOK Try.prog 48 C_laws_eqHashTable := by
  refine con_mk (wr := false) (ty := tyL [(3, .i), (5, .u), (4, .bool), (9, .str), (126, .int .u64), (45, .st .fixup), (24, .st .img), (91, .st .patch), (65, .st .hash), (63, .list .i), (61, .list .str), (22, .list .u), (41, .st .fixup), (33, .st .img), (72, .st .hash)]) (l := [(49, C_laws_eqStringS), (93, C_laws_eqIntS)]) ⟨⟨ok_laws_eqStringS, det_laws_eqStringS⟩, ⟨⟨ok_laws_eqIntS, det_laws_eqIntS⟩, trivial⟩⟩ Try.checked.mixed (fn := Try.f48) (body := Try.f48.body.getD .skip) Try.func48 rfl (by decide) (by kernel_rfl) rfl an_laws_eqHashTable fun x ho hx => ?_
  obtain ⟨a, b, ⟨⟩⟩ := x
  refine Keeps.of (vc_laws_eqHashTable a b) ?_
  revert a b ho hx
  show ∀ (a : HashT) (b : HashT), _
  intro a b ho hx
  dsimp only [C_laws_eqHashTable, okPTL, okPT, Ok, Ty.cells, SN.cells, OkL, OkC, okI, ci, cb, cs, cl] at ho
  dsimp only [C_laws_eqHashTable, vc, v1, decB, SR.pre] at hx
  simp only [decide_eq_true_eq, decide_eq_false_iff_not, Bool.not_eq_true', Bool.not_eq_false', and_true, true_and, Int.toNat_natCast, exists_eq_left', exists_eq_left, exists_and_left, Int.not_lt, Int.not_le, Bool.false_eq_true, false_implies, implies_true, forall_const, List.length_append, List.length_cons, List.length_nil, Int.sub_add_cancel, Int.add_sub_cancel, and_imp, get_set_iff, forall_eq', forall_eq, List.set_set, mkd_get, mkd_len, List.length_set, Option.some.injEq]; (repeat' first | intro _ | apply And.intro); all_goals (try omega); all_goals (first | grind [cases Img] | (cases a; cases b; simp_all; done) | (obtain ⟨⟨_, _⟩, _⟩ := a; obtain ⟨⟨_, _⟩, _⟩ := b; simp_all; done) | (obtain ⟨_, _, _⟩ := a; obtain ⟨_, _, _⟩ := b; simp_all; done) | (obtain ⟨_, ⟨_, _⟩⟩ := a; obtain ⟨_, ⟨_, _⟩⟩ := b; simp_all; done))
def C_laws_markHashTable : Con := { ps := [.own .hash, .ro .i], out := fun x => let a : HashT := x.1; let k : Int := x.2.1; .req (0 ≤ k ∧ k + cHa a ≤ 1000000000000) (turnS .hash (mkHa a k) (k + cHa a)), det := true }
def G_laws_markHashTable : Cfg := mkG (tyL [(3, .i), (5, .u), (4, .bool), (9, .str), (126, .int .u64), (45, .st .fixup), (24, .st .img), (91, .st .patch), (65, .st .hash), (63, .list .i), (61, .list .str), (22, .list .u), (41, .st .fixup), (33, .st .img), (72, .st .hash)]) [(50, C_laws_markStringS), (95, C_laws_markIntS)] false
def an_laws_markHashTable : PTL C_laws_markHashTable.ps → Nat → Option Ann := fun _ _ => none
set_option maxRecDepth 200000 in
theorem vc_laws_markHashTable (a : HashT) (k : Int) : (keeps Try.prog G_laws_markHashTable (an_laws_markHashTable (a, k, ())) (Try.f51.body.getD .skip) Try.f51.results.toList C_laws_markHashTable (a, k, ())) = (((((0 : Int) ≤ k) ∧
 ((k + (@sumI ByteArray (@cOne ByteArray) (HashT.names a))) ≤ (1000000000000 : Int))) ∧
 ((((0 : Int) ≤ (k + (@sumI ByteArray (@cOne ByteArray) (HashT.names a)))) ∧
 (((k + (@sumI ByteArray (@cOne ByteArray) (HashT.names a))) + (@sumI Int (@cOne Int) (HashT.first a))) ≤ (1000000000000 : Int))) ∧
 ((((0 : Int) ≤ ((k + (@sumI ByteArray (@cOne ByteArray) (HashT.names a))) + (@sumI Int (@cOne Int) (HashT.first a)))) ∧
 ((((k + (@sumI ByteArray (@cOne ByteArray) (HashT.names a))) + (@sumI Int (@cOne Int) (HashT.first a))) + (@sumI Int (@cOne Int) (HashT.next a))) ≤ (1000000000000 : Int))) ∧
 (((((k + (@sumI ByteArray (@cOne ByteArray) (HashT.names a))) + (@sumI Int (@cOne Int) (HashT.first a))) + (@sumI Int (@cOne Int) (HashT.next a))) = (k + (cHa a))) ∧
 ((@Eq (List ByteArray) (@mkL ByteArray mkSt (@cOne ByteArray) (HashT.names a) k) (HashT.names (mkHa a k))) ∧
 ((@Eq (List Int) (@mkL Int mkI (@cOne Int) (HashT.first a) (k + (@sumI ByteArray (@cOne ByteArray) (HashT.names a)))) (HashT.first (mkHa a k))) ∧
 ((@Eq (List Int) (@mkL Int mkI (@cOne Int) (HashT.next a) ((k + (@sumI ByteArray (@cOne ByteArray) (HashT.names a))) + (@sumI Int (@cOne Int) (HashT.first a)))) (HashT.next (mkHa a k))) ∧
 True)))))))) := by kernel_rfl
theorem det_laws_markHashTable : C_laws_markHashTable.det = true → ∀ x, (C_laws_markHashTable.out x).Det := fun _ x => by simp only [C_laws_markHashTable]; repeat (first | exact Det.ret _ | exact Det.vc' | apply Det.req | apply Det.giv | apply Det.fork | apply Det.bif' | intro _)
set_option maxRecDepth 200000 in
set_option maxHeartbeats 1000000 in
theorem ok_laws_markHashTable : ConOK Try.prog 51 C_laws_markHashTable := by
  refine con_mk (wr := false) (ty := tyL [(3, .i), (5, .u), (4, .bool), (9, .str), (126, .int .u64), (45, .st .fixup), (24, .st .img), (91, .st .patch), (65, .st .hash), (63, .list .i), (61, .list .str), (22, .list .u), (41, .st .fixup), (33, .st .img), (72, .st .hash)]) (l := [(50, C_laws_markStringS), (95, C_laws_markIntS)]) ⟨⟨ok_laws_markStringS, det_laws_markStringS⟩, ⟨⟨ok_laws_markIntS, det_laws_markIntS⟩, trivial⟩⟩ Try.checked.mixed (fn := Try.f51) (body := Try.f51.body.getD .skip) Try.func51 rfl (by decide) (by kernel_rfl) rfl an_laws_markHashTable fun x ho hx => ?_
  obtain ⟨a, k, ⟨⟩⟩ := x
  refine Keeps.of (vc_laws_markHashTable a k) ?_
  revert a k ho hx
  show ∀ (a : HashT) (k : Int), _
  intro a k ho hx
  dsimp only [C_laws_markHashTable, okPTL, okPT, Ok, Ty.cells, SN.cells, OkL, OkC, okI, ci, cb, cs, cl] at ho
  dsimp only [C_laws_markHashTable, vc, v1, decB, SR.pre] at hx
  have f0 := cOne_ge a.names
  have f1 := cOne_ge a.first
  have f2 := cOne_ge a.next
  simp only [decide_eq_true_eq, decide_eq_false_iff_not, Bool.not_eq_true', Bool.not_eq_false', and_true, true_and, Int.toNat_natCast, exists_eq_left', exists_eq_left, exists_and_left, Int.not_lt, Int.not_le, Bool.false_eq_true, false_implies, implies_true, forall_const, List.length_append, List.length_cons, List.length_nil, Int.sub_add_cancel, Int.add_sub_cancel, and_imp, get_set_iff, forall_eq', forall_eq, List.set_set, mkd_get, mkd_len, List.length_set, Option.some.injEq]; (repeat' first | intro _ | apply And.intro); all_goals (try omega); all_goals (first | grind [cIm, mkIm, cMe, mkMe, cHa, mkHa, cOb, mkOb] | (simp only [cIm, mkIm, cMe, mkMe, cHa, mkHa, cOb, mkOb] at *; omega) | (simp [cIm, mkIm, cMe, mkMe, cHa, mkHa, cOb, mkOb]))
def C_laws_heldHashTable : Con := { ps := [.ro (.st .hash), .ro .i], out := fun x => let a : HashT := x.1; let k : Int := x.2.1; .req (0 ≤ k ∧ k + cHa a ≤ 1000000000000) (vc .i (hHa a k)), det := true }
def G_laws_heldHashTable : Cfg := mkG (tyL [(3, .i), (5, .u), (4, .bool), (9, .str), (126, .int .u64), (45, .st .fixup), (24, .st .img), (91, .st .patch), (65, .st .hash), (63, .list .i), (61, .list .str), (22, .list .u), (41, .st .fixup), (33, .st .img), (72, .st .hash)]) [(96, C_laws_heldStringS), (97, C_laws_heldIntS)] false
def an_laws_heldHashTable : PTL C_laws_heldHashTable.ps → Nat → Option Ann := fun _ _ => none
set_option maxRecDepth 200000 in
theorem vc_laws_heldHashTable (a : HashT) (k : Int) : (keeps Try.prog G_laws_heldHashTable (an_laws_heldHashTable (a, k, ())) (Try.f52.body.getD .skip) Try.f52.results.toList C_laws_heldHashTable (a, k, ())) = (((((0 : Int) ≤ k) ∧
 ((k + (@sumI ByteArray (@cOne ByteArray) (HashT.names a))) ≤ (1000000000000 : Int))) ∧
 ((((decide ((@hdL ByteArray hSt (HashT.names a) k) < (0 : Int))) = true) →
 (((- (1 : Int)) = (hHa a k)) ∧
 True)) ∧
 (((decide ((@hdL ByteArray hSt (HashT.names a) k) < (0 : Int))) = false) →
 ((((0 : Int) ≤ (@hdL ByteArray hSt (HashT.names a) k)) ∧
 (((@hdL ByteArray hSt (HashT.names a) k) + (@sumI Int (@cOne Int) (HashT.first a))) ≤ (1000000000000 : Int))) ∧
 ((((decide ((@hdL Int hI (HashT.first a) (@hdL ByteArray hSt (HashT.names a) k)) < (0 : Int))) = true) →
 (((- (1 : Int)) = (hHa a k)) ∧
 True)) ∧
 (((decide ((@hdL Int hI (HashT.first a) (@hdL ByteArray hSt (HashT.names a) k)) < (0 : Int))) = false) →
 ((((0 : Int) ≤ (@hdL Int hI (HashT.first a) (@hdL ByteArray hSt (HashT.names a) k))) ∧
 (((@hdL Int hI (HashT.first a) (@hdL ByteArray hSt (HashT.names a) k)) + (@sumI Int (@cOne Int) (HashT.next a))) ≤ (1000000000000 : Int))) ∧
 ((((decide ((@hdL Int hI (HashT.next a) (@hdL Int hI (HashT.first a) (@hdL ByteArray hSt (HashT.names a) k))) < (0 : Int))) = true) →
 (((- (1 : Int)) = (hHa a k)) ∧
 True)) ∧
 (((decide ((@hdL Int hI (HashT.next a) (@hdL Int hI (HashT.first a) (@hdL ByteArray hSt (HashT.names a) k))) < (0 : Int))) = false) →
 (((@hdL Int hI (HashT.next a) (@hdL Int hI (HashT.first a) (@hdL ByteArray hSt (HashT.names a) k))) = (hHa a k)) ∧
 True))))))))))) := by kernel_rfl
theorem det_laws_heldHashTable : C_laws_heldHashTable.det = true → ∀ x, (C_laws_heldHashTable.out x).Det := fun _ x => by simp only [C_laws_heldHashTable]; repeat (first | exact Det.ret _ | exact Det.vc' | apply Det.req | apply Det.giv | apply Det.fork | apply Det.bif' | intro _)
set_option maxRecDepth 200000 in
set_option maxHeartbeats 1000000 in
theorem ok_laws_heldHashTable : ConOK Try.prog 52 C_laws_heldHashTable := by
  refine con_mk (wr := false) (ty := tyL [(3, .i), (5, .u), (4, .bool), (9, .str), (126, .int .u64), (45, .st .fixup), (24, .st .img), (91, .st .patch), (65, .st .hash), (63, .list .i), (61, .list .str), (22, .list .u), (41, .st .fixup), (33, .st .img), (72, .st .hash)]) (l := [(96, C_laws_heldStringS), (97, C_laws_heldIntS)]) ⟨⟨ok_laws_heldStringS, det_laws_heldStringS⟩, ⟨⟨ok_laws_heldIntS, det_laws_heldIntS⟩, trivial⟩⟩ Try.checked.mixed (fn := Try.f52) (body := Try.f52.body.getD .skip) Try.func52 rfl (by decide) (by kernel_rfl) rfl an_laws_heldHashTable fun x ho hx => ?_
  obtain ⟨a, k, ⟨⟩⟩ := x
  refine Keeps.of (vc_laws_heldHashTable a k) ?_
  revert a k ho hx
  show ∀ (a : HashT) (k : Int), _
  intro a k ho hx
  dsimp only [C_laws_heldHashTable, okPTL, okPT, Ok, Ty.cells, SN.cells, OkL, OkC, okI, ci, cb, cs, cl] at ho
  dsimp only [C_laws_heldHashTable, vc, v1, decB, SR.pre] at hx
  have f0 := cOne_ge a.names
  have f1 := cOne_ge a.first
  have f2 := cOne_ge a.next
  have f3 := hdSt_or a.names k
  have f4 := hdI_or a.first (k + sumI cOne a.names)
  have f5 := hdI_or a.next (k + sumI cOne a.names + sumI cOne a.first)
  simp only [decide_eq_true_eq, decide_eq_false_iff_not, Bool.not_eq_true', Bool.not_eq_false', and_true, true_and, Int.toNat_natCast, exists_eq_left', exists_eq_left, exists_and_left, Int.not_lt, Int.not_le, Bool.false_eq_true, false_implies, implies_true, forall_const, List.length_append, List.length_cons, List.length_nil, Int.sub_add_cancel, Int.add_sub_cancel, and_imp, get_set_iff, forall_eq', forall_eq, List.set_set, mkd_get, mkd_len, List.length_set, Option.some.injEq]; (repeat' first | intro _ | apply And.intro); all_goals (try omega); all_goals grind [hIm, cIm, hMe, cMe, hHa, cHa, hOb, cOb]
end Go.Proofs.Ytdghhckdjbpfbaa
