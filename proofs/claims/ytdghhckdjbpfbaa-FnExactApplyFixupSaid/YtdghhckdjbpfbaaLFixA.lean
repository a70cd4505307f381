/- The laws on fixups filled in. -/
import Derived.Test.YtdghhckdjbpfbaaDrawI
import Derived.Test.YtdghhckdjbpfbaaFixA
import Derived.Test.YtdghhckdjbpfbaaSame
import Derived.Test.YtdghhckdjbpfbaaHead
set_option linter.unusedVariables false
set_option linter.unusedSimpArgs false
namespace Go.Proofs.Ytdghhckdjbpfbaa
open Go Go.RowKit Go.ChangeShapes Go.WideShapes Go.Deep


def fxDraw (b : List Int) (p : Int) (f : Fixup) (t : Int) : SR := .ret { val := .tup [(false, [.sl 100 []]), (false, [.c (ci p)]), (true, (SN.cells .fixup f).map .c), (false, [.c (ci t)])], ins := [(100, .row none .u b true)] }
def C_spec_DrawApplyFixup : Con := { ps := [.ro (.list .u)], out := fun x => let c : List (Int) := x.1; .all (List Int) fun b => .all Int fun p => .all Fixup fun f => .all Int fun t => .giv (b.length ≤ 9 ∧ 0 ≤ p ∧ p ≤ 200 ∧ -1 ≤ f.at_ ∧ f.at_ ≤ 10 ∧ 0 ≤ f.kind ∧ f.kind ≤ 3 ∧ -10 ≤ f.add ∧ f.add ≤ 10 ∧ -100 ≤ t ∧ t ≤ 1000) (fxDraw b p f t), det := false }
def G_spec_DrawApplyFixup : Cfg := mkG (tyL [(3, .i), (5, .u), (4, .bool), (9, .str), (126, .int .u64), (45, .st .fixup), (24, .st .img), (91, .st .patch), (65, .st .hash), (63, .list .i), (61, .list .str), (22, .list .u), (41, .st .fixup), (33, .st .img), (72, .st .hash)]) [(63, C_spec_l20Open), (84, C_spec_l20Bytes), (65, C_spec_l20Rd_pick)] false
def an_spec_DrawApplyFixup : PTL C_spec_DrawApplyFixup.ps → Nat → Option Ann := fun _ _ => none
set_option maxRecDepth 200000 in
theorem vc_spec_DrawApplyFixup (c : List (Int)) : (keeps Try.prog G_spec_DrawApplyFixup (an_spec_DrawApplyFixup (c, ())) (Try.f39.body.getD .skip) Try.f39.results.toList C_spec_DrawApplyFixup (c, ())) = (((((0 : Int) ≤ (0 : Int)) ∧
 (((0 : Int) ≤ (1000000000 : Int)) ∧
 (((0 : Int) ≤ (9 : Int)) ∧
 ((9 : Int) ≤ (1000 : Int))))) ∧
 (∀ (x_1 : (List Int)), (∀ (x_2 : Int), ((((0 : Int) ≤ x_2) ∧
 ((x_2 ≤ (((0 : Int) + ((2 : Int) * (9 : Int))) + (1 : Int))) ∧
 (((@Nat.cast Int _ (List.length x_1)) ≤ (9 : Int)) ∧
 (byB x_1)))) →
 ((((0 : Int) ≤ x_2) ∧
 (x_2 ≤ (1000000000000 : Int))) ∧
 ((((- (9223372036854775808 : Int)) ≤ ((8 : Int) * (pickF (List.take (2000 : Nat) c) x_2 (20 : Int)))) ∧
 (((8 : Int) * (pickF (List.take (2000 : Nat) c) x_2 (20 : Int))) ≤ (9223372036854775807 : Int))) ∧
 ((((0 : Int) ≤ (x_2 + (1 : Int))) ∧
 ((x_2 + (1 : Int)) ≤ (1000000000000 : Int))) ∧
 ((((0 : Int) ≤ ((x_2 + (1 : Int)) + (1 : Int))) ∧
 (((x_2 + (1 : Int)) + (1 : Int)) ≤ (1000000000000 : Int))) ∧
 ((((0 : Int) ≤ (pickF (List.take (2000 : Nat) c) ((x_2 + (1 : Int)) + (1 : Int)) (14 : Int))) ∧
 ((0 : Int) < (13 : Int))) ∧
 ((((- (9223372036854775808 : Int)) ≤ ((pickF (List.take (2000 : Nat) c) (x_2 + (1 : Int)) (10 : Int)) - ((pickF (List.take (2000 : Nat) c) ((x_2 + (1 : Int)) + (1 : Int)) (14 : Int)) / (13 : Int)))) ∧
 (((pickF (List.take (2000 : Nat) c) (x_2 + (1 : Int)) (10 : Int)) - ((pickF (List.take (2000 : Nat) c) ((x_2 + (1 : Int)) + (1 : Int)) (14 : Int)) / (13 : Int))) ≤ (9223372036854775807 : Int))) ∧
 ((((0 : Int) ≤ (((x_2 + (1 : Int)) + (1 : Int)) + (1 : Int))) ∧
 ((((x_2 + (1 : Int)) + (1 : Int)) + (1 : Int)) ≤ (1000000000000 : Int))) ∧
 ((((0 : Int) ≤ (pickF (List.take (2000 : Nat) c) (((x_2 + (1 : Int)) + (1 : Int)) + (1 : Int)) (7 : Int))) ∧
 ((pickF (List.take (2000 : Nat) c) (((x_2 + (1 : Int)) + (1 : Int)) + (1 : Int)) (7 : Int)) < (@Nat.cast Int _ (7 : Nat)))) ∧
 (∀ (x_3 : Int), ((@Eq (Option Int) ([(0 : Int), (0 : Int), (1 : Int), (1 : Int), (2 : Int), (2 : Int), (3 : Int)])[(Int.toNat (pickF (List.take (2000 : Nat) c) (((x_2 + (1 : Int)) + (1 : Int)) + (1 : Int)) (7 : Int)))]? (some x_3)) →
 ((Ok (Ty.int IntKind.i64) x_3) →
 ((((0 : Int) ≤ x_3) ∧
 (x_3 < (@Nat.cast Int _ (4 : Nat)))) ∧
 (∀ (x_4 : Int), ((@Eq (Option Int) ([(1 : Int), (2 : Int), (3 : Int), (0 : Int)])[(Int.toNat x_3)]? (some x_4)) →
 ((Ok (Ty.int IntKind.i64) x_4) →
 ((((0 : Int) ≤ ((((x_2 + (1 : Int)) + (1 : Int)) + (1 : Int)) + (1 : Int))) ∧
 (((((x_2 + (1 : Int)) + (1 : Int)) + (1 : Int)) + (1 : Int)) ≤ (1000000000000 : Int))) ∧
 ((((0 : Int) ≤ (((((x_2 + (1 : Int)) + (1 : Int)) + (1 : Int)) + (1 : Int)) + (1 : Int))) ∧
 ((((((x_2 + (1 : Int)) + (1 : Int)) + (1 : Int)) + (1 : Int)) + (1 : Int)) ≤ (1000000000000 : Int))) ∧
 ((((- (9223372036854775808 : Int)) ≤ ((pickF (List.take (2000 : Nat) c) (((((x_2 + (1 : Int)) + (1 : Int)) + (1 : Int)) + (1 : Int)) + (1 : Int)) (20 : Int)) - (10 : Int))) ∧
 (((pickF (List.take (2000 : Nat) c) (((((x_2 + (1 : Int)) + (1 : Int)) + (1 : Int)) + (1 : Int)) + (1 : Int)) (20 : Int)) - (10 : Int)) ≤ (9223372036854775807 : Int))) ∧
 ((((0 : Int) ≤ ((((((x_2 + (1 : Int)) + (1 : Int)) + (1 : Int)) + (1 : Int)) + (1 : Int)) + (1 : Int))) ∧
 (((((((x_2 + (1 : Int)) + (1 : Int)) + (1 : Int)) + (1 : Int)) + (1 : Int)) + (1 : Int)) ≤ (1000000000000 : Int))) ∧
 ((((- (9223372036854775808 : Int)) ≤ (((8 : Int) * (pickF (List.take (2000 : Nat) c) x_2 (20 : Int))) + (pickF (List.take (2000 : Nat) c) ((((((x_2 + (1 : Int)) + (1 : Int)) + (1 : Int)) + (1 : Int)) + (1 : Int)) + (1 : Int)) (256 : Int)))) ∧
 ((((8 : Int) * (pickF (List.take (2000 : Nat) c) x_2 (20 : Int))) + (pickF (List.take (2000 : Nat) c) ((((((x_2 + (1 : Int)) + (1 : Int)) + (1 : Int)) + (1 : Int)) + (1 : Int)) + (1 : Int)) (256 : Int))) ≤ (9223372036854775807 : Int))) ∧
 ((((- (9223372036854775808 : Int)) ≤ ((((8 : Int) * (pickF (List.take (2000 : Nat) c) x_2 (20 : Int))) + (pickF (List.take (2000 : Nat) c) ((((((x_2 + (1 : Int)) + (1 : Int)) + (1 : Int)) + (1 : Int)) + (1 : Int)) + (1 : Int)) (256 : Int))) - (100 : Int))) ∧
 (((((8 : Int) * (pickF (List.take (2000 : Nat) c) x_2 (20 : Int))) + (pickF (List.take (2000 : Nat) c) ((((((x_2 + (1 : Int)) + (1 : Int)) + (1 : Int)) + (1 : Int)) + (1 : Int)) + (1 : Int)) (256 : Int))) - (100 : Int)) ≤ (9223372036854775807 : Int))) ∧
 (∃ (x_5 : (List Int)), (∃ (x_6 : Int), (∃ (x_7 : Fixup), (∃ (x_8 : Int), (((((8 : Int) * (pickF (List.take (2000 : Nat) c) x_2 (20 : Int))) = x_6) ∧
 ((((pickF (List.take (2000 : Nat) c) (x_2 + (1 : Int)) (10 : Int)) - ((pickF (List.take (2000 : Nat) c) ((x_2 + (1 : Int)) + (1 : Int)) (14 : Int)) / (13 : Int))) = (Fixup.at_ x_7)) ∧
 ((x_4 = (Fixup.kind x_7)) ∧
 (((pickF (List.take (2000 : Nat) c) ((((x_2 + (1 : Int)) + (1 : Int)) + (1 : Int)) + (1 : Int)) (3 : Int)) = (Fixup.to x_7)) ∧
 ((((pickF (List.take (2000 : Nat) c) (((((x_2 + (1 : Int)) + (1 : Int)) + (1 : Int)) + (1 : Int)) + (1 : Int)) (20 : Int)) - (10 : Int)) = (Fixup.add x_7)) ∧
 ((((((8 : Int) * (pickF (List.take (2000 : Nat) c) x_2 (20 : Int))) + (pickF (List.take (2000 : Nat) c) ((((((x_2 + (1 : Int)) + (1 : Int)) + (1 : Int)) + (1 : Int)) + (1 : Int)) + (1 : Int)) (256 : Int))) - (100 : Int)) = x_8) ∧
 ((@Eq (List Int) x_1 x_5) ∧
 True))))))) ∧
 (((List.length x_5) ≤ (9 : Nat)) ∧
 (((0 : Int) ≤ x_6) ∧
 ((x_6 ≤ (200 : Int)) ∧
 (((- (1 : Int)) ≤ (Fixup.at_ x_7)) ∧
 (((Fixup.at_ x_7) ≤ (10 : Int)) ∧
 (((0 : Int) ≤ (Fixup.kind x_7)) ∧
 (((Fixup.kind x_7) ≤ (3 : Int)) ∧
 (((- (10 : Int)) ≤ (Fixup.add x_7)) ∧
 (((Fixup.add x_7) ≤ (10 : Int)) ∧
 (((- (100 : Int)) ≤ x_8) ∧
 (x_8 ≤ (1000 : Int))))))))))))))))))))))))))))))))))))))))))) := by kernel_rfl
theorem det_spec_DrawApplyFixup : C_spec_DrawApplyFixup.det = true → ∀ x, (C_spec_DrawApplyFixup.out x).Det := fun h => absurd h Bool.false_ne_true
set_option maxRecDepth 200000 in
set_option maxHeartbeats 1000000 in
theorem ok_spec_DrawApplyFixup : ConOK Try.prog 39 C_spec_DrawApplyFixup := by
  refine con_mk (wr := false) (ty := tyL [(3, .i), (5, .u), (4, .bool), (9, .str), (126, .int .u64), (45, .st .fixup), (24, .st .img), (91, .st .patch), (65, .st .hash), (63, .list .i), (61, .list .str), (22, .list .u), (41, .st .fixup), (33, .st .img), (72, .st .hash)]) (l := [(63, C_spec_l20Open), (84, C_spec_l20Bytes), (65, C_spec_l20Rd_pick)]) ⟨⟨ok_spec_l20Open, det_spec_l20Open⟩, ⟨⟨ok_spec_l20Bytes, det_spec_l20Bytes⟩, ⟨⟨ok_spec_l20Rd_pick, det_spec_l20Rd_pick⟩, trivial⟩⟩⟩ Try.checked.mixed (fn := Try.f39) (body := Try.f39.body.getD .skip) Try.func39 rfl (by decide) (by kernel_rfl) rfl an_spec_DrawApplyFixup fun x ho hx => ?_
  obtain ⟨c, ⟨⟩⟩ := x
  refine Keeps.of (vc_spec_DrawApplyFixup c) ?_
  revert c ho hx
  show ∀ (c : List (Int)), _
  intro c ho hx
  dsimp only [C_spec_DrawApplyFixup, okPTL, okPT, Ok, Ty.cells, SN.cells, OkL, OkC, okI, ci, cb, cs, cl] at ho
  dsimp only [C_spec_DrawApplyFixup, vc, v1, decB, SR.pre] at hx
  have hb := pickF_bd (List.take 2000 c)
  simp only [decide_eq_true_eq, decide_eq_false_iff_not, Bool.not_eq_true', Bool.not_eq_false', and_true, true_and, and_assoc, Int.toNat_natCast, exists_eq_left', exists_eq_left, exists_and_left, Int.not_lt, Int.not_le, Bool.false_eq_true, false_implies, implies_true, forall_const, List.length_append, List.length_cons, List.length_nil, Int.sub_add_cancel, Int.add_sub_cancel, and_imp, ex_img, ex_mem, ex_fix, ex_pat, forall_eq', forall_eq]; (repeat' first | apply And.intro | (intro x hq _; replace hq := List.mem_of_getElem? hq; simp only [List.mem_cons, List.not_mem_nil, or_false] at hq) | intro _); all_goals (try omega)
  all_goals grind
def C_laws_FnApplyFixup : Con := { ps := [.ro (.list .u)], out := fun x => let c : List (Int) := x.1; vc .bool true, det := true }
def G_laws_FnApplyFixup : Cfg := mkG (tyL [(3, .i), (5, .u), (4, .bool), (9, .str), (126, .int .u64), (45, .st .fixup), (24, .st .img), (91, .st .patch), (65, .st .hash), (63, .list .i), (61, .list .str), (22, .list .u), (41, .st .fixup), (33, .st .img), (72, .st .hash)]) [(39, C_spec_DrawApplyFixup), (30, C_impl_ApplyFixup), (27, C_spec_ApplyFixup), (40, C_laws_sameBytes), (19, C_laws_alive), (41, C_impl_FixupWide), (42, C_impl_FixupValue), (43, C_impl_GetNumber)] false
def an_laws_FnApplyFixup : PTL C_laws_FnApplyFixup.ps → Nat → Option Ann := fun x kk_ => let c : List (Int) := x.1; if kk_ = 11 then some (.all (List Int) fun b => .all (Int) fun p => .all (Fixup) fun f => .all (Int) fun t => .all (List Int) fun y => .all (Int) fun k => .giv ((fxVal b p f t).isSome = true ∧ y = fxApp b p f t ∧ -10 ≤ f.at_ ∧ f.at_ ≤ 10 ∧ b.length ≤ 9 ∧ 0 ≤ k ∧ k ≤ b.length) (.mk [(3, al .u b), (4, ai p), (5, aref 30), (6, ai t), (7, al .u y), (11, ai k)] [(30, bx (ast .fixup f))] ((b.length - k.toNat)))) else none
set_option maxRecDepth 200000 in
theorem vc_laws_FnApplyFixup (c : List (Int)) : (keeps Try.prog G_laws_FnApplyFixup (an_laws_FnApplyFixup (c, ())) (Try.f8.body.getD .skip) Try.f8.results.toList C_laws_FnApplyFixup (c, ())) = ((((List.length c) ≤ (9223372036854775807 : Nat)) →
 ((((decide ((1048576 : Int) < (@Nat.cast Int _ (List.length c)))) = true) →
 ((true = true) ∧
 True)) ∧
 (((decide ((1048576 : Int) < (@Nat.cast Int _ (List.length c)))) = false) →
 (∀ (x_1 : (List Int)), (∀ (x_2 : Int), (∀ (x_3 : Fixup), (∀ (x_4 : Int), ((((List.length x_1) ≤ (9 : Nat)) ∧
 (((0 : Int) ≤ x_2) ∧
 ((x_2 ≤ (200 : Int)) ∧
 (((- (1 : Int)) ≤ (Fixup.at_ x_3)) ∧
 (((Fixup.at_ x_3) ≤ (10 : Int)) ∧
 (((0 : Int) ≤ (Fixup.kind x_3)) ∧
 (((Fixup.kind x_3) ≤ (3 : Int)) ∧
 (((- (10 : Int)) ≤ (Fixup.add x_3)) ∧
 (((Fixup.add x_3) ≤ (10 : Int)) ∧
 (((- (100 : Int)) ≤ x_4) ∧
 (x_4 ≤ (1000 : Int)))))))))))) →
 (((List.length x_1) ≤ (1048576 : Nat)) ∧
 (((List.length x_1) ≤ (1048576 : Nat)) ∧
 ((((Bool.not (decide (@Eq (List Int) (fxApp x_1 x_2 x_3 x_4) (fxApp x_1 x_2 x_3 x_4)))) = true) →
 ((false = true) ∧
 True)) ∧
 (((Bool.not (decide (@Eq (List Int) (fxApp x_1 x_2 x_3 x_4) (fxApp x_1 x_2 x_3 x_4)))) = false) →
 ((((decide ((@Option.isSome Int (fxVal x_1 x_2 x_3 x_4)) ≠ (@Option.isSome Int (fxVal x_1 x_2 x_3 x_4)))) = true) →
 ((false = true) ∧
 True)) ∧
 (((decide ((@Option.isSome Int (fxVal x_1 x_2 x_3 x_4)) ≠ (@Option.isSome Int (fxVal x_1 x_2 x_3 x_4)))) = false) →
 ((((Bool.not (@Option.isSome Int (fxVal x_1 x_2 x_3 x_4))) = true) →
 ((((decide (@Eq (List Int) (fxApp x_1 x_2 x_3 x_4) x_1)) = true) →
 ((true = true) ∧
 True)) ∧
 (((decide (@Eq (List Int) (fxApp x_1 x_2 x_3 x_4) x_1)) = false) →
 ((false = true) ∧
 True)))) ∧
 (((Bool.not (@Option.isSome Int (fxVal x_1 x_2 x_3 x_4))) = false) →
 ((∃ (x_5 : (List Int)), (∃ (x_6 : Int), (∃ (x_7 : Fixup), (∃ (x_8 : Int), (∃ (x_9 : (List Int)), (∃ (x_10 : Int), ((@Eq (List Int) x_1 x_5) ∧
 ((x_2 = x_6) ∧
 ((x_4 = x_8) ∧
 ((@Eq (List Int) (fxApp x_1 x_2 x_3 x_4) x_9) ∧
 (((0 : Int) = x_10) ∧
 (((Fixup.at_ x_3) = (Fixup.at_ x_7)) ∧
 (((Fixup.kind x_3) = (Fixup.kind x_7)) ∧
 (((Fixup.to x_3) = (Fixup.to x_7)) ∧
 (((Fixup.add x_3) = (Fixup.add x_7)) ∧
 ((((@Option.isSome Int (fxVal x_5 x_6 x_7 x_8)) = true) ∧
 ((@Eq (List Int) x_9 (fxApp x_5 x_6 x_7 x_8)) ∧
 (((- (10 : Int)) ≤ (Fixup.at_ x_7)) ∧
 (((Fixup.at_ x_7) ≤ (10 : Int)) ∧
 (((List.length x_5) ≤ (9 : Nat)) ∧
 (((0 : Int) ≤ x_10) ∧
 (x_10 ≤ (@Nat.cast Int _ (List.length x_5))))))))) ∧
 True)))))))))))))))) ∧
 (∀ (x_11 : (List Int)), (∀ (x_12 : Int), (∀ (x_13 : Fixup), (∀ (x_14 : Int), (∀ (x_15 : (List Int)), (∀ (x_16 : Int), ((((@Option.isSome Int (fxVal x_11 x_12 x_13 x_14)) = true) ∧
 ((@Eq (List Int) x_15 (fxApp x_11 x_12 x_13 x_14)) ∧
 (((- (10 : Int)) ≤ (Fixup.at_ x_13)) ∧
 (((Fixup.at_ x_13) ≤ (10 : Int)) ∧
 (((List.length x_11) ≤ (9 : Nat)) ∧
 (((0 : Int) ≤ x_16) ∧
 (x_16 ≤ (@Nat.cast Int _ (List.length x_11))))))))) →
 (((List.length x_11) ≤ (9223372036854775807 : Nat)) →
 ((((decide (x_16 < (@Nat.cast Int _ (List.length x_11)))) = true) →
 ((((decide (x_16 < (Fixup.at_ x_13))) = true) →
 ((((0 : Int) ≤ x_16) ∧
 (x_16 < (@Nat.cast Int _ (List.length x_15)))) ∧
 (∀ (x_17 : Int), ((@Eq (Option Int) (x_15)[(Int.toNat x_16)]? (some x_17)) →
 ((Ok (Ty.int IntKind.u8) x_17) →
 ((((0 : Int) ≤ x_16) ∧
 (x_16 < (@Nat.cast Int _ (List.length x_11)))) ∧
 (∀ (x_18 : Int), ((@Eq (Option Int) (x_11)[(Int.toNat x_16)]? (some x_18)) →
 ((Ok (Ty.int IntKind.u8) x_18) →
 ((((decide (x_17 ≠ x_18)) = true) →
 ((false = true) ∧
 True)) ∧
 (((decide (x_17 ≠ x_18)) = false) →
 ((((- (9223372036854775808 : Int)) ≤ (x_16 + (1 : Int))) ∧
 ((x_16 + (1 : Int)) ≤ (9223372036854775807 : Int))) ∧
 (∃ (x_19 : (List Int)), (∃ (x_20 : Int), (∃ (x_21 : Fixup), (∃ (x_22 : Int), (∃ (x_23 : (List Int)), (∃ (x_24 : Int), ((@Eq (List Int) x_11 x_19) ∧
 ((x_12 = x_20) ∧
 ((x_14 = x_22) ∧
 ((@Eq (List Int) x_15 x_23) ∧
 (((x_16 + (1 : Int)) = x_24) ∧
 (((Fixup.at_ x_13) = (Fixup.at_ x_21)) ∧
 (((Fixup.kind x_13) = (Fixup.kind x_21)) ∧
 (((Fixup.to x_13) = (Fixup.to x_21)) ∧
 (((Fixup.add x_13) = (Fixup.add x_21)) ∧
 ((((@Option.isSome Int (fxVal x_19 x_20 x_21 x_22)) = true) ∧
 ((@Eq (List Int) x_23 (fxApp x_19 x_20 x_21 x_22)) ∧
 (((- (10 : Int)) ≤ (Fixup.at_ x_21)) ∧
 (((Fixup.at_ x_21) ≤ (10 : Int)) ∧
 (((List.length x_19) ≤ (9 : Nat)) ∧
 (((0 : Int) ≤ x_24) ∧
 (x_24 ≤ (@Nat.cast Int _ (List.length x_19))))))))) ∧
 (((List.length x_19) - (Int.toNat x_24)) < ((List.length x_11) - (Int.toNat x_16))))))))))))))))))))))))))))))) ∧
 (((decide (x_16 < (Fixup.at_ x_13))) = false) →
 ((((- (9223372036854775808 : Int)) ≤ ((Fixup.at_ x_13) + (fixWide (Fixup.kind x_13)))) ∧
 (((Fixup.at_ x_13) + (fixWide (Fixup.kind x_13))) ≤ (9223372036854775807 : Int))) ∧
 ((((decide (((Fixup.at_ x_13) + (fixWide (Fixup.kind x_13))) ≤ x_16)) = true) →
 ((((0 : Int) ≤ x_16) ∧
 (x_16 < (@Nat.cast Int _ (List.length x_15)))) ∧
 (∀ (x_25 : Int), ((@Eq (Option Int) (x_15)[(Int.toNat x_16)]? (some x_25)) →
 ((Ok (Ty.int IntKind.u8) x_25) →
 ((((0 : Int) ≤ x_16) ∧
 (x_16 < (@Nat.cast Int _ (List.length x_11)))) ∧
 (∀ (x_26 : Int), ((@Eq (Option Int) (x_11)[(Int.toNat x_16)]? (some x_26)) →
 ((Ok (Ty.int IntKind.u8) x_26) →
 ((((decide (x_25 ≠ x_26)) = true) →
 ((false = true) ∧
 True)) ∧
 (((decide (x_25 ≠ x_26)) = false) →
 ((((- (9223372036854775808 : Int)) ≤ (x_16 + (1 : Int))) ∧
 ((x_16 + (1 : Int)) ≤ (9223372036854775807 : Int))) ∧
 (∃ (x_27 : (List Int)), (∃ (x_28 : Int), (∃ (x_29 : Fixup), (∃ (x_30 : Int), (∃ (x_31 : (List Int)), (∃ (x_32 : Int), ((@Eq (List Int) x_11 x_27) ∧
 ((x_12 = x_28) ∧
 ((x_14 = x_30) ∧
 ((@Eq (List Int) x_15 x_31) ∧
 (((x_16 + (1 : Int)) = x_32) ∧
 (((Fixup.at_ x_13) = (Fixup.at_ x_29)) ∧
 (((Fixup.kind x_13) = (Fixup.kind x_29)) ∧
 (((Fixup.to x_13) = (Fixup.to x_29)) ∧
 (((Fixup.add x_13) = (Fixup.add x_29)) ∧
 ((((@Option.isSome Int (fxVal x_27 x_28 x_29 x_30)) = true) ∧
 ((@Eq (List Int) x_31 (fxApp x_27 x_28 x_29 x_30)) ∧
 (((- (10 : Int)) ≤ (Fixup.at_ x_29)) ∧
 (((Fixup.at_ x_29) ≤ (10 : Int)) ∧
 (((List.length x_27) ≤ (9 : Nat)) ∧
 (((0 : Int) ≤ x_32) ∧
 (x_32 ≤ (@Nat.cast Int _ (List.length x_27))))))))) ∧
 (((List.length x_27) - (Int.toNat x_32)) < ((List.length x_11) - (Int.toNat x_16))))))))))))))))))))))))))))))) ∧
 (((decide (((Fixup.at_ x_13) + (fixWide (Fixup.kind x_13))) ≤ x_16)) = false) →
 ((((- (9223372036854775808 : Int)) ≤ (x_16 + (1 : Int))) ∧
 ((x_16 + (1 : Int)) ≤ (9223372036854775807 : Int))) ∧
 (∃ (x_33 : (List Int)), (∃ (x_34 : Int), (∃ (x_35 : Fixup), (∃ (x_36 : Int), (∃ (x_37 : (List Int)), (∃ (x_38 : Int), ((@Eq (List Int) x_11 x_33) ∧
 ((x_12 = x_34) ∧
 ((x_14 = x_36) ∧
 ((@Eq (List Int) x_15 x_37) ∧
 (((x_16 + (1 : Int)) = x_38) ∧
 (((Fixup.at_ x_13) = (Fixup.at_ x_35)) ∧
 (((Fixup.kind x_13) = (Fixup.kind x_35)) ∧
 (((Fixup.to x_13) = (Fixup.to x_35)) ∧
 (((Fixup.add x_13) = (Fixup.add x_35)) ∧
 ((((@Option.isSome Int (fxVal x_33 x_34 x_35 x_36)) = true) ∧
 ((@Eq (List Int) x_37 (fxApp x_33 x_34 x_35 x_36)) ∧
 (((- (10 : Int)) ≤ (Fixup.at_ x_35)) ∧
 (((Fixup.at_ x_35) ≤ (10 : Int)) ∧
 (((List.length x_33) ≤ (9 : Nat)) ∧
 (((0 : Int) ≤ x_38) ∧
 (x_38 ≤ (@Nat.cast Int _ (List.length x_33))))))))) ∧
 (((List.length x_33) - (Int.toNat x_38)) < ((List.length x_11) - (Int.toNat x_16)))))))))))))))))))))))))) ∧
 (((decide (x_16 < (@Nat.cast Int _ (List.length x_11)))) = false) →
 ((((- (9223372036854775808 : Int)) ≤ (x_12 + (Fixup.at_ x_13))) ∧
 ((x_12 + (Fixup.at_ x_13)) ≤ (9223372036854775807 : Int))) ∧
 (((List.length x_15) ≤ (9223372036854775807 : Nat)) →
 (((List.length x_11) ≤ (9223372036854775807 : Nat)) →
 ((((decide ((@Nat.cast Int _ (List.length x_15)) = (@Nat.cast Int _ (List.length x_11)))) = true) →
 ((((@Option.isSome Int (fixVal (Fixup.kind x_13) (x_12 + (Fixup.at_ x_13)) x_14 (Fixup.add x_13))) = true) →
 (((decide ((getN x_15 (Fixup.at_ x_13) (fixWide (Fixup.kind x_13))) = (@Option.getD Int (fixVal (Fixup.kind x_13) (x_12 + (Fixup.at_ x_13)) x_14 (Fixup.add x_13)) (0 : Int)))) = true) ∧
 True)) ∧
 (((@Option.isSome Int (fixVal (Fixup.kind x_13) (x_12 + (Fixup.at_ x_13)) x_14 (Fixup.add x_13))) = false) →
 ((false = true) ∧
 True)))) ∧
 (((decide ((@Nat.cast Int _ (List.length x_15)) = (@Nat.cast Int _ (List.length x_11)))) = false) →
 ((false = true) ∧
 True)))))))))))))))))))))))))))))))))) := by kernel_rfl
theorem det_laws_FnApplyFixup : C_laws_FnApplyFixup.det = true → ∀ x, (C_laws_FnApplyFixup.out x).Det := fun _ x => by simp only [C_laws_FnApplyFixup]; repeat (first | exact Det.ret _ | exact Det.vc' | apply Det.req | apply Det.giv | apply Det.fork | apply Det.bif' | intro _)
set_option maxRecDepth 200000 in
set_option maxHeartbeats 1000000 in
theorem ok_laws_FnApplyFixup : ConOK Try.prog 8 C_laws_FnApplyFixup := by
  refine con_mk (wr := false) (ty := tyL [(3, .i), (5, .u), (4, .bool), (9, .str), (126, .int .u64), (45, .st .fixup), (24, .st .img), (91, .st .patch), (65, .st .hash), (63, .list .i), (61, .list .str), (22, .list .u), (41, .st .fixup), (33, .st .img), (72, .st .hash)]) (l := [(39, C_spec_DrawApplyFixup), (30, C_impl_ApplyFixup), (27, C_spec_ApplyFixup), (40, C_laws_sameBytes), (19, C_laws_alive), (41, C_impl_FixupWide), (42, C_impl_FixupValue), (43, C_impl_GetNumber)]) ⟨⟨ok_spec_DrawApplyFixup, det_spec_DrawApplyFixup⟩, ⟨⟨ok_impl_ApplyFixup, det_impl_ApplyFixup⟩, ⟨⟨ok_spec_ApplyFixup, det_spec_ApplyFixup⟩, ⟨⟨ok_laws_sameBytes, det_laws_sameBytes⟩, ⟨⟨ok_laws_alive, det_laws_alive⟩, ⟨⟨ok_impl_FixupWide, det_impl_FixupWide⟩, ⟨⟨ok_impl_FixupValue, det_impl_FixupValue⟩, ⟨⟨ok_impl_GetNumber, det_impl_GetNumber⟩, trivial⟩⟩⟩⟩⟩⟩⟩⟩ Try.checked.mixed (fn := Try.f8) (body := Try.f8.body.getD .skip) Try.func8 rfl (by decide) (by kernel_rfl) rfl an_laws_FnApplyFixup fun x ho hx => ?_
  obtain ⟨c, ⟨⟩⟩ := x
  refine Keeps.of (vc_laws_FnApplyFixup c) ?_
  revert c ho hx
  show ∀ (c : List (Int)), _
  intro c ho hx
  dsimp only [C_laws_FnApplyFixup, okPTL, okPT, Ok, Ty.cells, SN.cells, OkL, OkC, okI, ci, cb, cs, cl] at ho
  dsimp only [C_laws_FnApplyFixup, vc, v1, decB, SR.pre] at hx
  have hw := fixWide_le
  have hn : ∀ b p f t, (fxVal b p f t).isSome = false → fxApp b p f t = b := fun b p f t h => fxApp_none (by simpa using h)
  have hl := @fxApp_len
  have hi : ∀ b p f t, (fxVal b p f t).isSome = true → fxVal b p f t = some ((fxVal b p f t).getD 0) := fun b p f t h => by
    cases hv : fxVal b p f t with
    | none => rw [hv] at h; cases h
    | some v => rfl
  have hs : ∀ b p f t, (fxVal b p f t).isSome = true → 0 ≤ f.at_ ∧ f.at_ + fixWide f.kind ≤ b.length ∧ 1 ≤ fixWide f.kind ∧ fixWide f.kind ≤ 4 ∧ 0 ≤ p ∧ p ≤ 100000 ∧ fixVal f.kind (p + f.at_) t f.add = some ((fxVal b p f t).getD 0) := fun b p f t h => by
    have := fxApp_some (hi b p f t h)
    refine ⟨this.2.1, this.2.2.1, this.2.2.2.1, this.2.2.2.2.1, this.2.2.2.2.2.2.2.2.1, this.2.2.2.2.2.2.2.2.2, this.2.2.2.2.2.2.2.1⟩
  have hg : ∀ b p f t k, (fxVal b p f t).isSome = true → 0 ≤ k → (k < f.at_ ∨ f.at_ + fixWide f.kind ≤ k) → (fxApp b p f t)[k.toNat]? = b[k.toNat]? := fun b p f t k h => fxApp_get (hi b p f t h)
  have hu : ∀ b p f t, (fxVal b p f t).isSome = true → getN (fxApp b p f t) f.at_ (fixWide f.kind) = (fxVal b p f t).getD 0 := fun b p f t h => fxApp_num (hi b p f t h)
  simp only [decide_eq_true_eq, decide_eq_false_iff_not, Bool.not_eq_true', Bool.not_eq_false', and_true, true_and, and_assoc, Int.toNat_natCast, exists_eq_left', exists_eq_left, exists_and_left, Int.not_lt, Int.not_le, Bool.false_eq_true, false_implies, implies_true, forall_const, List.length_append, List.length_cons, List.length_nil, Int.sub_add_cancel, Int.add_sub_cancel, and_imp, ex_img, ex_mem, ex_fix, ex_pat, forall_eq', forall_eq]; (repeat' first | apply And.intro | (intro x hq _; replace hq := List.mem_of_getElem? hq; simp only [List.mem_cons, List.not_mem_nil, or_false] at hq) | intro _); all_goals (try omega)
  all_goals grind

theorem rd_u : Reads Try.prog 5 [.u] := reads_u8 Try.underlying5
theorem rd_uL : Reads Try.prog 22 [(.list .u)] := reads_slice (t' := .u) Try.underlying22 (by kernel_rfl) (by decide) rd_u
set_option maxRecDepth 100000 in
theorem lifted_FnApplyFixup (os : Os) (started : os.Started) (H : Type) (enc : TypeId × Value → H) :
    ReturnsInHanded {} Try.checked os 8 .any (Rows.fnApplyFixupSpec.pre6 enc Try.prog Try.f8 Rows.fnApplyFixupRow.domain false) (Rows.fnApplyFixupSpec.post enc Try.prog Try.f8 false true false false) := by
  refine returnsInHanded_of_change (C := Try.checked) head_own started (by kernel_rfl) Try.func8
    (ChangeSpec.witness6 (enc := enc) (C := Try.checked) false ⟨#[], #[.slice none 0 0], []⟩ 8 (by kernel_rfl) (by kernel_rfl) (by kernel_rfl) (by kernel_rfl)) ?_
  intro W base args ds gs before hval0 hW _ _
  have hval : ∀ (j : Nat) t v, Try.f8.params[j]? = some t → args[j]? = some v → Value.okWide Try.prog W .any base t v := hval0
  have hW' := hW
  obtain ⟨p, q, hA0, hV, rfl, hfz, hnd⟩ := hW
  have hA : DataW.TrodAll enc Try.prog W 0 (fun _ => true) true Try.f8.params.toList args.toList ds p := hA0
  rw [Try.params8] at hA hval
  obtain ⟨v0, vs0, d0, ds0, p0, q0, hargs, rfl, rfl, h0, r0⟩ := trodAll_cons hA
  obtain ⟨rfl, rfl, rfl⟩ := trodAll_nil r0
  obtain rfl : args = #[v0] := by cases args; simp_all
  obtain ⟨rfl, rfl⟩ := trodVars_none hV
  have k0 := h0
  obtain ⟨x0, g0⟩ := open_slice1 Try.underlying22 rd_uL (hval 0 22 v0 rfl rfl) h0
  clear hA0 hval0 hval
  refine (law_calls ok_laws_FnApplyFixup (x0, ()) rfl rfl (W := W) (vals := [v0]) ⟨g0, trivial⟩).mono fun e W' ⟨he, bel⟩ => ?_
  subst he
  exact ⟨_, rfl, _, _, _, [], _, [], hW', trodAll_mk1 (shut_bool Try.underlying4 _), (trodAll_cons_mk (Below.trod head_laid (by kernel_rfl) (of_decide_eq_true (by kernel_rfl)) k0 bel (trod_lt_ k0)) trodAll_mk0), rfl, bel.frame _, fun h => by cases h⟩

theorem over_FnApplyFixup : Rows.fnApplyFixupRow.holds Try.pinned (OpenSpec.ofChange Rows.fnApplyFixupSpec) :=
  OpenClaim.holds_of_wide 8 Try.f8 rfl rfl rfl rfl rfl rfl rfl ⟨rfl, rfl, rfl, rfl, rfl⟩ rfl rfl rfl rfl rfl (by kernel_rfl) Try.func8 (joined_of head_laid head_rowed head_stops head_stopk head_heard head_enter (show (Rows.fnApplyFixupRow.lifted == Try.prog.liftsFinal) = true by rw [head_final]; rfl) (show (Try.prog.make == some Rows.fnApplyFixupRow.make) = true by rw [head_make]; rfl) (by kernel_rfl))
    (of_decide_eq_true (by kernel_rfl)) (by unfold Func.isWrapper; first | (rw [if_pos (by decide +kernel)]; kernel_rfl) | (rw [if_neg (by decide +kernel)]; exact ⟨rfl, rfl⟩))
    (fun os started H enc _ => lifted_FnApplyFixup os started H enc)

theorem proved_FnApplyFixup : Rows.FnApplyFixupSaid := over_FnApplyFixup
#print axioms proved_FnApplyFixup

def C_laws_FnExactApplyFixup : Con := { ps := [.ro (.list .u), .ro .i, .ro (.st .fixup), .ro .i], out := fun x => let b : List (Int) := x.1; let p : Int := x.2.1; let f : Fixup := x.2.2.1; let t : Int := x.2.2.2.1; vc .bool true, det := true }
def G_laws_FnExactApplyFixup : Cfg := mkG (tyL [(3, .i), (5, .u), (4, .bool), (9, .str), (126, .int .u64), (45, .st .fixup), (24, .st .img), (91, .st .patch), (65, .st .hash), (63, .list .i), (61, .list .str), (22, .list .u), (41, .st .fixup), (33, .st .img), (72, .st .hash)]) [(28, C_laws_toByteS), (29, C_laws_toFixup), (27, C_spec_ApplyFixup), (30, C_impl_ApplyFixup), (31, C_laws_eqByteS), (32, C_laws_markByteS), (33, C_laws_heldByteS)] false
def an_laws_FnExactApplyFixup : PTL C_laws_FnExactApplyFixup.ps → Nat → Option Ann := fun _ _ => none
set_option maxRecDepth 200000 in
theorem vc_laws_FnExactApplyFixup (b : List (Int)) (p : Int) (f : Fixup) (t : Int) : (keeps Try.prog G_laws_FnExactApplyFixup (an_laws_FnExactApplyFixup (b, p, f, t, ())) (Try.f5.body.getD .skip) Try.f5.results.toList C_laws_FnExactApplyFixup (b, p, f, t, ())) = ((((List.length b) ≤ (9223372036854775807 : Nat)) →
 ((((decide ((1048576 : Int) < (@Nat.cast Int _ (List.length b)))) = true) →
 ((true = true) ∧
 True)) ∧
 (((decide ((1048576 : Int) < (@Nat.cast Int _ (List.length b)))) = false) →
 (((@Nat.cast Int _ (List.length b)) ≤ (1048576 : Int)) ∧
 (((List.length b) ≤ (1048576 : Nat)) ∧
 (((@Nat.cast Int _ (List.length b)) ≤ (1048576 : Int)) ∧
 (((List.length b) ≤ (1048576 : Nat)) ∧
 ((((Bool.not (decide (@Eq (List Int) (fxApp b p f t) (fxApp b p f t)))) = true) →
 ((false = true) ∧
 True)) ∧
 (((Bool.not (decide (@Eq (List Int) (fxApp b p f t) (fxApp b p f t)))) = false) →
 ((((decide ((@Option.isSome Int (fxVal b p f t)) ≠ (@Option.isSome Int (fxVal b p f t)))) = true) →
 ((false = true) ∧
 True)) ∧
 (((decide ((@Option.isSome Int (fxVal b p f t)) ≠ (@Option.isSome Int (fxVal b p f t)))) = false) →
 (((@Nat.cast Int _ (List.length b)) ≤ (1048576 : Int)) ∧
 ((((Bool.not (decide (@Eq (List Int) b b))) = true) →
 ((false = true) ∧
 True)) ∧
 (((Bool.not (decide (@Eq (List Int) b b))) = false) →
 ((((0 : Int) ≤ (1 : Int)) ∧
 (((1 : Int) + (@sumI Int (@cOne Int) b)) ≤ (1000000000000 : Int))) ∧
 ((((decide (((1 : Int) + (@sumI Int (@cOne Int) b)) < (0 : Int))) = true) →
 ((false = true) ∧
 True)) ∧
 (((decide (((1 : Int) + (@sumI Int (@cOne Int) b)) < (0 : Int))) = false) →
 ((((Bool.not (decide (@Eq (List Int) (fxApp b p f t) (fxApp b p f t)))) = true) →
 ((false = true) ∧
 True)) ∧
 (((Bool.not (decide (@Eq (List Int) (fxApp b p f t) (fxApp b p f t)))) = false) →
 ((((decide ((@Option.isSome Int (fxVal b p f t)) ≠ (@Option.isSome Int (fxVal b p f t)))) = true) →
 ((false = true) ∧
 True)) ∧
 (((decide ((@Option.isSome Int (fxVal b p f t)) ≠ (@Option.isSome Int (fxVal b p f t)))) = false) →
 ((((0 : Int) ≤ (1 : Int)) ∧
 (((1 : Int) + (@sumI Int (@cOne Int) (fxApp b p f t))) ≤ (1000000000000 : Int))) ∧
 ((((0 : Int) ≤ (1 : Int)) ∧
 (((1 : Int) + (@sumI Int (@cOne Int) (@mkL Int mkU (@cOne Int) (fxApp b p f t) (1 : Int)))) ≤ (1000000000000 : Int))) ∧
 ((((decide ((@hdL Int hU (@mkL Int mkU (@cOne Int) (fxApp b p f t) (1 : Int)) (1 : Int)) < (0 : Int))) = true) →
 ((false = true) ∧
 True)) ∧
 (((decide ((@hdL Int hU (@mkL Int mkU (@cOne Int) (fxApp b p f t) (1 : Int)) (1 : Int)) < (0 : Int))) = false) →
 ((((decide ((@hdL Int hU (@mkL Int mkU (@cOne Int) (fxApp b p f t) (1 : Int)) (1 : Int)) ≠ ((1 : Int) + (@sumI Int (@cOne Int) (fxApp b p f t))))) = true) →
 ((false = true) ∧
 True)) ∧
 (((decide ((@hdL Int hU (@mkL Int mkU (@cOne Int) (fxApp b p f t) (1 : Int)) (1 : Int)) ≠ ((1 : Int) + (@sumI Int (@cOne Int) (fxApp b p f t))))) = false) →
 (((@Nat.cast Int _ (List.length b)) ≤ (1048576 : Int)) ∧
 (((List.length b) ≤ (1048576 : Nat)) ∧
 ((((Bool.not (decide (@Eq (List Int) (fxApp b p f t) (fxApp b p f t)))) = true) →
 ((false = true) ∧
 True)) ∧
 (((Bool.not (decide (@Eq (List Int) (fxApp b p f t) (fxApp b p f t)))) = false) →
 ((((decide ((@Option.isSome Int (fxVal b p f t)) ≠ (@Option.isSome Int (fxVal b p f t)))) = true) →
 ((false = true) ∧
 True)) ∧
 (((decide ((@Option.isSome Int (fxVal b p f t)) ≠ (@Option.isSome Int (fxVal b p f t)))) = false) →
 ((((0 : Int) ≤ (1 : Int)) ∧
 (((1 : Int) + (@sumI Int (@cOne Int) (@mkL Int mkU (@cOne Int) (fxApp b p f t) (1 : Int)))) ≤ (1000000000000 : Int))) ∧
 ((((decide ((@hdL Int hU (@mkL Int mkU (@cOne Int) (fxApp b p f t) (1 : Int)) (1 : Int)) < (0 : Int))) = true) →
 ((false = true) ∧
 True)) ∧
 (((decide ((@hdL Int hU (@mkL Int mkU (@cOne Int) (fxApp b p f t) (1 : Int)) (1 : Int)) < (0 : Int))) = false) →
 ((((decide ((@hdL Int hU (@mkL Int mkU (@cOne Int) (fxApp b p f t) (1 : Int)) (1 : Int)) ≠ ((1 : Int) + (@sumI Int (@cOne Int) (fxApp b p f t))))) = true) →
 ((false = true) ∧
 True)) ∧
 (((decide ((@hdL Int hU (@mkL Int mkU (@cOne Int) (fxApp b p f t) (1 : Int)) (1 : Int)) ≠ ((1 : Int) + (@sumI Int (@cOne Int) (fxApp b p f t))))) = false) →
 ((true = true) ∧
 True)))))))))))))))))))))))))))))))))))))))) := by kernel_rfl
theorem det_laws_FnExactApplyFixup : C_laws_FnExactApplyFixup.det = true → ∀ x, (C_laws_FnExactApplyFixup.out x).Det := fun _ x => by simp only [C_laws_FnExactApplyFixup]; repeat (first | exact Det.ret _ | exact Det.vc' | apply Det.req | apply Det.giv | apply Det.fork | apply Det.bif' | intro _)
set_option maxRecDepth 200000 in
set_option maxHeartbeats 1000000 in
theorem ok_laws_FnExactApplyFixup : ConOK Try.prog 5 C_laws_FnExactApplyFixup := by
  refine con_mk (wr := false) (ty := tyL [(3, .i), (5, .u), (4, .bool), (9, .str), (126, .int .u64), (45, .st .fixup), (24, .st .img), (91, .st .patch), (65, .st .hash), (63, .list .i), (61, .list .str), (22, .list .u), (41, .st .fixup), (33, .st .img), (72, .st .hash)]) (l := [(28, C_laws_toByteS), (29, C_laws_toFixup), (27, C_spec_ApplyFixup), (30, C_impl_ApplyFixup), (31, C_laws_eqByteS), (32, C_laws_markByteS), (33, C_laws_heldByteS)]) ⟨⟨ok_laws_toByteS, det_laws_toByteS⟩, ⟨⟨ok_laws_toFixup, det_laws_toFixup⟩, ⟨⟨ok_spec_ApplyFixup, det_spec_ApplyFixup⟩, ⟨⟨ok_impl_ApplyFixup, det_impl_ApplyFixup⟩, ⟨⟨ok_laws_eqByteS, det_laws_eqByteS⟩, ⟨⟨ok_laws_markByteS, det_laws_markByteS⟩, ⟨⟨ok_laws_heldByteS, det_laws_heldByteS⟩, trivial⟩⟩⟩⟩⟩⟩⟩ Try.checked.mixed (fn := Try.f5) (body := Try.f5.body.getD .skip) Try.func5 rfl (by decide) (by kernel_rfl) rfl an_laws_FnExactApplyFixup fun x ho hx => ?_
  obtain ⟨b, p, f, t, ⟨⟩⟩ := x
  refine Keeps.of (vc_laws_FnExactApplyFixup b p f t) ?_
  revert b p f t ho hx
  show ∀ (b : List (Int)) (p : Int) (f : Fixup) (t : Int), _
  intro b p f t ho hx
  dsimp only [C_laws_FnExactApplyFixup, okPTL, okPT, Ok, Ty.cells, SN.cells, OkL, OkC, okI, ci, cb, cs, cl] at ho
  dsimp only [C_laws_FnExactApplyFixup, vc, v1, decB, SR.pre] at hx
  have hl := @fxApp_len b p f t
  have c1 : sumI cOne b = b.length := cOne_len b
  have c2 : sumI cOne (fxApp b p f t) = b.length := by rw [cOne_len, hl]
  have c3 : sumI cOne (mkL mkU cOne (fxApp b p f t) 1) = b.length := by rw [cOne_len, mkL_len, hl]
  have hm := hdL_mk cOne_nn hU_mk (fxApp b p f t) 1 (by omega)
  simp only [decide_eq_true_eq, decide_eq_false_iff_not, Bool.not_eq_true', Bool.not_eq_false', and_true, true_and, Int.toNat_natCast, exists_eq_left', exists_eq_left, exists_and_left, Int.not_lt, Int.not_le, Bool.false_eq_true, false_implies, implies_true, forall_const, List.length_append, List.length_cons, List.length_nil, Int.sub_add_cancel, Int.add_sub_cancel, and_imp, get_set_iff, forall_eq', forall_eq, List.set_set, mkd_get, mkd_len, List.length_set, Option.some.injEq]; (repeat' first | intro _ | apply And.intro); all_goals (try omega); all_goals grind

theorem rd_i : Reads Try.prog 3 [.i] := reads_int Try.underlying3
theorem rd_fixup : Reads Try.prog 41 (SN.sig .fixup) := reads_fs (sig := SN.sig .fixup) Try.underlying41 (by kernel_rfl) (fs_cons (sig := [.i]) rfl (by kernel_rfl) rd_i (fs_cons (sig := [.i]) rfl (by kernel_rfl) rd_i (fs_cons (sig := [.i]) rfl (by kernel_rfl) rd_i (fs_cons (sig := [.i]) rfl (by kernel_rfl) rd_i fs_nil))))
set_option maxRecDepth 100000 in
theorem lifted_FnExactApplyFixup (os : Os) (started : os.Started) (H : Type) (enc : TypeId × Value → H) :
    ReturnsInHanded {} Try.checked os 5 .any (Rows.fnExactApplyFixupSpec.pre6 enc Try.prog Try.f5 Rows.fnExactApplyFixupRow.domain false) (Rows.fnExactApplyFixupSpec.post enc Try.prog Try.f5 false true false false) := by
  refine returnsInHanded_of_change (C := Try.checked) head_own started (by kernel_rfl) Try.func5
    (ChangeSpec.witness6 (enc := enc) (C := Try.checked) false ⟨#[], #[.slice none 0 0, .int .i64 0, .agg #[.int .i64 0, .int .i64 0, .int .i64 0, .int .i64 0], .int .i64 0], []⟩ 8 (by kernel_rfl) (by kernel_rfl) (by kernel_rfl) (by kernel_rfl)) ?_
  intro W base args ds gs before hval0 hW _ _
  have hval : ∀ (j : Nat) t v, Try.f5.params[j]? = some t → args[j]? = some v → Value.okWide Try.prog W .any base t v := hval0
  have hW' := hW
  obtain ⟨p, q, hA0, hV, rfl, hfz, hnd⟩ := hW
  have hA : DataW.TrodAll enc Try.prog W 0 (fun _ => true) true Try.f5.params.toList args.toList ds p := hA0
  rw [Try.params5] at hA hval
  obtain ⟨v0, vs0, d0, ds0, p0, q0, hargs, rfl, rfl, h0, r0⟩ := trodAll_cons hA
  obtain ⟨v1, vs1, d1, ds1, p1, q1, rfl, rfl, rfl, h1, r1⟩ := trodAll_cons r0
  obtain ⟨v2, vs2, d2, ds2, p2, q2, rfl, rfl, rfl, h2, r2⟩ := trodAll_cons r1
  obtain ⟨v3, vs3, d3, ds3, p3, q3, rfl, rfl, rfl, h3, r3⟩ := trodAll_cons r2
  obtain ⟨rfl, rfl, rfl⟩ := trodAll_nil r3
  obtain rfl : args = #[v0, v1, v2, v3] := by cases args; simp_all
  obtain ⟨rfl, rfl⟩ := trodVars_none hV
  have k0 := h0
  obtain ⟨x0, g0⟩ := open_slice1 Try.underlying22 rd_uL (hval 0 22 v0 rfl rfl) h0
  have k1 := h1
  obtain ⟨n1, hn1, _, _, _⟩ := open_int Try.underlying3 (hval 1 3 v1 rfl rfl) h1
  obtain ⟨x1, g1⟩ := open_one (by rw [hn1]; rfl) rd_i h1
  have k2 := h2
  obtain ⟨x2, g2⟩ := open_agg Try.underlying41 rd_fixup (hval 2 41 v2 rfl rfl) h2
  have k3 := h3
  obtain ⟨n3, hn3, _, _, _⟩ := open_int Try.underlying3 (hval 3 3 v3 rfl rfl) h3
  obtain ⟨x3, g3⟩ := open_one (by rw [hn3]; rfl) rd_i h3
  clear hA0 hval0 hval
  refine (law_calls ok_laws_FnExactApplyFixup (x0, x1, x2, x3, ()) rfl rfl (W := W) (vals := [v0, v1, v2, v3]) ⟨g0, g1, g2, g3, trivial⟩).mono fun e W' ⟨he, bel⟩ => ?_
  subst he
  exact ⟨_, rfl, _, _, _, [], _, [], hW', trodAll_mk1 (shut_bool Try.underlying4 _), (trodAll_cons_mk (Below.trod head_laid (by kernel_rfl) (of_decide_eq_true (by kernel_rfl)) k0 bel (trod_lt_ k0)) (trodAll_cons_mk (Below.trod head_laid (by kernel_rfl) (of_decide_eq_true (by kernel_rfl)) k1 bel (trod_lt_ k1)) (trodAll_cons_mk (Below.trod head_laid (by kernel_rfl) (of_decide_eq_true (by kernel_rfl)) k2 bel (trod_lt_ k2)) (trodAll_cons_mk (Below.trod head_laid (by kernel_rfl) (of_decide_eq_true (by kernel_rfl)) k3 bel (trod_lt_ k3)) trodAll_mk0)))), rfl, bel.frame _, fun h => by cases h⟩

theorem over_FnExactApplyFixup : Rows.fnExactApplyFixupRow.holds Try.pinned (OpenSpec.ofChange Rows.fnExactApplyFixupSpec) :=
  OpenClaim.holds_of_wide 5 Try.f5 rfl rfl rfl rfl rfl rfl rfl ⟨rfl, rfl, rfl, rfl, rfl⟩ rfl rfl rfl rfl rfl (by kernel_rfl) Try.func5 (joined_of head_laid head_rowed head_stops head_stopk head_heard head_enter (show (Rows.fnExactApplyFixupRow.lifted == Try.prog.liftsFinal) = true by rw [head_final]; rfl) (show (Try.prog.make == some Rows.fnExactApplyFixupRow.make) = true by rw [head_make]; rfl) (by kernel_rfl))
    (of_decide_eq_true (by kernel_rfl)) (by unfold Func.isWrapper; first | (rw [if_pos (by decide +kernel)]; kernel_rfl) | (rw [if_neg (by decide +kernel)]; exact ⟨rfl, rfl⟩))
    (fun os started H enc _ => lifted_FnExactApplyFixup os started H enc)

theorem proved_FnExactApplyFixup : Rows.FnExactApplyFixupSaid := over_FnExactApplyFixup
#print axioms proved_FnExactApplyFixup

end Go.Proofs.Ytdghhckdjbpfbaa
