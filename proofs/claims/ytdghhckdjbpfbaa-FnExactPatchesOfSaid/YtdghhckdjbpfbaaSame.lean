/- The laws' comparisons. -/
import Derived.Test.YtdghhckdjbpfbaaFamB
set_option linter.unusedVariables false
set_option linter.unusedSimpArgs false
namespace Go.Proofs.Ytdghhckdjbpfbaa
open Go Go.RowKit


theorem memo_ext {a b : Memo} (h : a.what = b.what) (h' : a.regions = b.regions) : a = b := by cases a; cases b; simp_all
theorem hash_ext {a b : HashT} (h : a.names = b.names) (h' : a.first = b.first) (h'' : a.next = b.next) : a = b := by cases a; cases b; simp_all
theorem img_ext {a b : Img} (h : a.base = b.base) (h' : a.bytes = b.bytes) : a = b := by cases a; cases b; simp_all
theorem patch_ext {a b : Patch} (h : a.at_ = b.at_) (h' : a.bytes = b.bytes) : a = b := by cases a; cases b; simp_all
theorem region_ext {a b : Region} (h : a.from_ = b.from_) (h1 : a.to = b.to) (h2 : a.write = b.write) (h3 : a.run = b.run) : a = b := by cases a; cases b; simp_all
def C_laws_sameBytes : Con := { ps := [.ro (.list .u), .ro (.list .u)], out := fun x => let a : List (Int) := x.1; let b : List (Int) := x.2.1; vc .bool (decide (a = b)), det := true }
def G_laws_sameBytes : Cfg := mkG (tyL [(3, .i), (5, .u), (4, .bool), (9, .str), (126, .int .u64), (45, .st .fixup), (24, .st .img), (91, .st .patch), (65, .st .hash), (63, .list .i), (61, .list .str), (22, .list .u), (41, .st .fixup), (33, .st .img), (72, .st .hash)]) [] false
def an_laws_sameBytes : PTL C_laws_sameBytes.ps → Nat → Option Ann := fun x kk_ => let a : List (Int) := x.1; let b : List (Int) := x.2.1; if kk_ = 4 then some (.all (Int) fun i => .giv (0 ≤ i ∧ i ≤ a.length ∧ a.length = b.length ∧ a.take i.toNat = b.take i.toNat) (.mk [(5, ai i), (0, al .u a), (1, al .u b)] [] ((a.length - i.toNat)))) else none
set_option maxRecDepth 200000 in
theorem vc_laws_sameBytes (a : List (Int)) (b : List (Int)) : (keeps Try.prog G_laws_sameBytes (an_laws_sameBytes (a, b, ())) (Try.f40.body.getD .skip) Try.f40.results.toList C_laws_sameBytes (a, b, ())) = ((((List.length a) ≤ (9223372036854775807 : Nat)) →
 (((List.length b) ≤ (9223372036854775807 : Nat)) →
 ((((decide ((@Nat.cast Int _ (List.length a)) ≠ (@Nat.cast Int _ (List.length b)))) = true) →
 ((false = (decide (@Eq (List Int) a b))) ∧
 True)) ∧
 (((decide ((@Nat.cast Int _ (List.length a)) ≠ (@Nat.cast Int _ (List.length b)))) = false) →
 ((∃ (x_1 : Int), (((0 : Int) = x_1) ∧
 ((@Eq (List Int) a a) ∧
 ((@Eq (List Int) b b) ∧
 ((((0 : Int) ≤ x_1) ∧
 ((x_1 ≤ (@Nat.cast Int _ (List.length a))) ∧
 (((List.length a) = (List.length b)) ∧
 (@Eq (List Int) (List.take (Int.toNat x_1) a) (List.take (Int.toNat x_1) b))))) ∧
 True))))) ∧
 (∀ (x_2 : Int), ((((0 : Int) ≤ x_2) ∧
 ((x_2 ≤ (@Nat.cast Int _ (List.length a))) ∧
 (((List.length a) = (List.length b)) ∧
 (@Eq (List Int) (List.take (Int.toNat x_2) a) (List.take (Int.toNat x_2) b))))) →
 (((List.length a) ≤ (9223372036854775807 : Nat)) →
 ((((decide (x_2 < (@Nat.cast Int _ (List.length a)))) = true) →
 ((((0 : Int) ≤ x_2) ∧
 (x_2 < (@Nat.cast Int _ (List.length a)))) ∧
 (∀ (x_3 : Int), ((@Eq (Option Int) (a)[(Int.toNat x_2)]? (some x_3)) →
 ((Ok (Ty.int IntKind.u8) x_3) →
 ((((0 : Int) ≤ x_2) ∧
 (x_2 < (@Nat.cast Int _ (List.length b)))) ∧
 (∀ (x_4 : Int), ((@Eq (Option Int) (b)[(Int.toNat x_2)]? (some x_4)) →
 ((Ok (Ty.int IntKind.u8) x_4) →
 ((((decide (x_3 ≠ x_4)) = true) →
 ((false = (decide (@Eq (List Int) a b))) ∧
 True)) ∧
 (((decide (x_3 ≠ x_4)) = false) →
 ((((- (9223372036854775808 : Int)) ≤ (x_2 + (1 : Int))) ∧
 ((x_2 + (1 : Int)) ≤ (9223372036854775807 : Int))) ∧
 (∃ (x_5 : Int), (((x_2 + (1 : Int)) = x_5) ∧
 ((@Eq (List Int) a a) ∧
 ((@Eq (List Int) b b) ∧
 ((((0 : Int) ≤ x_5) ∧
 ((x_5 ≤ (@Nat.cast Int _ (List.length a))) ∧
 (((List.length a) = (List.length b)) ∧
 (@Eq (List Int) (List.take (Int.toNat x_5) a) (List.take (Int.toNat x_5) b))))) ∧
 (((List.length a) - (Int.toNat x_5)) < ((List.length a) - (Int.toNat x_2)))))))))))))))))))) ∧
 (((decide (x_2 < (@Nat.cast Int _ (List.length a)))) = false) →
 ((true = (decide (@Eq (List Int) a b))) ∧
 True)))))))))))) := by kernel_rfl
theorem det_laws_sameBytes : C_laws_sameBytes.det = true → ∀ x, (C_laws_sameBytes.out x).Det := fun _ x => by simp only [C_laws_sameBytes]; repeat (first | exact Det.ret _ | exact Det.vc' | apply Det.req | apply Det.giv | apply Det.fork | apply Det.bif' | intro _)
set_option maxRecDepth 200000 in
set_option maxHeartbeats 1000000 in
theorem ok_laws_sameBytes : ConOK Try.prog 40 C_laws_sameBytes := by
  refine con_mk (wr := false) (ty := tyL [(3, .i), (5, .u), (4, .bool), (9, .str), (126, .int .u64), (45, .st .fixup), (24, .st .img), (91, .st .patch), (65, .st .hash), (63, .list .i), (61, .list .str), (22, .list .u), (41, .st .fixup), (33, .st .img), (72, .st .hash)]) (l := []) trivial Try.checked.mixed (fn := Try.f40) (body := Try.f40.body.getD .skip) Try.func40 rfl (by decide) (by kernel_rfl) rfl an_laws_sameBytes fun x ho hx => ?_
  obtain ⟨a, b, ⟨⟩⟩ := x
  refine Keeps.of (vc_laws_sameBytes a b) ?_
  revert a b ho hx
  show ∀ (a : List (Int)) (b : List (Int)), _
  intro a b ho hx
  dsimp only [C_laws_sameBytes, okPTL, okPT, Ok, Ty.cells, SN.cells, OkL, OkC, okI, ci, cb, cs, cl] at ho
  dsimp only [C_laws_sameBytes, vc, v1, decB, SR.pre] at hx
  simp only [decide_eq_true_eq, decide_eq_false_iff_not, Bool.not_eq_true', Bool.not_eq_false', and_true, true_and, Int.toNat_natCast, exists_eq_left', exists_eq_left, exists_and_left, Int.not_lt, Int.not_le, Bool.false_eq_true, false_implies, implies_true, forall_const, List.length_append, List.length_cons, List.length_nil, Int.sub_add_cancel, Int.add_sub_cancel, and_imp, get_set_iff, forall_eq', forall_eq, List.set_set, mkd_get, mkd_len, List.length_set, Option.some.injEq]; (repeat' first | intro _ | apply And.intro); all_goals (try omega); all_goals first | grind [take_all', take_next, take_diff] | exact take_next2 (by omega) (by assumption) (by assumption) (by assumption) (by assumption) | exact take_diff2 (by assumption) (by assumption) (by assumption)
def C_laws_sameInts : Con := { ps := [.ro (.list .i), .ro (.list .i)], out := fun x => let a : List (Int) := x.1; let b : List (Int) := x.2.1; vc .bool (decide (a = b)), det := true }
def G_laws_sameInts : Cfg := mkG (tyL [(3, .i), (5, .u), (4, .bool), (9, .str), (126, .int .u64), (45, .st .fixup), (24, .st .img), (91, .st .patch), (65, .st .hash), (63, .list .i), (61, .list .str), (22, .list .u), (41, .st .fixup), (33, .st .img), (72, .st .hash)]) [] false
def an_laws_sameInts : PTL C_laws_sameInts.ps → Nat → Option Ann := fun x kk_ => let a : List (Int) := x.1; let b : List (Int) := x.2.1; if kk_ = 4 then some (.all (Int) fun i => .giv (0 ≤ i ∧ i ≤ a.length ∧ a.length = b.length ∧ a.take i.toNat = b.take i.toNat) (.mk [(5, ai i), (0, al .i a), (1, al .i b)] [] ((a.length - i.toNat)))) else none
set_option maxRecDepth 200000 in
theorem vc_laws_sameInts (a : List (Int)) (b : List (Int)) : (keeps Try.prog G_laws_sameInts (an_laws_sameInts (a, b, ())) (Try.f104.body.getD .skip) Try.f104.results.toList C_laws_sameInts (a, b, ())) = ((((List.length a) ≤ (9223372036854775807 : Nat)) →
 (((List.length b) ≤ (9223372036854775807 : Nat)) →
 ((((decide ((@Nat.cast Int _ (List.length a)) ≠ (@Nat.cast Int _ (List.length b)))) = true) →
 ((false = (decide (@Eq (List Int) a b))) ∧
 True)) ∧
 (((decide ((@Nat.cast Int _ (List.length a)) ≠ (@Nat.cast Int _ (List.length b)))) = false) →
 ((∃ (x_1 : Int), (((0 : Int) = x_1) ∧
 ((@Eq (List Int) a a) ∧
 ((@Eq (List Int) b b) ∧
 ((((0 : Int) ≤ x_1) ∧
 ((x_1 ≤ (@Nat.cast Int _ (List.length a))) ∧
 (((List.length a) = (List.length b)) ∧
 (@Eq (List Int) (List.take (Int.toNat x_1) a) (List.take (Int.toNat x_1) b))))) ∧
 True))))) ∧
 (∀ (x_2 : Int), ((((0 : Int) ≤ x_2) ∧
 ((x_2 ≤ (@Nat.cast Int _ (List.length a))) ∧
 (((List.length a) = (List.length b)) ∧
 (@Eq (List Int) (List.take (Int.toNat x_2) a) (List.take (Int.toNat x_2) b))))) →
 (((List.length a) ≤ (9223372036854775807 : Nat)) →
 ((((decide (x_2 < (@Nat.cast Int _ (List.length a)))) = true) →
 ((((0 : Int) ≤ x_2) ∧
 (x_2 < (@Nat.cast Int _ (List.length a)))) ∧
 (∀ (x_3 : Int), ((@Eq (Option Int) (a)[(Int.toNat x_2)]? (some x_3)) →
 ((Ok (Ty.int IntKind.i64) x_3) →
 ((((0 : Int) ≤ x_2) ∧
 (x_2 < (@Nat.cast Int _ (List.length b)))) ∧
 (∀ (x_4 : Int), ((@Eq (Option Int) (b)[(Int.toNat x_2)]? (some x_4)) →
 ((Ok (Ty.int IntKind.i64) x_4) →
 ((((decide (x_3 ≠ x_4)) = true) →
 ((false = (decide (@Eq (List Int) a b))) ∧
 True)) ∧
 (((decide (x_3 ≠ x_4)) = false) →
 ((((- (9223372036854775808 : Int)) ≤ (x_2 + (1 : Int))) ∧
 ((x_2 + (1 : Int)) ≤ (9223372036854775807 : Int))) ∧
 (∃ (x_5 : Int), (((x_2 + (1 : Int)) = x_5) ∧
 ((@Eq (List Int) a a) ∧
 ((@Eq (List Int) b b) ∧
 ((((0 : Int) ≤ x_5) ∧
 ((x_5 ≤ (@Nat.cast Int _ (List.length a))) ∧
 (((List.length a) = (List.length b)) ∧
 (@Eq (List Int) (List.take (Int.toNat x_5) a) (List.take (Int.toNat x_5) b))))) ∧
 (((List.length a) - (Int.toNat x_5)) < ((List.length a) - (Int.toNat x_2)))))))))))))))))))) ∧
 (((decide (x_2 < (@Nat.cast Int _ (List.length a)))) = false) →
 ((true = (decide (@Eq (List Int) a b))) ∧
 True)))))))))))) := by kernel_rfl
theorem det_laws_sameInts : C_laws_sameInts.det = true → ∀ x, (C_laws_sameInts.out x).Det := fun _ x => by simp only [C_laws_sameInts]; repeat (first | exact Det.ret _ | exact Det.vc' | apply Det.req | apply Det.giv | apply Det.fork | apply Det.bif' | intro _)
set_option maxRecDepth 200000 in
set_option maxHeartbeats 1000000 in
theorem ok_laws_sameInts : ConOK Try.prog 104 C_laws_sameInts := by
  refine con_mk (wr := false) (ty := tyL [(3, .i), (5, .u), (4, .bool), (9, .str), (126, .int .u64), (45, .st .fixup), (24, .st .img), (91, .st .patch), (65, .st .hash), (63, .list .i), (61, .list .str), (22, .list .u), (41, .st .fixup), (33, .st .img), (72, .st .hash)]) (l := []) trivial Try.checked.mixed (fn := Try.f104) (body := Try.f104.body.getD .skip) Try.func104 rfl (by decide) (by kernel_rfl) rfl an_laws_sameInts fun x ho hx => ?_
  obtain ⟨a, b, ⟨⟩⟩ := x
  refine Keeps.of (vc_laws_sameInts a b) ?_
  revert a b ho hx
  show ∀ (a : List (Int)) (b : List (Int)), _
  intro a b ho hx
  dsimp only [C_laws_sameInts, okPTL, okPT, Ok, Ty.cells, SN.cells, OkL, OkC, okI, ci, cb, cs, cl] at ho
  dsimp only [C_laws_sameInts, vc, v1, decB, SR.pre] at hx
  simp only [decide_eq_true_eq, decide_eq_false_iff_not, Bool.not_eq_true', Bool.not_eq_false', and_true, true_and, Int.toNat_natCast, exists_eq_left', exists_eq_left, exists_and_left, Int.not_lt, Int.not_le, Bool.false_eq_true, false_implies, implies_true, forall_const, List.length_append, List.length_cons, List.length_nil, Int.sub_add_cancel, Int.add_sub_cancel, and_imp, get_set_iff, forall_eq', forall_eq, List.set_set, mkd_get, mkd_len, List.length_set, Option.some.injEq]; (repeat' first | intro _ | apply And.intro); all_goals (try omega); all_goals first | grind [take_all', take_next, take_diff] | exact take_next2 (by omega) (by assumption) (by assumption) (by assumption) (by assumption) | exact take_diff2 (by assumption) (by assumption) (by assumption)
def C_laws_sameTexts : Con := { ps := [.ro (.list .str), .ro (.list .str)], out := fun x => let a : List (ByteArray) := x.1; let b : List (ByteArray) := x.2.1; vc .bool (decide (a = b)), det := true }
def G_laws_sameTexts : Cfg := mkG (tyL [(3, .i), (5, .u), (4, .bool), (9, .str), (126, .int .u64), (45, .st .fixup), (24, .st .img), (91, .st .patch), (65, .st .hash), (63, .list .i), (61, .list .str), (22, .list .u), (41, .st .fixup), (33, .st .img), (72, .st .hash)]) [] false
def an_laws_sameTexts : PTL C_laws_sameTexts.ps → Nat → Option Ann := fun x kk_ => let a : List (ByteArray) := x.1; let b : List (ByteArray) := x.2.1; if kk_ = 4 then some (.all (Int) fun i => .giv (0 ≤ i ∧ i ≤ a.length ∧ a.length = b.length ∧ a.take i.toNat = b.take i.toNat) (.mk [(5, ai i), (0, al .str a), (1, al .str b)] [] ((a.length - i.toNat)))) else none
set_option maxRecDepth 200000 in
theorem vc_laws_sameTexts (a : List (ByteArray)) (b : List (ByteArray)) : (keeps Try.prog G_laws_sameTexts (an_laws_sameTexts (a, b, ())) (Try.f103.body.getD .skip) Try.f103.results.toList C_laws_sameTexts (a, b, ())) = ((((List.length a) ≤ (9223372036854775807 : Nat)) →
 (((List.length b) ≤ (9223372036854775807 : Nat)) →
 ((((decide ((@Nat.cast Int _ (List.length a)) ≠ (@Nat.cast Int _ (List.length b)))) = true) →
 ((false = (decide (@Eq (List ByteArray) a b))) ∧
 True)) ∧
 (((decide ((@Nat.cast Int _ (List.length a)) ≠ (@Nat.cast Int _ (List.length b)))) = false) →
 ((∃ (x_1 : Int), (((0 : Int) = x_1) ∧
 ((@Eq (List ByteArray) a a) ∧
 ((@Eq (List ByteArray) b b) ∧
 ((((0 : Int) ≤ x_1) ∧
 ((x_1 ≤ (@Nat.cast Int _ (List.length a))) ∧
 (((List.length a) = (List.length b)) ∧
 (@Eq (List ByteArray) (List.take (Int.toNat x_1) a) (List.take (Int.toNat x_1) b))))) ∧
 True))))) ∧
 (∀ (x_2 : Int), ((((0 : Int) ≤ x_2) ∧
 ((x_2 ≤ (@Nat.cast Int _ (List.length a))) ∧
 (((List.length a) = (List.length b)) ∧
 (@Eq (List ByteArray) (List.take (Int.toNat x_2) a) (List.take (Int.toNat x_2) b))))) →
 (((List.length a) ≤ (9223372036854775807 : Nat)) →
 ((((decide (x_2 < (@Nat.cast Int _ (List.length a)))) = true) →
 ((((0 : Int) ≤ x_2) ∧
 (x_2 < (@Nat.cast Int _ (List.length a)))) ∧
 (∀ (x_3 : ByteArray), ((@Eq (Option ByteArray) (a)[(Int.toNat x_2)]? (some x_3)) →
 ((Ok Ty.str x_3) →
 ((((0 : Int) ≤ x_2) ∧
 (x_2 < (@Nat.cast Int _ (List.length b)))) ∧
 (∀ (x_4 : ByteArray), ((@Eq (Option ByteArray) (b)[(Int.toNat x_2)]? (some x_4)) →
 ((Ok Ty.str x_4) →
 ((((decide (x_3 ≠ x_4)) = true) →
 ((false = (decide (@Eq (List ByteArray) a b))) ∧
 True)) ∧
 (((decide (x_3 ≠ x_4)) = false) →
 ((((- (9223372036854775808 : Int)) ≤ (x_2 + (1 : Int))) ∧
 ((x_2 + (1 : Int)) ≤ (9223372036854775807 : Int))) ∧
 (∃ (x_5 : Int), (((x_2 + (1 : Int)) = x_5) ∧
 ((@Eq (List ByteArray) a a) ∧
 ((@Eq (List ByteArray) b b) ∧
 ((((0 : Int) ≤ x_5) ∧
 ((x_5 ≤ (@Nat.cast Int _ (List.length a))) ∧
 (((List.length a) = (List.length b)) ∧
 (@Eq (List ByteArray) (List.take (Int.toNat x_5) a) (List.take (Int.toNat x_5) b))))) ∧
 (((List.length a) - (Int.toNat x_5)) < ((List.length a) - (Int.toNat x_2)))))))))))))))))))) ∧
 (((decide (x_2 < (@Nat.cast Int _ (List.length a)))) = false) →
 ((true = (decide (@Eq (List ByteArray) a b))) ∧
 True)))))))))))) := by kernel_rfl
theorem det_laws_sameTexts : C_laws_sameTexts.det = true → ∀ x, (C_laws_sameTexts.out x).Det := fun _ x => by simp only [C_laws_sameTexts]; repeat (first | exact Det.ret _ | exact Det.vc' | apply Det.req | apply Det.giv | apply Det.fork | apply Det.bif' | intro _)
set_option maxRecDepth 200000 in
set_option maxHeartbeats 1000000 in
theorem ok_laws_sameTexts : ConOK Try.prog 103 C_laws_sameTexts := by
  refine con_mk (wr := false) (ty := tyL [(3, .i), (5, .u), (4, .bool), (9, .str), (126, .int .u64), (45, .st .fixup), (24, .st .img), (91, .st .patch), (65, .st .hash), (63, .list .i), (61, .list .str), (22, .list .u), (41, .st .fixup), (33, .st .img), (72, .st .hash)]) (l := []) trivial Try.checked.mixed (fn := Try.f103) (body := Try.f103.body.getD .skip) Try.func103 rfl (by decide) (by kernel_rfl) rfl an_laws_sameTexts fun x ho hx => ?_
  obtain ⟨a, b, ⟨⟩⟩ := x
  refine Keeps.of (vc_laws_sameTexts a b) ?_
  revert a b ho hx
  show ∀ (a : List (ByteArray)) (b : List (ByteArray)), _
  intro a b ho hx
  dsimp only [C_laws_sameTexts, okPTL, okPT, Ok, Ty.cells, SN.cells, OkL, OkC, okI, ci, cb, cs, cl] at ho
  dsimp only [C_laws_sameTexts, vc, v1, decB, SR.pre] at hx
  simp only [decide_eq_true_eq, decide_eq_false_iff_not, Bool.not_eq_true', Bool.not_eq_false', and_true, true_and, Int.toNat_natCast, exists_eq_left', exists_eq_left, exists_and_left, Int.not_lt, Int.not_le, Bool.false_eq_true, false_implies, implies_true, forall_const, List.length_append, List.length_cons, List.length_nil, Int.sub_add_cancel, Int.add_sub_cancel, and_imp, get_set_iff, forall_eq', forall_eq, List.set_set, mkd_get, mkd_len, List.length_set, Option.some.injEq]; (repeat' first | intro _ | apply And.intro); all_goals (try omega); all_goals first | grind [take_all', take_next, take_diff] | exact take_next2 (by omega) (by assumption) (by assumption) (by assumption) (by assumption) | exact take_diff2 (by assumption) (by assumption) (by assumption)
def C_laws_sameImage : Con := { ps := [.ro (.st .img), .ro (.st .img)], out := fun x => let a : Img := x.1; let b : Img := x.2.1; vc .bool (decide (a = b)), det := true }
def G_laws_sameImage : Cfg := mkG (tyL [(3, .i), (5, .u), (4, .bool), (9, .str), (126, .int .u64), (45, .st .fixup), (24, .st .img), (91, .st .patch), (65, .st .hash), (63, .list .i), (61, .list .str), (22, .list .u), (41, .st .fixup), (33, .st .img), (72, .st .hash)]) [(40, C_laws_sameBytes)] false
def an_laws_sameImage : PTL C_laws_sameImage.ps → Nat → Option Ann := fun _ _ => none
set_option maxRecDepth 200000 in
theorem vc_laws_sameImage (a : Img) (b : Img) : (keeps Try.prog G_laws_sameImage (an_laws_sameImage (a, b, ())) (Try.f36.body.getD .skip) Try.f36.results.toList C_laws_sameImage (a, b, ())) = (((((decide ((Img.base a) = (Img.base b))) = true) →
 (((decide (@Eq (List Int) (Img.bytes a) (Img.bytes b))) = (decide (@Eq Img a b))) ∧
 True)) ∧
 (((decide ((Img.base a) = (Img.base b))) = false) →
 ((false = (decide (@Eq Img a b))) ∧
 True)))) := by kernel_rfl
theorem det_laws_sameImage : C_laws_sameImage.det = true → ∀ x, (C_laws_sameImage.out x).Det := fun _ x => by simp only [C_laws_sameImage]; repeat (first | exact Det.ret _ | exact Det.vc' | apply Det.req | apply Det.giv | apply Det.fork | apply Det.bif' | intro _)
set_option maxRecDepth 200000 in
set_option maxHeartbeats 1000000 in
theorem ok_laws_sameImage : ConOK Try.prog 36 C_laws_sameImage := by
  refine con_mk (wr := false) (ty := tyL [(3, .i), (5, .u), (4, .bool), (9, .str), (126, .int .u64), (45, .st .fixup), (24, .st .img), (91, .st .patch), (65, .st .hash), (63, .list .i), (61, .list .str), (22, .list .u), (41, .st .fixup), (33, .st .img), (72, .st .hash)]) (l := [(40, C_laws_sameBytes)]) ⟨⟨ok_laws_sameBytes, det_laws_sameBytes⟩, trivial⟩ Try.checked.mixed (fn := Try.f36) (body := Try.f36.body.getD .skip) Try.func36 rfl (by decide) (by kernel_rfl) rfl an_laws_sameImage fun x ho hx => ?_
  obtain ⟨a, b, ⟨⟩⟩ := x
  refine Keeps.of (vc_laws_sameImage a b) ?_
  revert a b ho hx
  show ∀ (a : Img) (b : Img), _
  intro a b ho hx
  dsimp only [C_laws_sameImage, okPTL, okPT, Ok, Ty.cells, SN.cells, OkL, OkC, okI, ci, cb, cs, cl] at ho
  dsimp only [C_laws_sameImage, vc, v1, decB, SR.pre] at hx
  simp only [decide_eq_true_eq, decide_eq_false_iff_not, Bool.not_eq_true', Bool.not_eq_false', and_true, true_and, Int.toNat_natCast, exists_eq_left', exists_eq_left, exists_and_left, Int.not_lt, Int.not_le, Bool.false_eq_true, false_implies, implies_true, forall_const, List.length_append, List.length_cons, List.length_nil, Int.sub_add_cancel, Int.add_sub_cancel, and_imp, get_set_iff, forall_eq', forall_eq, List.set_set, mkd_get, mkd_len, List.length_set, Option.some.injEq]; (repeat' first | intro _ | apply And.intro); all_goals (try omega); all_goals grind [img_ext]
def C_laws_samePatches : Con := { ps := [.ro (.list (.st .patch)), .ro (.list (.st .patch))], out := fun x => let a : List (Patch) := x.1; let b : List (Patch) := x.2.1; vc .bool (decide (a = b)), det := true }
def G_laws_samePatches : Cfg := mkG (tyL [(3, .i), (5, .u), (4, .bool), (9, .str), (126, .int .u64), (45, .st .fixup), (24, .st .img), (91, .st .patch), (65, .st .hash), (63, .list .i), (61, .list .str), (22, .list .u), (41, .st .fixup), (33, .st .img), (72, .st .hash)]) [(40, C_laws_sameBytes)] false
def an_laws_samePatches : PTL C_laws_samePatches.ps → Nat → Option Ann := fun x kk_ => let a : List (Patch) := x.1; let b : List (Patch) := x.2.1; if kk_ = 4 then some (.all (Int) fun i => .giv (0 ≤ i ∧ i ≤ a.length ∧ a.length = b.length ∧ a.take i.toNat = b.take i.toNat) (.mk [(5, ai i), (0, al (.st .patch) a), (1, al (.st .patch) b)] [] ((a.length - i.toNat)))) else none
set_option maxRecDepth 200000 in
theorem vc_laws_samePatches (a : List (Patch)) (b : List (Patch)) : (keeps Try.prog G_laws_samePatches (an_laws_samePatches (a, b, ())) (Try.f18.body.getD .skip) Try.f18.results.toList C_laws_samePatches (a, b, ())) = ((((List.length a) ≤ (9223372036854775807 : Nat)) →
 (((List.length b) ≤ (9223372036854775807 : Nat)) →
 ((((decide ((@Nat.cast Int _ (List.length a)) ≠ (@Nat.cast Int _ (List.length b)))) = true) →
 ((false = (decide (@Eq (List Patch) a b))) ∧
 True)) ∧
 (((decide ((@Nat.cast Int _ (List.length a)) ≠ (@Nat.cast Int _ (List.length b)))) = false) →
 ((∃ (x_1 : Int), (((0 : Int) = x_1) ∧
 ((@Eq (List Patch) a a) ∧
 ((@Eq (List Patch) b b) ∧
 ((((0 : Int) ≤ x_1) ∧
 ((x_1 ≤ (@Nat.cast Int _ (List.length a))) ∧
 (((List.length a) = (List.length b)) ∧
 (@Eq (List Patch) (List.take (Int.toNat x_1) a) (List.take (Int.toNat x_1) b))))) ∧
 True))))) ∧
 (∀ (x_2 : Int), ((((0 : Int) ≤ x_2) ∧
 ((x_2 ≤ (@Nat.cast Int _ (List.length a))) ∧
 (((List.length a) = (List.length b)) ∧
 (@Eq (List Patch) (List.take (Int.toNat x_2) a) (List.take (Int.toNat x_2) b))))) →
 (((List.length a) ≤ (9223372036854775807 : Nat)) →
 ((((decide (x_2 < (@Nat.cast Int _ (List.length a)))) = true) →
 ((((0 : Int) ≤ x_2) ∧
 (x_2 < (@Nat.cast Int _ (List.length a)))) ∧
 (∀ (x_3 : Patch), ((@Eq (Option Patch) (a)[(Int.toNat x_2)]? (some x_3)) →
 ((Ok (Ty.st SN.patch) x_3) →
 ((((0 : Int) ≤ x_2) ∧
 (x_2 < (@Nat.cast Int _ (List.length b)))) ∧
 (∀ (x_4 : Patch), ((@Eq (Option Patch) (b)[(Int.toNat x_2)]? (some x_4)) →
 ((Ok (Ty.st SN.patch) x_4) →
 ((((decide ((Patch.at_ x_3) ≠ (Patch.at_ x_4))) = true) →
 ((false = (decide (@Eq (List Patch) a b))) ∧
 True)) ∧
 (((decide ((Patch.at_ x_3) ≠ (Patch.at_ x_4))) = false) →
 ((((0 : Int) ≤ x_2) ∧
 (x_2 < (@Nat.cast Int _ (List.length a)))) ∧
 (∀ (x_5 : Patch), ((@Eq (Option Patch) (a)[(Int.toNat x_2)]? (some x_5)) →
 ((Ok (Ty.st SN.patch) x_5) →
 ((((0 : Int) ≤ x_2) ∧
 (x_2 < (@Nat.cast Int _ (List.length b)))) ∧
 (∀ (x_6 : Patch), ((@Eq (Option Patch) (b)[(Int.toNat x_2)]? (some x_6)) →
 ((Ok (Ty.st SN.patch) x_6) →
 ((((Bool.not (decide (@Eq (List Int) (Patch.bytes x_5) (Patch.bytes x_6)))) = true) →
 ((false = (decide (@Eq (List Patch) a b))) ∧
 True)) ∧
 (((Bool.not (decide (@Eq (List Int) (Patch.bytes x_5) (Patch.bytes x_6)))) = false) →
 ((((- (9223372036854775808 : Int)) ≤ (x_2 + (1 : Int))) ∧
 ((x_2 + (1 : Int)) ≤ (9223372036854775807 : Int))) ∧
 (∃ (x_7 : Int), (((x_2 + (1 : Int)) = x_7) ∧
 ((@Eq (List Patch) a a) ∧
 ((@Eq (List Patch) b b) ∧
 ((((0 : Int) ≤ x_7) ∧
 ((x_7 ≤ (@Nat.cast Int _ (List.length a))) ∧
 (((List.length a) = (List.length b)) ∧
 (@Eq (List Patch) (List.take (Int.toNat x_7) a) (List.take (Int.toNat x_7) b))))) ∧
 (((List.length a) - (Int.toNat x_7)) < ((List.length a) - (Int.toNat x_2)))))))))))))))))))))))))))))) ∧
 (((decide (x_2 < (@Nat.cast Int _ (List.length a)))) = false) →
 ((true = (decide (@Eq (List Patch) a b))) ∧
 True)))))))))))) := by kernel_rfl
theorem det_laws_samePatches : C_laws_samePatches.det = true → ∀ x, (C_laws_samePatches.out x).Det := fun _ x => by simp only [C_laws_samePatches]; repeat (first | exact Det.ret _ | exact Det.vc' | apply Det.req | apply Det.giv | apply Det.fork | apply Det.bif' | intro _)
set_option maxRecDepth 200000 in
set_option maxHeartbeats 1000000 in
theorem ok_laws_samePatches : ConOK Try.prog 18 C_laws_samePatches := by
  refine con_mk (wr := false) (ty := tyL [(3, .i), (5, .u), (4, .bool), (9, .str), (126, .int .u64), (45, .st .fixup), (24, .st .img), (91, .st .patch), (65, .st .hash), (63, .list .i), (61, .list .str), (22, .list .u), (41, .st .fixup), (33, .st .img), (72, .st .hash)]) (l := [(40, C_laws_sameBytes)]) ⟨⟨ok_laws_sameBytes, det_laws_sameBytes⟩, trivial⟩ Try.checked.mixed (fn := Try.f18) (body := Try.f18.body.getD .skip) Try.func18 rfl (by decide) (by kernel_rfl) rfl an_laws_samePatches fun x ho hx => ?_
  obtain ⟨a, b, ⟨⟩⟩ := x
  refine Keeps.of (vc_laws_samePatches a b) ?_
  revert a b ho hx
  show ∀ (a : List (Patch)) (b : List (Patch)), _
  intro a b ho hx
  dsimp only [C_laws_samePatches, okPTL, okPT, Ok, Ty.cells, SN.cells, OkL, OkC, okI, ci, cb, cs, cl] at ho
  dsimp only [C_laws_samePatches, vc, v1, decB, SR.pre] at hx
  simp only [decide_eq_true_eq, decide_eq_false_iff_not, Bool.not_eq_true', Bool.not_eq_false', and_true, true_and, Int.toNat_natCast, exists_eq_left', exists_eq_left, exists_and_left, Int.not_lt, Int.not_le, Bool.false_eq_true, false_implies, implies_true, forall_const, List.length_append, List.length_cons, List.length_nil, Int.sub_add_cancel, Int.add_sub_cancel, and_imp, get_set_iff, forall_eq', forall_eq, List.set_set, mkd_get, mkd_len, List.length_set, Option.some.injEq]; (repeat' first | intro _ | apply And.intro); all_goals (try omega); all_goals grind [take_all', take_next, take_next2, take_diff, take_diff2, patch_ext]
def C_laws_sameHash : Con := { ps := [.ro (.st .hash), .ro (.st .hash)], out := fun x => let a : HashT := x.1; let b : HashT := x.2.1; vc .bool (decide (a = b)), det := true }
def G_laws_sameHash : Cfg := mkG (tyL [(3, .i), (5, .u), (4, .bool), (9, .str), (126, .int .u64), (45, .st .fixup), (24, .st .img), (91, .st .patch), (65, .st .hash), (63, .list .i), (61, .list .str), (22, .list .u), (41, .st .fixup), (33, .st .img), (72, .st .hash)]) [(103, C_laws_sameTexts), (104, C_laws_sameInts)] false
def an_laws_sameHash : PTL C_laws_sameHash.ps → Nat → Option Ann := fun _ _ => none
set_option maxRecDepth 200000 in
theorem vc_laws_sameHash (a : HashT) (b : HashT) : (keeps Try.prog G_laws_sameHash (an_laws_sameHash (a, b, ())) (Try.f58.body.getD .skip) Try.f58.results.toList C_laws_sameHash (a, b, ())) = (((((decide (@Eq (List ByteArray) (HashT.names a) (HashT.names b))) = true) →
 ((((decide (@Eq (List Int) (HashT.first a) (HashT.first b))) = true) →
 (((decide (@Eq (List Int) (HashT.next a) (HashT.next b))) = (decide (@Eq HashT a b))) ∧
 True)) ∧
 (((decide (@Eq (List Int) (HashT.first a) (HashT.first b))) = false) →
 ((false = (decide (@Eq HashT a b))) ∧
 True)))) ∧
 (((decide (@Eq (List ByteArray) (HashT.names a) (HashT.names b))) = false) →
 ((false = (decide (@Eq HashT a b))) ∧
 True)))) := by kernel_rfl
theorem det_laws_sameHash : C_laws_sameHash.det = true → ∀ x, (C_laws_sameHash.out x).Det := fun _ x => by simp only [C_laws_sameHash]; repeat (first | exact Det.ret _ | exact Det.vc' | apply Det.req | apply Det.giv | apply Det.fork | apply Det.bif' | intro _)
set_option maxRecDepth 200000 in
set_option maxHeartbeats 1000000 in
theorem ok_laws_sameHash : ConOK Try.prog 58 C_laws_sameHash := by
  refine con_mk (wr := false) (ty := tyL [(3, .i), (5, .u), (4, .bool), (9, .str), (126, .int .u64), (45, .st .fixup), (24, .st .img), (91, .st .patch), (65, .st .hash), (63, .list .i), (61, .list .str), (22, .list .u), (41, .st .fixup), (33, .st .img), (72, .st .hash)]) (l := [(103, C_laws_sameTexts), (104, C_laws_sameInts)]) ⟨⟨ok_laws_sameTexts, det_laws_sameTexts⟩, ⟨⟨ok_laws_sameInts, det_laws_sameInts⟩, trivial⟩⟩ Try.checked.mixed (fn := Try.f58) (body := Try.f58.body.getD .skip) Try.func58 rfl (by decide) (by kernel_rfl) rfl an_laws_sameHash fun x ho hx => ?_
  obtain ⟨a, b, ⟨⟩⟩ := x
  refine Keeps.of (vc_laws_sameHash a b) ?_
  revert a b ho hx
  show ∀ (a : HashT) (b : HashT), _
  intro a b ho hx
  dsimp only [C_laws_sameHash, okPTL, okPT, Ok, Ty.cells, SN.cells, OkL, OkC, okI, ci, cb, cs, cl] at ho
  dsimp only [C_laws_sameHash, vc, v1, decB, SR.pre] at hx
  simp only [decide_eq_true_eq, decide_eq_false_iff_not, Bool.not_eq_true', Bool.not_eq_false', and_true, true_and, Int.toNat_natCast, exists_eq_left', exists_eq_left, exists_and_left, Int.not_lt, Int.not_le, Bool.false_eq_true, false_implies, implies_true, forall_const, List.length_append, List.length_cons, List.length_nil, Int.sub_add_cancel, Int.add_sub_cancel, and_imp, get_set_iff, forall_eq', forall_eq, List.set_set, mkd_get, mkd_len, List.length_set, Option.some.injEq]; (repeat' first | intro _ | apply And.intro); all_goals (try omega); all_goals grind [hash_ext]
end Go.Proofs.Ytdghhckdjbpfbaa
