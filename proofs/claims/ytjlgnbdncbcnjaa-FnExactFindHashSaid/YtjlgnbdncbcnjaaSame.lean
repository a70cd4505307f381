/- The laws' comparisons. -/
import Derived.Test.YtjlgnbdncbcnjaaFamB
set_option linter.unusedVariables false
set_option linter.unusedSimpArgs false
namespace Go.Proofs.Ytjlgnbdncbcnjaa
open Go Go.RowKit


theorem memo_ext {a b : Memo} (h : a.what = b.what) (h' : a.regions = b.regions) : a = b := by cases a; cases b; simp_all
theorem hash_ext {a b : HashT} (h : a.names = b.names) (h' : a.first = b.first) (h'' : a.next = b.next) : a = b := by cases a; cases b; simp_all
theorem img_ext {a b : Img} (h : a.base = b.base) (h' : a.bytes = b.bytes) : a = b := by cases a; cases b; simp_all
theorem patch_ext {a b : Patch} (h : a.at_ = b.at_) (h' : a.bytes = b.bytes) : a = b := by cases a; cases b; simp_all
theorem region_ext {a b : Region} (h : a.from_ = b.from_) (h1 : a.to = b.to) (h2 : a.write = b.write) (h3 : a.run = b.run) : a = b := by cases a; cases b; simp_all
def C_laws_sameInts : Con := { ps := [.ro (.list .i), .ro (.list .i)], out := fun x => let a : List (Int) := x.1; let b : List (Int) := x.2.1; vc .bool (decide (a = b)), det := true }
def G_laws_sameInts : Cfg := mkG (tyL [(3, .i), (5, .u), (4, .bool), (9, .str), (80, .int .u64), (26, .st .hash), (24, .list .i), (22, .list .str), (38, .list .u), (33, .st .hash)]) [] false
def an_laws_sameInts : PTL C_laws_sameInts.ps → Nat → Option Ann := fun x kk_ => let a : List (Int) := x.1; let b : List (Int) := x.2.1; if kk_ = 4 then some (.all (Int) fun i => .giv (0 ≤ i ∧ i ≤ a.length ∧ a.length = b.length ∧ a.take i.toNat = b.take i.toNat) (.mk [(5, ai i), (0, al .i a), (1, al .i b)] [] ((a.length - i.toNat)))) else none
set_option maxRecDepth 200000 in
theorem vc_laws_sameInts (a : List (Int)) (b : List (Int)) : (keeps Try.prog G_laws_sameInts (an_laws_sameInts (a, b, ())) (Try.f52.body.getD .skip) Try.f52.results.toList C_laws_sameInts (a, b, ())) = ((((List.length a) ≤ (9223372036854775807 : Nat)) →
 (((List.length b) ≤ (9223372036854775807 : Nat)) →
 ((((decide ((@Nat.cast Int _ (List.length a)) ≠ (@Nat.cast Int _ (List.length b)))) = true) →
 ((false = (decide (@Eq (List Int) a b))) ∧
 True)) ∧
 (((decide ((@Nat.cast Int _ (List.length a)) ≠ (@Nat.cast Int _ (List.length b)))) = false) →
 ((∃ (x_1 : Int), (((0 : Int) = x_1) ∧
 ((@Eq (List Int) a a) ∧
 ((@Eq (List Int) b b) ∧
 ((((0 : Int) ≤ x_1) ∧
 ((x_1 ≤ (@Nat.cast Int _ (List.length a))) ∧
 (((List.length a) = (List.length b)) ∧
 (@Eq (List Int) (List.take (Int.toNat x_1) a) (List.take (Int.toNat x_1) b))))) ∧
 True))))) ∧
 (∀ (x_2 : Int), ((((0 : Int) ≤ x_2) ∧
 ((x_2 ≤ (@Nat.cast Int _ (List.length a))) ∧
 (((List.length a) = (List.length b)) ∧
 (@Eq (List Int) (List.take (Int.toNat x_2) a) (List.take (Int.toNat x_2) b))))) →
 (((List.length a) ≤ (9223372036854775807 : Nat)) →
 ((((decide (x_2 < (@Nat.cast Int _ (List.length a)))) = true) →
 ((((0 : Int) ≤ x_2) ∧
 (x_2 < (@Nat.cast Int _ (List.length a)))) ∧
 (∀ (x_3 : Int), ((@Eq (Option Int) (a)[(Int.toNat x_2)]? (some x_3)) →
 ((Ok (Ty.int IntKind.i64) x_3) →
 ((((0 : Int) ≤ x_2) ∧
 (x_2 < (@Nat.cast Int _ (List.length b)))) ∧
 (∀ (x_4 : Int), ((@Eq (Option Int) (b)[(Int.toNat x_2)]? (some x_4)) →
 ((Ok (Ty.int IntKind.i64) x_4) →
 ((((decide (x_3 ≠ x_4)) = true) →
 ((false = (decide (@Eq (List Int) a b))) ∧
 True)) ∧
 (((decide (x_3 ≠ x_4)) = false) →
 ((((- (9223372036854775808 : Int)) ≤ (x_2 + (1 : Int))) ∧
 ((x_2 + (1 : Int)) ≤ (9223372036854775807 : Int))) ∧
 (∃ (x_5 : Int), (((x_2 + (1 : Int)) = x_5) ∧
 ((@Eq (List Int) a a) ∧
 ((@Eq (List Int) b b) ∧
 ((((0 : Int) ≤ x_5) ∧
 ((x_5 ≤ (@Nat.cast Int _ (List.length a))) ∧
 (((List.length a) = (List.length b)) ∧
 (@Eq (List Int) (List.take (Int.toNat x_5) a) (List.take (Int.toNat x_5) b))))) ∧
 (((List.length a) - (Int.toNat x_5)) < ((List.length a) - (Int.toNat x_2)))))))))))))))))))) ∧
 (((decide (x_2 < (@Nat.cast Int _ (List.length a)))) = false) →
 ((true = (decide (@Eq (List Int) a b))) ∧
 True)))))))))))) := by kernel_rfl
theorem det_laws_sameInts : C_laws_sameInts.det = true → ∀ x, (C_laws_sameInts.out x).Det := fun _ x => by simp only [C_laws_sameInts]; repeat (first | exact Det.ret _ | exact Det.vc' | apply Det.req | apply Det.giv | apply Det.fork | apply Det.bif' | intro _)
set_option maxRecDepth 200000 in
set_option maxHeartbeats 1000000 in
theorem ok_laws_sameInts : ConOK Try.prog 52 C_laws_sameInts := by
  refine con_mk (wr := false) (ty := tyL [(3, .i), (5, .u), (4, .bool), (9, .str), (80, .int .u64), (26, .st .hash), (24, .list .i), (22, .list .str), (38, .list .u), (33, .st .hash)]) (l := []) trivial Try.checked.mixed (fn := Try.f52) (body := Try.f52.body.getD .skip) Try.func52 rfl (by decide) (by kernel_rfl) rfl an_laws_sameInts fun x ho hx => ?_
  obtain ⟨a, b, ⟨⟩⟩ := x
  refine Keeps.of (vc_laws_sameInts a b) ?_
  revert a b ho hx
  show ∀ (a : List (Int)) (b : List (Int)), _
  intro a b ho hx
  dsimp only [C_laws_sameInts, okPTL, okPT, Ok, Ty.cells, SN.cells, OkL, OkC, okI, ci, cb, cs, cl] at ho
  dsimp only [C_laws_sameInts, vc, v1, decB, SR.pre] at hx
  simp only [decide_eq_true_eq, decide_eq_false_iff_not, Bool.not_eq_true', Bool.not_eq_false', and_true, true_and, Int.toNat_natCast, exists_eq_left', exists_eq_left, exists_and_left, Int.not_lt, Int.not_le, Bool.false_eq_true, false_implies, implies_true, forall_const, List.length_append, List.length_cons, List.length_nil, Int.sub_add_cancel, Int.add_sub_cancel, and_imp, get_set_iff, forall_eq', forall_eq, List.set_set, mkd_get, mkd_len, List.length_set, Option.some.injEq]; (repeat' first | intro _ | apply And.intro); all_goals (try omega); all_goals first | grind [take_all', take_next, take_diff] | exact take_next2 (by omega) (by assumption) (by assumption) (by assumption) (by assumption) | exact take_diff2 (by assumption) (by assumption) (by assumption)
def C_laws_sameTexts : Con := { ps := [.ro (.list .str), .ro (.list .str)], out := fun x => let a : List (ByteArray) := x.1; let b : List (ByteArray) := x.2.1; vc .bool (decide (a = b)), det := true }
def G_laws_sameTexts : Cfg := mkG (tyL [(3, .i), (5, .u), (4, .bool), (9, .str), (80, .int .u64), (26, .st .hash), (24, .list .i), (22, .list .str), (38, .list .u), (33, .st .hash)]) [] false
def an_laws_sameTexts : PTL C_laws_sameTexts.ps → Nat → Option Ann := fun x kk_ => let a : List (ByteArray) := x.1; let b : List (ByteArray) := x.2.1; if kk_ = 4 then some (.all (Int) fun i => .giv (0 ≤ i ∧ i ≤ a.length ∧ a.length = b.length ∧ a.take i.toNat = b.take i.toNat) (.mk [(5, ai i), (0, al .str a), (1, al .str b)] [] ((a.length - i.toNat)))) else none
set_option maxRecDepth 200000 in
theorem vc_laws_sameTexts (a : List (ByteArray)) (b : List (ByteArray)) : (keeps Try.prog G_laws_sameTexts (an_laws_sameTexts (a, b, ())) (Try.f51.body.getD .skip) Try.f51.results.toList C_laws_sameTexts (a, b, ())) = ((((List.length a) ≤ (9223372036854775807 : Nat)) →
 (((List.length b) ≤ (9223372036854775807 : Nat)) →
 ((((decide ((@Nat.cast Int _ (List.length a)) ≠ (@Nat.cast Int _ (List.length b)))) = true) →
 ((false = (decide (@Eq (List ByteArray) a b))) ∧
 True)) ∧
 (((decide ((@Nat.cast Int _ (List.length a)) ≠ (@Nat.cast Int _ (List.length b)))) = false) →
 ((∃ (x_1 : Int), (((0 : Int) = x_1) ∧
 ((@Eq (List ByteArray) a a) ∧
 ((@Eq (List ByteArray) b b) ∧
 ((((0 : Int) ≤ x_1) ∧
 ((x_1 ≤ (@Nat.cast Int _ (List.length a))) ∧
 (((List.length a) = (List.length b)) ∧
 (@Eq (List ByteArray) (List.take (Int.toNat x_1) a) (List.take (Int.toNat x_1) b))))) ∧
 True))))) ∧
 (∀ (x_2 : Int), ((((0 : Int) ≤ x_2) ∧
 ((x_2 ≤ (@Nat.cast Int _ (List.length a))) ∧
 (((List.length a) = (List.length b)) ∧
 (@Eq (List ByteArray) (List.take (Int.toNat x_2) a) (List.take (Int.toNat x_2) b))))) →
 (((List.length a) ≤ (9223372036854775807 : Nat)) →
 ((((decide (x_2 < (@Nat.cast Int _ (List.length a)))) = true) →
 ((((0 : Int) ≤ x_2) ∧
 (x_2 < (@Nat.cast Int _ (List.length a)))) ∧
 (∀ (x_3 : ByteArray), ((@Eq (Option ByteArray) (a)[(Int.toNat x_2)]? (some x_3)) →
 ((Ok Ty.str x_3) →
 ((((0 : Int) ≤ x_2) ∧
 (x_2 < (@Nat.cast Int _ (List.length b)))) ∧
 (∀ (x_4 : ByteArray), ((@Eq (Option ByteArray) (b)[(Int.toNat x_2)]? (some x_4)) →
 ((Ok Ty.str x_4) →
 ((((decide (x_3 ≠ x_4)) = true) →
 ((false = (decide (@Eq (List ByteArray) a b))) ∧
 True)) ∧
 (((decide (x_3 ≠ x_4)) = false) →
 ((((- (9223372036854775808 : Int)) ≤ (x_2 + (1 : Int))) ∧
 ((x_2 + (1 : Int)) ≤ (9223372036854775807 : Int))) ∧
 (∃ (x_5 : Int), (((x_2 + (1 : Int)) = x_5) ∧
 ((@Eq (List ByteArray) a a) ∧
 ((@Eq (List ByteArray) b b) ∧
 ((((0 : Int) ≤ x_5) ∧
 ((x_5 ≤ (@Nat.cast Int _ (List.length a))) ∧
 (((List.length a) = (List.length b)) ∧
 (@Eq (List ByteArray) (List.take (Int.toNat x_5) a) (List.take (Int.toNat x_5) b))))) ∧
 (((List.length a) - (Int.toNat x_5)) < ((List.length a) - (Int.toNat x_2)))))))))))))))))))) ∧
 (((decide (x_2 < (@Nat.cast Int _ (List.length a)))) = false) →
 ((true = (decide (@Eq (List ByteArray) a b))) ∧
 True)))))))))))) := by kernel_rfl
theorem det_laws_sameTexts : C_laws_sameTexts.det = true → ∀ x, (C_laws_sameTexts.out x).Det := fun _ x => by simp only [C_laws_sameTexts]; repeat (first | exact Det.ret _ | exact Det.vc' | apply Det.req | apply Det.giv | apply Det.fork | apply Det.bif' | intro _)
set_option maxRecDepth 200000 in
set_option maxHeartbeats 1000000 in
theorem ok_laws_sameTexts : ConOK Try.prog 51 C_laws_sameTexts := by
  refine con_mk (wr := false) (ty := tyL [(3, .i), (5, .u), (4, .bool), (9, .str), (80, .int .u64), (26, .st .hash), (24, .list .i), (22, .list .str), (38, .list .u), (33, .st .hash)]) (l := []) trivial Try.checked.mixed (fn := Try.f51) (body := Try.f51.body.getD .skip) Try.func51 rfl (by decide) (by kernel_rfl) rfl an_laws_sameTexts fun x ho hx => ?_
  obtain ⟨a, b, ⟨⟩⟩ := x
  refine Keeps.of (vc_laws_sameTexts a b) ?_
  revert a b ho hx
  show ∀ (a : List (ByteArray)) (b : List (ByteArray)), _
  intro a b ho hx
  dsimp only [C_laws_sameTexts, okPTL, okPT, Ok, Ty.cells, SN.cells, OkL, OkC, okI, ci, cb, cs, cl] at ho
  dsimp only [C_laws_sameTexts, vc, v1, decB, SR.pre] at hx
  simp only [decide_eq_true_eq, decide_eq_false_iff_not, Bool.not_eq_true', Bool.not_eq_false', and_true, true_and, Int.toNat_natCast, exists_eq_left', exists_eq_left, exists_and_left, Int.not_lt, Int.not_le, Bool.false_eq_true, false_implies, implies_true, forall_const, List.length_append, List.length_cons, List.length_nil, Int.sub_add_cancel, Int.add_sub_cancel, and_imp, get_set_iff, forall_eq', forall_eq, List.set_set, mkd_get, mkd_len, List.length_set, Option.some.injEq]; (repeat' first | intro _ | apply And.intro); all_goals (try omega); all_goals first | grind [take_all', take_next, take_diff] | exact take_next2 (by omega) (by assumption) (by assumption) (by assumption) (by assumption) | exact take_diff2 (by assumption) (by assumption) (by assumption)
def C_laws_sameHash : Con := { ps := [.ro (.st .hash), .ro (.st .hash)], out := fun x => let a : HashT := x.1; let b : HashT := x.2.1; vc .bool (decide (a = b)), det := true }
def G_laws_sameHash : Cfg := mkG (tyL [(3, .i), (5, .u), (4, .bool), (9, .str), (80, .int .u64), (26, .st .hash), (24, .list .i), (22, .list .str), (38, .list .u), (33, .st .hash)]) [(51, C_laws_sameTexts), (52, C_laws_sameInts)] false
def an_laws_sameHash : PTL C_laws_sameHash.ps → Nat → Option Ann := fun _ _ => none
set_option maxRecDepth 200000 in
theorem vc_laws_sameHash (a : HashT) (b : HashT) : (keeps Try.prog G_laws_sameHash (an_laws_sameHash (a, b, ())) (Try.f23.body.getD .skip) Try.f23.results.toList C_laws_sameHash (a, b, ())) = (((((decide (@Eq (List ByteArray) (HashT.names a) (HashT.names b))) = true) →
 ((((decide (@Eq (List Int) (HashT.first a) (HashT.first b))) = true) →
 (((decide (@Eq (List Int) (HashT.next a) (HashT.next b))) = (decide (@Eq HashT a b))) ∧
 True)) ∧
 (((decide (@Eq (List Int) (HashT.first a) (HashT.first b))) = false) →
 ((false = (decide (@Eq HashT a b))) ∧
 True)))) ∧
 (((decide (@Eq (List ByteArray) (HashT.names a) (HashT.names b))) = false) →
 ((false = (decide (@Eq HashT a b))) ∧
 True)))) := by kernel_rfl
theorem det_laws_sameHash : C_laws_sameHash.det = true → ∀ x, (C_laws_sameHash.out x).Det := fun _ x => by simp only [C_laws_sameHash]; repeat (first | exact Det.ret _ | exact Det.vc' | apply Det.req | apply Det.giv | apply Det.fork | apply Det.bif' | intro _)
set_option maxRecDepth 200000 in
set_option maxHeartbeats 1000000 in
theorem ok_laws_sameHash : ConOK Try.prog 23 C_laws_sameHash := by
  refine con_mk (wr := false) (ty := tyL [(3, .i), (5, .u), (4, .bool), (9, .str), (80, .int .u64), (26, .st .hash), (24, .list .i), (22, .list .str), (38, .list .u), (33, .st .hash)]) (l := [(51, C_laws_sameTexts), (52, C_laws_sameInts)]) ⟨⟨ok_laws_sameTexts, det_laws_sameTexts⟩, ⟨⟨ok_laws_sameInts, det_laws_sameInts⟩, trivial⟩⟩ Try.checked.mixed (fn := Try.f23) (body := Try.f23.body.getD .skip) Try.func23 rfl (by decide) (by kernel_rfl) rfl an_laws_sameHash fun x ho hx => ?_
  obtain ⟨a, b, ⟨⟩⟩ := x
  refine Keeps.of (vc_laws_sameHash a b) ?_
  revert a b ho hx
  show ∀ (a : HashT) (b : HashT), _
  intro a b ho hx
  dsimp only [C_laws_sameHash, okPTL, okPT, Ok, Ty.cells, SN.cells, OkL, OkC, okI, ci, cb, cs, cl] at ho
  dsimp only [C_laws_sameHash, vc, v1, decB, SR.pre] at hx
  simp only [decide_eq_true_eq, decide_eq_false_iff_not, Bool.not_eq_true', Bool.not_eq_false', and_true, true_and, Int.toNat_natCast, exists_eq_left', exists_eq_left, exists_and_left, Int.not_lt, Int.not_le, Bool.false_eq_true, false_implies, implies_true, forall_const, List.length_append, List.length_cons, List.length_nil, Int.sub_add_cancel, Int.add_sub_cancel, and_imp, get_set_iff, forall_eq', forall_eq, List.set_set, mkd_get, mkd_len, List.length_set, Option.some.injEq]; (repeat' first | intro _ | apply And.intro); all_goals (try omega); all_goals grind [hash_ext]
end Go.Proofs.Ytjlgnbdncbcnjaa
