/- The laws' comparisons. -/
import Derived.Test.YthkefakjihafeaaFamD
set_option linter.unusedVariables false
set_option linter.unusedSimpArgs false
namespace Go.Proofs.Ythkefakjihafeaa
open Go Go.RowKit


theorem memo_ext {a b : Memo} (h : a.what = b.what) (h' : a.regions = b.regions) : a = b := by cases a; cases b; simp_all
theorem hash_ext {a b : HashT} (h : a.names = b.names) (h' : a.first = b.first) (h'' : a.next = b.next) : a = b := by cases a; cases b; simp_all
theorem img_ext {a b : Img} (h : a.base = b.base) (h' : a.bytes = b.bytes) : a = b := by cases a; cases b; simp_all
theorem patch_ext {a b : Patch} (h : a.at_ = b.at_) (h' : a.bytes = b.bytes) : a = b := by cases a; cases b; simp_all
theorem region_ext {a b : Region} (h : a.from_ = b.from_) (h1 : a.to = b.to) (h2 : a.write = b.write) (h3 : a.run = b.run) : a = b := by cases a; cases b; simp_all
def C_laws_sameInts : Con := { ps := [.ro (.list .i), .ro (.list .i)], out := fun x => let a : List (Int) := x.1; let b : List (Int) := x.2.1; vc .bool (decide (a = b)), det := true }
abbrev L_laws_sameInts : List (Nat × Con) := []
def G_laws_sameInts : Cfg := mkG (tyL tys_) L_laws_sameInts false
def an_laws_sameInts : PTL C_laws_sameInts.ps → Nat → Option Ann := fun x kk_ => let a : List (Int) := x.1; let b : List (Int) := x.2.1; if kk_ = 4 then some (.all (Int) fun i => .giv (0 ≤ i ∧ i ≤ a.length ∧ a.length = b.length ∧ a.take i.toNat = b.take i.toNat) (.mk [(5, ai i), (0, al .i a), (1, al .i b)] [] ((a.length - i.toNat)))) else none
set_option maxRecDepth 200000 in
theorem vc_laws_sameInts (a : List (Int)) (b : List (Int)) : (keeps Try.prog G_laws_sameInts (an_laws_sameInts (a, b, ())) (Try.f25.body.getD .skip) Try.f25.results.toList C_laws_sameInts (a, b, ())) = ((((List.length a) ≤ 9223372036854775807) →
 (((List.length b) ≤ 9223372036854775807) →
 ((((decide ((LN a) ≠ (LN b))) = true) →
 ((false = (decide (@Eq (List Int) a b))) ∧
 True)) ∧
 (((decide ((LN a) ≠ (LN b))) = false) →
 ((∃ (x_1 : Int), ((0 = x_1) ∧
 ((@Eq (List Int) a a) ∧
 ((@Eq (List Int) b b) ∧
 (((0 ≤ x_1) ∧
 ((x_1 ≤ (LN a)) ∧
 (((List.length a) = (List.length b)) ∧
 (@Eq (List Int) (List.take (Int.toNat x_1) a) (List.take (Int.toNat x_1) b))))) ∧
 True))))) ∧
 (∀ (x_2 : Int), (((0 ≤ x_2) ∧
 ((x_2 ≤ (LN a)) ∧
 (((List.length a) = (List.length b)) ∧
 (@Eq (List Int) (List.take (Int.toNat x_2) a) (List.take (Int.toNat x_2) b))))) →
 (((List.length a) ≤ 9223372036854775807) →
 ((((decide (x_2 < (LN a))) = true) →
 (((0 ≤ x_2) ∧
 (x_2 < (LN a))) ∧
 (∀ (x_3 : Int), ((@Eq (Option Int) (a)[(Int.toNat x_2)]? (some x_3)) →
 ((Ok (Ty.int IntKind.i64) x_3) →
 (((0 ≤ x_2) ∧
 (x_2 < (LN b))) ∧
 (∀ (x_4 : Int), ((@Eq (Option Int) (b)[(Int.toNat x_2)]? (some x_4)) →
 ((Ok (Ty.int IntKind.i64) x_4) →
 ((((decide (x_3 ≠ x_4)) = true) →
 ((false = (decide (@Eq (List Int) a b))) ∧
 True)) ∧
 (((decide (x_3 ≠ x_4)) = false) →
 ((i64 (x_2 + (1 : Int))) ∧
 (∃ (x_5 : Int), (((x_2 + (1 : Int)) = x_5) ∧
 ((@Eq (List Int) a a) ∧
 ((@Eq (List Int) b b) ∧
 (((0 ≤ x_5) ∧
 ((x_5 ≤ (LN a)) ∧
 (((List.length a) = (List.length b)) ∧
 (@Eq (List Int) (List.take (Int.toNat x_5) a) (List.take (Int.toNat x_5) b))))) ∧
 (((List.length a) - (Int.toNat x_5)) < ((List.length a) - (Int.toNat x_2)))))))))))))))))))) ∧
 (((decide (x_2 < (LN a))) = false) →
 ((true = (decide (@Eq (List Int) a b))) ∧
 True)))))))))))) := by kernel_rfl
theorem det_laws_sameInts : C_laws_sameInts.det = true → ∀ x, (C_laws_sameInts.out x).Det := fun _ _ => Det.vc'
set_option maxRecDepth 200000 in
set_option maxHeartbeats 4000000 in
theorem ok_laws_sameInts : ConOK Try.prog 25 C_laws_sameInts := by
  refine con_mk (wr := false) (ty := tyL tys_) (l := L_laws_sameInts) trivial Try.checked.mixed (fn := Try.f25) (body := Try.f25.body.getD .skip) Try.func25 rfl (by decide) (by kernel_rfl) rfl an_laws_sameInts fun x ho hx => ?_
  obtain ⟨a, b, ⟨⟩⟩ := x
  refine Keeps.of (vc_laws_sameInts a b) ?_
  revert a b ho hx
  show ∀ (a : List (Int)) (b : List (Int)), _
  intro a b ho hx
  dsimp only [C_laws_sameInts, okPTL, okPT, Ok, Ty.cells, SN.cells, OkL, OkC, okI, ci, cb, cs, cl] at ho
  dsimp only [C_laws_sameInts, vc, v1, decB, SR.pre] at hx
  (try delta i64 LN); simp only [VBt]; (repeat' first | intro _ | apply And.intro); all_goals (try omega); all_goals first | grind [take_all', take_next, take_diff] | exact take_next2 (by omega) (by assumption) (by assumption) (by assumption) (by assumption) | exact take_diff2 (by assumption) (by assumption) (by assumption)
def C_laws_sameTexts : Con := { ps := [.ro (.list .str), .ro (.list .str)], out := fun x => let a : List (ByteArray) := x.1; let b : List (ByteArray) := x.2.1; vc .bool (decide (a = b)), det := true }
abbrev L_laws_sameTexts : List (Nat × Con) := []
def G_laws_sameTexts : Cfg := mkG (tyL tys_) L_laws_sameTexts false
def an_laws_sameTexts : PTL C_laws_sameTexts.ps → Nat → Option Ann := fun x kk_ => let a : List (ByteArray) := x.1; let b : List (ByteArray) := x.2.1; if kk_ = 4 then some (.all (Int) fun i => .giv (0 ≤ i ∧ i ≤ a.length ∧ a.length = b.length ∧ a.take i.toNat = b.take i.toNat) (.mk [(5, ai i), (0, al .str a), (1, al .str b)] [] ((a.length - i.toNat)))) else none
set_option maxRecDepth 200000 in
theorem vc_laws_sameTexts (a : List (ByteArray)) (b : List (ByteArray)) : (keeps Try.prog G_laws_sameTexts (an_laws_sameTexts (a, b, ())) (Try.f12.body.getD .skip) Try.f12.results.toList C_laws_sameTexts (a, b, ())) = ((((List.length a) ≤ 9223372036854775807) →
 (((List.length b) ≤ 9223372036854775807) →
 ((((decide ((LN a) ≠ (LN b))) = true) →
 ((false = (decide (@Eq (List ByteArray) a b))) ∧
 True)) ∧
 (((decide ((LN a) ≠ (LN b))) = false) →
 ((∃ (x_1 : Int), ((0 = x_1) ∧
 ((@Eq (List ByteArray) a a) ∧
 ((@Eq (List ByteArray) b b) ∧
 (((0 ≤ x_1) ∧
 ((x_1 ≤ (LN a)) ∧
 (((List.length a) = (List.length b)) ∧
 (@Eq (List ByteArray) (List.take (Int.toNat x_1) a) (List.take (Int.toNat x_1) b))))) ∧
 True))))) ∧
 (∀ (x_2 : Int), (((0 ≤ x_2) ∧
 ((x_2 ≤ (LN a)) ∧
 (((List.length a) = (List.length b)) ∧
 (@Eq (List ByteArray) (List.take (Int.toNat x_2) a) (List.take (Int.toNat x_2) b))))) →
 (((List.length a) ≤ 9223372036854775807) →
 ((((decide (x_2 < (LN a))) = true) →
 (((0 ≤ x_2) ∧
 (x_2 < (LN a))) ∧
 (∀ (x_3 : ByteArray), ((@Eq (Option ByteArray) (a)[(Int.toNat x_2)]? (some x_3)) →
 ((Ok Ty.str x_3) →
 (((0 ≤ x_2) ∧
 (x_2 < (LN b))) ∧
 (∀ (x_4 : ByteArray), ((@Eq (Option ByteArray) (b)[(Int.toNat x_2)]? (some x_4)) →
 ((Ok Ty.str x_4) →
 ((((decide (x_3 ≠ x_4)) = true) →
 ((false = (decide (@Eq (List ByteArray) a b))) ∧
 True)) ∧
 (((decide (x_3 ≠ x_4)) = false) →
 ((i64 (x_2 + (1 : Int))) ∧
 (∃ (x_5 : Int), (((x_2 + (1 : Int)) = x_5) ∧
 ((@Eq (List ByteArray) a a) ∧
 ((@Eq (List ByteArray) b b) ∧
 (((0 ≤ x_5) ∧
 ((x_5 ≤ (LN a)) ∧
 (((List.length a) = (List.length b)) ∧
 (@Eq (List ByteArray) (List.take (Int.toNat x_5) a) (List.take (Int.toNat x_5) b))))) ∧
 (((List.length a) - (Int.toNat x_5)) < ((List.length a) - (Int.toNat x_2)))))))))))))))))))) ∧
 (((decide (x_2 < (LN a))) = false) →
 ((true = (decide (@Eq (List ByteArray) a b))) ∧
 True)))))))))))) := by kernel_rfl
theorem det_laws_sameTexts : C_laws_sameTexts.det = true → ∀ x, (C_laws_sameTexts.out x).Det := fun _ _ => Det.vc'
set_option maxRecDepth 200000 in
set_option maxHeartbeats 4000000 in
theorem ok_laws_sameTexts : ConOK Try.prog 12 C_laws_sameTexts := by
  refine con_mk (wr := false) (ty := tyL tys_) (l := L_laws_sameTexts) trivial Try.checked.mixed (fn := Try.f12) (body := Try.f12.body.getD .skip) Try.func12 rfl (by decide) (by kernel_rfl) rfl an_laws_sameTexts fun x ho hx => ?_
  obtain ⟨a, b, ⟨⟩⟩ := x
  refine Keeps.of (vc_laws_sameTexts a b) ?_
  revert a b ho hx
  show ∀ (a : List (ByteArray)) (b : List (ByteArray)), _
  intro a b ho hx
  dsimp only [C_laws_sameTexts, okPTL, okPT, Ok, Ty.cells, SN.cells, OkL, OkC, okI, ci, cb, cs, cl] at ho
  dsimp only [C_laws_sameTexts, vc, v1, decB, SR.pre] at hx
  (try delta i64 LN); simp only [VBt]; (repeat' first | intro _ | apply And.intro); all_goals (try omega); all_goals first | grind [take_all', take_next, take_diff] | exact take_next2 (by omega) (by assumption) (by assumption) (by assumption) (by assumption) | exact take_diff2 (by assumption) (by assumption) (by assumption)
end Go.Proofs.Ythkefakjihafeaa
