/- The laws' families: structs. -/
import Derived.Test.YtjlgnbdncbcnjaaFamB
set_option linter.unusedVariables false
set_option linter.unusedSimpArgs false
namespace Go.Proofs.Ytjlgnbdncbcnjaa
open Go Go.RowKit


def C_laws_toHashTable : Con := { ps := [.ro (.st .hash)], out := fun x => let a : HashT := x.1; .req (szHa a ≤ 1048576) (newS .hash a), det := true }
def G_laws_toHashTable : Cfg := mkG (tyL [(3, .i), (5, .u), (4, .bool), (9, .str), (80, .int .u64), (26, .st .hash), (24, .list .i), (22, .list .str), (38, .list .u), (33, .st .hash)]) [(11, C_laws_toStringS), (45, C_laws_toIntS)] false
def an_laws_toHashTable : PTL C_laws_toHashTable.ps → Nat → Option Ann := fun _ _ => none
set_option maxRecDepth 200000 in
theorem vc_laws_toHashTable (a : HashT) : (keeps Try.prog G_laws_toHashTable (an_laws_toHashTable (a, ())) (Try.f20.body.getD .skip) Try.f20.results.toList C_laws_toHashTable (a, ())) = (((((@Nat.cast Int _ (List.length (HashT.names a))) + (@sumI ByteArray (fun (s_1 : ByteArray) => (@Nat.cast Int _ (ByteArray.size s_1))) (HashT.names a))) ≤ (1048576 : Int)) ∧
 (((@Nat.cast Int _ (List.length (HashT.first a))) ≤ (1048576 : Int)) ∧
 (((@Nat.cast Int _ (List.length (HashT.next a))) ≤ (1048576 : Int)) ∧
 ((@Eq (List ByteArray) (HashT.names a) (HashT.names a)) ∧
 ((@Eq (List Int) (HashT.first a) (HashT.first a)) ∧
 ((@Eq (List Int) (HashT.next a) (HashT.next a)) ∧
 True))))))) := by kernel_rfl
theorem det_laws_toHashTable : C_laws_toHashTable.det = true → ∀ x, (C_laws_toHashTable.out x).Det := fun _ x => by simp only [C_laws_toHashTable]; repeat (first | exact Det.ret _ | exact Det.vc' | apply Det.req | apply Det.giv | apply Det.fork | apply Det.bif' | intro _)
set_option maxRecDepth 200000 in
set_option maxHeartbeats 1000000 in
theorem ok_laws_toHashTable : ConOK Try.prog 20 C_laws_toHashTable := by
  refine con_mk (wr := false) (ty := tyL [(3, .i), (5, .u), (4, .bool), (9, .str), (80, .int .u64), (26, .st .hash), (24, .list .i), (22, .list .str), (38, .list .u), (33, .st .hash)]) (l := [(11, C_laws_toStringS), (45, C_laws_toIntS)]) ⟨⟨ok_laws_toStringS, det_laws_toStringS⟩, ⟨⟨ok_laws_toIntS, det_laws_toIntS⟩, trivial⟩⟩ Try.checked.mixed (fn := Try.f20) (body := Try.f20.body.getD .skip) Try.func20 rfl (by decide) (by kernel_rfl) rfl an_laws_toHashTable fun x ho hx => ?_
  obtain ⟨a, ⟨⟩⟩ := x
  refine Keeps.of (vc_laws_toHashTable a) ?_
  revert a ho hx
  show ∀ (a : HashT), _
  intro a ho hx
  dsimp only [C_laws_toHashTable, okPTL, okPT, Ok, Ty.cells, SN.cells, OkL, OkC, okI, ci, cb, cs, cl] at ho
  dsimp only [C_laws_toHashTable, vc, v1, decB, SR.pre] at hx
  have f0 := sumI_nn (f := fun s : ByteArray => (s.size : Int)) szStr_nn a.names
  simp only [decide_eq_true_eq, decide_eq_false_iff_not, Bool.not_eq_true', Bool.not_eq_false', and_true, true_and, Int.toNat_natCast, exists_eq_left', exists_eq_left, exists_and_left, Int.not_lt, Int.not_le, Bool.false_eq_true, false_implies, implies_true, forall_const, List.length_append, List.length_cons, List.length_nil, Int.sub_add_cancel, Int.add_sub_cancel, and_imp, get_set_iff, forall_eq', forall_eq, List.set_set, mkd_get, mkd_len, List.length_set, Option.some.injEq]; (repeat' first | intro _ | apply And.intro); all_goals (try omega); all_goals grind [szIm, szMe, szHa, szPa]
def C_laws_szHashTable : Con := { ps := [.ro (.st .hash), .ro .i], out := fun x => let a : HashT := x.1; let left : Int := x.2.1; .req (0 ≤ left ∧ left ≤ 1048576) (vc .i (szR (szHa a) left)), det := true }
def G_laws_szHashTable : Cfg := mkG (tyL [(3, .i), (5, .u), (4, .bool), (9, .str), (80, .int .u64), (26, .st .hash), (24, .list .i), (22, .list .str), (38, .list .u), (33, .st .hash)]) [(9, C_laws_szStringS), (43, C_laws_szIntS)] false
def an_laws_szHashTable : PTL C_laws_szHashTable.ps → Nat → Option Ann := fun _ _ => none
set_option maxRecDepth 200000 in
theorem vc_laws_szHashTable (a : HashT) (left : Int) : (keeps Try.prog G_laws_szHashTable (an_laws_szHashTable (a, left, ())) (Try.f18.body.getD .skip) Try.f18.results.toList C_laws_szHashTable (a, left, ())) = (((((0 : Int) ≤ left) ∧
 (left ≤ (1048576 : Int))) ∧
 ((((decide ((szR ((@Nat.cast Int _ (List.length (HashT.names a))) + (@sumI ByteArray (fun (s_1 : ByteArray) => (@Nat.cast Int _ (ByteArray.size s_1))) (HashT.names a))) left) < (0 : Int))) = true) →
 (((- (1 : Int)) = (szR (szHa a) left)) ∧
 True)) ∧
 (((decide ((szR ((@Nat.cast Int _ (List.length (HashT.names a))) + (@sumI ByteArray (fun (s_2 : ByteArray) => (@Nat.cast Int _ (ByteArray.size s_2))) (HashT.names a))) left) < (0 : Int))) = false) →
 ((((0 : Int) ≤ (szR ((@Nat.cast Int _ (List.length (HashT.names a))) + (@sumI ByteArray (fun (s_3 : ByteArray) => (@Nat.cast Int _ (ByteArray.size s_3))) (HashT.names a))) left)) ∧
 ((szR ((@Nat.cast Int _ (List.length (HashT.names a))) + (@sumI ByteArray (fun (s_4 : ByteArray) => (@Nat.cast Int _ (ByteArray.size s_4))) (HashT.names a))) left) ≤ (1048576 : Int))) ∧
 ((((decide ((szR (@Nat.cast Int _ (List.length (HashT.first a))) (szR ((@Nat.cast Int _ (List.length (HashT.names a))) + (@sumI ByteArray (fun (s_5 : ByteArray) => (@Nat.cast Int _ (ByteArray.size s_5))) (HashT.names a))) left)) < (0 : Int))) = true) →
 (((- (1 : Int)) = (szR (szHa a) left)) ∧
 True)) ∧
 (((decide ((szR (@Nat.cast Int _ (List.length (HashT.first a))) (szR ((@Nat.cast Int _ (List.length (HashT.names a))) + (@sumI ByteArray (fun (s_6 : ByteArray) => (@Nat.cast Int _ (ByteArray.size s_6))) (HashT.names a))) left)) < (0 : Int))) = false) →
 ((((0 : Int) ≤ (szR (@Nat.cast Int _ (List.length (HashT.first a))) (szR ((@Nat.cast Int _ (List.length (HashT.names a))) + (@sumI ByteArray (fun (s_7 : ByteArray) => (@Nat.cast Int _ (ByteArray.size s_7))) (HashT.names a))) left))) ∧
 ((szR (@Nat.cast Int _ (List.length (HashT.first a))) (szR ((@Nat.cast Int _ (List.length (HashT.names a))) + (@sumI ByteArray (fun (s_8 : ByteArray) => (@Nat.cast Int _ (ByteArray.size s_8))) (HashT.names a))) left)) ≤ (1048576 : Int))) ∧
 ((((decide ((szR (@Nat.cast Int _ (List.length (HashT.next a))) (szR (@Nat.cast Int _ (List.length (HashT.first a))) (szR ((@Nat.cast Int _ (List.length (HashT.names a))) + (@sumI ByteArray (fun (s_9 : ByteArray) => (@Nat.cast Int _ (ByteArray.size s_9))) (HashT.names a))) left))) < (0 : Int))) = true) →
 (((- (1 : Int)) = (szR (szHa a) left)) ∧
 True)) ∧
 (((decide ((szR (@Nat.cast Int _ (List.length (HashT.next a))) (szR (@Nat.cast Int _ (List.length (HashT.first a))) (szR ((@Nat.cast Int _ (List.length (HashT.names a))) + (@sumI ByteArray (fun (s_10 : ByteArray) => (@Nat.cast Int _ (ByteArray.size s_10))) (HashT.names a))) left))) < (0 : Int))) = false) →
 (((szR (@Nat.cast Int _ (List.length (HashT.next a))) (szR (@Nat.cast Int _ (List.length (HashT.first a))) (szR ((@Nat.cast Int _ (List.length (HashT.names a))) + (@sumI ByteArray (fun (s_11 : ByteArray) => (@Nat.cast Int _ (ByteArray.size s_11))) (HashT.names a))) left))) = (szR (szHa a) left)) ∧
 True))))))))))) := by kernel_rfl
theorem det_laws_szHashTable : C_laws_szHashTable.det = true → ∀ x, (C_laws_szHashTable.out x).Det := fun _ x => by simp only [C_laws_szHashTable]; repeat (first | exact Det.ret _ | exact Det.vc' | apply Det.req | apply Det.giv | apply Det.fork | apply Det.bif' | intro _)
set_option maxRecDepth 200000 in
set_option maxHeartbeats 1000000 in
theorem ok_laws_szHashTable : ConOK Try.prog 18 C_laws_szHashTable := by
  refine con_mk (wr := false) (ty := tyL [(3, .i), (5, .u), (4, .bool), (9, .str), (80, .int .u64), (26, .st .hash), (24, .list .i), (22, .list .str), (38, .list .u), (33, .st .hash)]) (l := [(9, C_laws_szStringS), (43, C_laws_szIntS)]) ⟨⟨ok_laws_szStringS, det_laws_szStringS⟩, ⟨⟨ok_laws_szIntS, det_laws_szIntS⟩, trivial⟩⟩ Try.checked.mixed (fn := Try.f18) (body := Try.f18.body.getD .skip) Try.func18 rfl (by decide) (by kernel_rfl) rfl an_laws_szHashTable fun x ho hx => ?_
  obtain ⟨a, left, ⟨⟩⟩ := x
  refine Keeps.of (vc_laws_szHashTable a left) ?_
  revert a left ho hx
  show ∀ (a : HashT) (left : Int), _
  intro a left ho hx
  dsimp only [C_laws_szHashTable, okPTL, okPT, Ok, Ty.cells, SN.cells, OkL, OkC, okI, ci, cb, cs, cl] at ho
  dsimp only [C_laws_szHashTable, vc, v1, decB, SR.pre] at hx
  have f0 := sumI_nn (f := fun s : ByteArray => (s.size : Int)) szStr_nn a.names
  simp only [decide_eq_true_eq, decide_eq_false_iff_not, Bool.not_eq_true', Bool.not_eq_false', and_true, true_and, Int.toNat_natCast, exists_eq_left', exists_eq_left, exists_and_left, Int.not_lt, Int.not_le, Bool.false_eq_true, false_implies, implies_true, forall_const, List.length_append, List.length_cons, List.length_nil, Int.sub_add_cancel, Int.add_sub_cancel, and_imp, get_set_iff, forall_eq', forall_eq, List.set_set, mkd_get, mkd_len, List.length_set, Option.some.injEq]; (repeat' first | intro _ | apply And.intro); all_goals (try omega); all_goals grind [szR, szIm, szMe, szHa, szPa]
def C_laws_eqHashTable : Con := { ps := [.ro (.st .hash), .ro (.st .hash)], out := fun x => let a : HashT := x.1; let b : HashT := x.2.1; vc .bool (decide (a = b)), det := true }
def G_laws_eqHashTable : Cfg := mkG (tyL [(3, .i), (5, .u), (4, .bool), (9, .str), (80, .int .u64), (26, .st .hash), (24, .list .i), (22, .list .str), (38, .list .u), (33, .st .hash)]) [(14, C_laws_eqStringS), (38, C_laws_eqIntS)] false
def an_laws_eqHashTable : PTL C_laws_eqHashTable.ps → Nat → Option Ann := fun _ _ => none
set_option maxRecDepth 200000 in
theorem vc_laws_eqHashTable (a : HashT) (b : HashT) : (keeps Try.prog G_laws_eqHashTable (an_laws_eqHashTable (a, b, ())) (Try.f13.body.getD .skip) Try.f13.results.toList C_laws_eqHashTable (a, b, ())) = (((((Bool.not (decide (@Eq (List ByteArray) (HashT.names a) (HashT.names b)))) = true) →
 ((false = (decide (@Eq HashT a b))) ∧
 True)) ∧
 (((Bool.not (decide (@Eq (List ByteArray) (HashT.names a) (HashT.names b)))) = false) →
 ((((Bool.not (decide (@Eq (List Int) (HashT.first a) (HashT.first b)))) = true) →
 ((false = (decide (@Eq HashT a b))) ∧
 True)) ∧
 (((Bool.not (decide (@Eq (List Int) (HashT.first a) (HashT.first b)))) = false) →
 ((((Bool.not (decide (@Eq (List Int) (HashT.next a) (HashT.next b)))) = true) →
 ((false = (decide (@Eq HashT a b))) ∧
 True)) ∧
 (((Bool.not (decide (@Eq (List Int) (HashT.next a) (HashT.next b)))) = false) →
 ((true = (decide (@Eq HashT a b))) ∧
 True)))))))) := by kernel_rfl
theorem det_laws_eqHashTable : C_laws_eqHashTable.det = true → ∀ x, (C_laws_eqHashTable.out x).Det := fun _ x => by simp only [C_laws_eqHashTable]; repeat (first | exact Det.ret _ | exact Det.vc' | apply Det.req | apply Det.giv | apply Det.fork | apply Det.bif' | intro _)
set_option maxRecDepth 200000 in
set_option maxHeartbeats 1000000 in
theorem ok_laws_eqHashTable : ConOK Try.prog 13 C_laws_eqHashTable := by
  refine con_mk (wr := false) (ty := tyL [(3, .i), (5, .u), (4, .bool), (9, .str), (80, .int .u64), (26, .st .hash), (24, .list .i), (22, .list .str), (38, .list .u), (33, .st .hash)]) (l := [(14, C_laws_eqStringS), (38, C_laws_eqIntS)]) ⟨⟨ok_laws_eqStringS, det_laws_eqStringS⟩, ⟨⟨ok_laws_eqIntS, det_laws_eqIntS⟩, trivial⟩⟩ Try.checked.mixed (fn := Try.f13) (body := Try.f13.body.getD .skip) Try.func13 rfl (by decide) (by kernel_rfl) rfl an_laws_eqHashTable fun x ho hx => ?_
  obtain ⟨a, b, ⟨⟩⟩ := x
  refine Keeps.of (vc_laws_eqHashTable a b) ?_
  revert a b ho hx
  show ∀ (a : HashT) (b : HashT), _
  intro a b ho hx
  dsimp only [C_laws_eqHashTable, okPTL, okPT, Ok, Ty.cells, SN.cells, OkL, OkC, okI, ci, cb, cs, cl] at ho
  dsimp only [C_laws_eqHashTable, vc, v1, decB, SR.pre] at hx
  simp only [decide_eq_true_eq, decide_eq_false_iff_not, Bool.not_eq_true', Bool.not_eq_false', and_true, true_and, Int.toNat_natCast, exists_eq_left', exists_eq_left, exists_and_left, Int.not_lt, Int.not_le, Bool.false_eq_true, false_implies, implies_true, forall_const, List.length_append, List.length_cons, List.length_nil, Int.sub_add_cancel, Int.add_sub_cancel, and_imp, get_set_iff, forall_eq', forall_eq, List.set_set, mkd_get, mkd_len, List.length_set, Option.some.injEq]; (repeat' first | intro _ | apply And.intro); all_goals (try omega); all_goals (first | grind [cases Img] | (cases a; cases b; simp_all; done) | (obtain ⟨⟨_, _⟩, _⟩ := a; obtain ⟨⟨_, _⟩, _⟩ := b; simp_all; done) | (obtain ⟨_, _, _⟩ := a; obtain ⟨_, _, _⟩ := b; simp_all; done) | (obtain ⟨_, ⟨_, _⟩⟩ := a; obtain ⟨_, ⟨_, _⟩⟩ := b; simp_all; done))
def C_laws_markHashTable : Con := { ps := [.own .hash, .ro .i], out := fun x => let a : HashT := x.1; let k : Int := x.2.1; .req (0 ≤ k ∧ k + cHa a ≤ 1000000000000) (turnS .hash (mkHa a k) (k + cHa a)), det := true }
def G_laws_markHashTable : Cfg := mkG (tyL [(3, .i), (5, .u), (4, .bool), (9, .str), (80, .int .u64), (26, .st .hash), (24, .list .i), (22, .list .str), (38, .list .u), (33, .st .hash)]) [(15, C_laws_markStringS), (40, C_laws_markIntS)] false
def an_laws_markHashTable : PTL C_laws_markHashTable.ps → Nat → Option Ann := fun _ _ => none
set_option maxRecDepth 200000 in
theorem vc_laws_markHashTable (a : HashT) (k : Int) : (keeps Try.prog G_laws_markHashTable (an_laws_markHashTable (a, k, ())) (Try.f16.body.getD .skip) Try.f16.results.toList C_laws_markHashTable (a, k, ())) = (((((0 : Int) ≤ k) ∧
 ((k + (@sumI ByteArray (@cOne ByteArray) (HashT.names a))) ≤ (1000000000000 : Int))) ∧
 ((((0 : Int) ≤ (k + (@sumI ByteArray (@cOne ByteArray) (HashT.names a)))) ∧
 (((k + (@sumI ByteArray (@cOne ByteArray) (HashT.names a))) + (@sumI Int (@cOne Int) (HashT.first a))) ≤ (1000000000000 : Int))) ∧
 ((((0 : Int) ≤ ((k + (@sumI ByteArray (@cOne ByteArray) (HashT.names a))) + (@sumI Int (@cOne Int) (HashT.first a)))) ∧
 ((((k + (@sumI ByteArray (@cOne ByteArray) (HashT.names a))) + (@sumI Int (@cOne Int) (HashT.first a))) + (@sumI Int (@cOne Int) (HashT.next a))) ≤ (1000000000000 : Int))) ∧
 (((((k + (@sumI ByteArray (@cOne ByteArray) (HashT.names a))) + (@sumI Int (@cOne Int) (HashT.first a))) + (@sumI Int (@cOne Int) (HashT.next a))) = (k + (cHa a))) ∧
 ((@Eq (List ByteArray) (@mkL ByteArray mkSt (@cOne ByteArray) (HashT.names a) k) (HashT.names (mkHa a k))) ∧
 ((@Eq (List Int) (@mkL Int mkI (@cOne Int) (HashT.first a) (k + (@sumI ByteArray (@cOne ByteArray) (HashT.names a)))) (HashT.first (mkHa a k))) ∧
 ((@Eq (List Int) (@mkL Int mkI (@cOne Int) (HashT.next a) ((k + (@sumI ByteArray (@cOne ByteArray) (HashT.names a))) + (@sumI Int (@cOne Int) (HashT.first a)))) (HashT.next (mkHa a k))) ∧
 True)))))))) := by kernel_rfl
theorem det_laws_markHashTable : C_laws_markHashTable.det = true → ∀ x, (C_laws_markHashTable.out x).Det := fun _ x => by simp only [C_laws_markHashTable]; repeat (first | exact Det.ret _ | exact Det.vc' | apply Det.req | apply Det.giv | apply Det.fork | apply Det.bif' | intro _)
set_option maxRecDepth 200000 in
set_option maxHeartbeats 1000000 in
theorem ok_laws_markHashTable : ConOK Try.prog 16 C_laws_markHashTable := by
  refine con_mk (wr := false) (ty := tyL [(3, .i), (5, .u), (4, .bool), (9, .str), (80, .int .u64), (26, .st .hash), (24, .list .i), (22, .list .str), (38, .list .u), (33, .st .hash)]) (l := [(15, C_laws_markStringS), (40, C_laws_markIntS)]) ⟨⟨ok_laws_markStringS, det_laws_markStringS⟩, ⟨⟨ok_laws_markIntS, det_laws_markIntS⟩, trivial⟩⟩ Try.checked.mixed (fn := Try.f16) (body := Try.f16.body.getD .skip) Try.func16 rfl (by decide) (by kernel_rfl) rfl an_laws_markHashTable fun x ho hx => ?_
  obtain ⟨a, k, ⟨⟩⟩ := x
  refine Keeps.of (vc_laws_markHashTable a k) ?_
  revert a k ho hx
  show ∀ (a : HashT) (k : Int), _
  intro a k ho hx
  dsimp only [C_laws_markHashTable, okPTL, okPT, Ok, Ty.cells, SN.cells, OkL, OkC, okI, ci, cb, cs, cl] at ho
  dsimp only [C_laws_markHashTable, vc, v1, decB, SR.pre] at hx
  have f0 := cOne_ge a.names
  have f1 := cOne_ge a.first
  have f2 := cOne_ge a.next
  simp only [decide_eq_true_eq, decide_eq_false_iff_not, Bool.not_eq_true', Bool.not_eq_false', and_true, true_and, Int.toNat_natCast, exists_eq_left', exists_eq_left, exists_and_left, Int.not_lt, Int.not_le, Bool.false_eq_true, false_implies, implies_true, forall_const, List.length_append, List.length_cons, List.length_nil, Int.sub_add_cancel, Int.add_sub_cancel, and_imp, get_set_iff, forall_eq', forall_eq, List.set_set, mkd_get, mkd_len, List.length_set, Option.some.injEq]; (repeat' first | intro _ | apply And.intro); all_goals (try omega); all_goals (first | grind [cIm, mkIm, cMe, mkMe, cHa, mkHa, cOb, mkOb] | (simp only [cIm, mkIm, cMe, mkMe, cHa, mkHa, cOb, mkOb] at *; omega) | (simp [cIm, mkIm, cMe, mkMe, cHa, mkHa, cOb, mkOb]))
def C_laws_heldHashTable : Con := { ps := [.ro (.st .hash), .ro .i], out := fun x => let a : HashT := x.1; let k : Int := x.2.1; .req (0 ≤ k ∧ k + cHa a ≤ 1000000000000) (vc .i (hHa a k)), det := true }
def G_laws_heldHashTable : Cfg := mkG (tyL [(3, .i), (5, .u), (4, .bool), (9, .str), (80, .int .u64), (26, .st .hash), (24, .list .i), (22, .list .str), (38, .list .u), (33, .st .hash)]) [(41, C_laws_heldStringS), (42, C_laws_heldIntS)] false
def an_laws_heldHashTable : PTL C_laws_heldHashTable.ps → Nat → Option Ann := fun _ _ => none
set_option maxRecDepth 200000 in
theorem vc_laws_heldHashTable (a : HashT) (k : Int) : (keeps Try.prog G_laws_heldHashTable (an_laws_heldHashTable (a, k, ())) (Try.f17.body.getD .skip) Try.f17.results.toList C_laws_heldHashTable (a, k, ())) = (((((0 : Int) ≤ k) ∧
 ((k + (@sumI ByteArray (@cOne ByteArray) (HashT.names a))) ≤ (1000000000000 : Int))) ∧
 ((((decide ((@hdL ByteArray hSt (HashT.names a) k) < (0 : Int))) = true) →
 (((- (1 : Int)) = (hHa a k)) ∧
 True)) ∧
 (((decide ((@hdL ByteArray hSt (HashT.names a) k) < (0 : Int))) = false) →
 ((((0 : Int) ≤ (@hdL ByteArray hSt (HashT.names a) k)) ∧
 (((@hdL ByteArray hSt (HashT.names a) k) + (@sumI Int (@cOne Int) (HashT.first a))) ≤ (1000000000000 : Int))) ∧
 ((((decide ((@hdL Int hI (HashT.first a) (@hdL ByteArray hSt (HashT.names a) k)) < (0 : Int))) = true) →
 (((- (1 : Int)) = (hHa a k)) ∧
 True)) ∧
 (((decide ((@hdL Int hI (HashT.first a) (@hdL ByteArray hSt (HashT.names a) k)) < (0 : Int))) = false) →
 ((((0 : Int) ≤ (@hdL Int hI (HashT.first a) (@hdL ByteArray hSt (HashT.names a) k))) ∧
 (((@hdL Int hI (HashT.first a) (@hdL ByteArray hSt (HashT.names a) k)) + (@sumI Int (@cOne Int) (HashT.next a))) ≤ (1000000000000 : Int))) ∧
 ((((decide ((@hdL Int hI (HashT.next a) (@hdL Int hI (HashT.first a) (@hdL ByteArray hSt (HashT.names a) k))) < (0 : Int))) = true) →
 (((- (1 : Int)) = (hHa a k)) ∧
 True)) ∧
 (((decide ((@hdL Int hI (HashT.next a) (@hdL Int hI (HashT.first a) (@hdL ByteArray hSt (HashT.names a) k))) < (0 : Int))) = false) →
 (((@hdL Int hI (HashT.next a) (@hdL Int hI (HashT.first a) (@hdL ByteArray hSt (HashT.names a) k))) = (hHa a k)) ∧
 True))))))))))) := by kernel_rfl
theorem det_laws_heldHashTable : C_laws_heldHashTable.det = true → ∀ x, (C_laws_heldHashTable.out x).Det := fun _ x => by simp only [C_laws_heldHashTable]; repeat (first | exact Det.ret _ | exact Det.vc' | apply Det.req | apply Det.giv | apply Det.fork | apply Det.bif' | intro _)
set_option maxRecDepth 200000 in
set_option maxHeartbeats 1000000 in
theorem ok_laws_heldHashTable : ConOK Try.prog 17 C_laws_heldHashTable := by
  refine con_mk (wr := false) (ty := tyL [(3, .i), (5, .u), (4, .bool), (9, .str), (80, .int .u64), (26, .st .hash), (24, .list .i), (22, .list .str), (38, .list .u), (33, .st .hash)]) (l := [(41, C_laws_heldStringS), (42, C_laws_heldIntS)]) ⟨⟨ok_laws_heldStringS, det_laws_heldStringS⟩, ⟨⟨ok_laws_heldIntS, det_laws_heldIntS⟩, trivial⟩⟩ Try.checked.mixed (fn := Try.f17) (body := Try.f17.body.getD .skip) Try.func17 rfl (by decide) (by kernel_rfl) rfl an_laws_heldHashTable fun x ho hx => ?_
  obtain ⟨a, k, ⟨⟩⟩ := x
  refine Keeps.of (vc_laws_heldHashTable a k) ?_
  revert a k ho hx
  show ∀ (a : HashT) (k : Int), _
  intro a k ho hx
  dsimp only [C_laws_heldHashTable, okPTL, okPT, Ok, Ty.cells, SN.cells, OkL, OkC, okI, ci, cb, cs, cl] at ho
  dsimp only [C_laws_heldHashTable, vc, v1, decB, SR.pre] at hx
  have f0 := cOne_ge a.names
  have f1 := cOne_ge a.first
  have f2 := cOne_ge a.next
  have f3 := hdSt_or a.names k
  have f4 := hdI_or a.first (k + sumI cOne a.names)
  have f5 := hdI_or a.next (k + sumI cOne a.names + sumI cOne a.first)
  simp only [decide_eq_true_eq, decide_eq_false_iff_not, Bool.not_eq_true', Bool.not_eq_false', and_true, true_and, Int.toNat_natCast, exists_eq_left', exists_eq_left, exists_and_left, Int.not_lt, Int.not_le, Bool.false_eq_true, false_implies, implies_true, forall_const, List.length_append, List.length_cons, List.length_nil, Int.sub_add_cancel, Int.add_sub_cancel, and_imp, get_set_iff, forall_eq', forall_eq, List.set_set, mkd_get, mkd_len, List.length_set, Option.some.injEq]; (repeat' first | intro _ | apply And.intro); all_goals (try omega); all_goals grind [hIm, cIm, hMe, cMe, hHa, cHa, hOb, cOb]
end Go.Proofs.Ytjlgnbdncbcnjaa
