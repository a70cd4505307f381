/- The laws' families: structs. -/
import Derived.Test.YtpdddafaelbgkaaFamB
set_option linter.unusedVariables false
set_option linter.unusedSimpArgs false
namespace Go.Proofs.Ytpdddafaelbgkaa
open Go Go.RowKit


def C_laws_toRegion : Con := { ps := [.ro (.st .region)], out := fun x => let a : Region := x.1; newS .region a, det := true }
def G_laws_toRegion : Cfg := mkG (tyL [(3, .i), (5, .u), (4, .bool), (9, .str), (163, .int .u64), (71, .st .fixup), (24, .st .img), (39, .st .region), (35, .st .mem), (30, .st .patch), (94, .st .hash), (92, .list .i), (90, .list .str), (22, .list .u), (67, .st .fixup), (52, .st .img), (149, .st .region), (55, .st .mem), (101, .st .hash)]) [] false
def an_laws_toRegion : PTL C_laws_toRegion.ps → Nat → Option Ann := fun _ _ => none
set_option maxRecDepth 200000 in
theorem vc_laws_toRegion (a : Region) : (keeps Try.prog G_laws_toRegion (an_laws_toRegion (a, ())) (Try.f150.body.getD .skip) Try.f150.results.toList C_laws_toRegion (a, ())) = ((((Go.Proofs.Ytpdddafaelbgkaa.Region.from_ a) = (Go.Proofs.Ytpdddafaelbgkaa.Region.from_ a)) ∧
 (((Go.Proofs.Ytpdddafaelbgkaa.Region.to a) = (Go.Proofs.Ytpdddafaelbgkaa.Region.to a)) ∧
 (((Go.Proofs.Ytpdddafaelbgkaa.Region.write a) = (Go.Proofs.Ytpdddafaelbgkaa.Region.write a)) ∧
 (((Go.Proofs.Ytpdddafaelbgkaa.Region.run a) = (Go.Proofs.Ytpdddafaelbgkaa.Region.run a)) ∧
 True))))) := by kernel_rfl
theorem det_laws_toRegion : C_laws_toRegion.det = true → ∀ x, (C_laws_toRegion.out x).Det := fun _ x => by simp only [C_laws_toRegion]; repeat (first | exact Det.ret _ | exact Det.vc' | apply Det.req | apply Det.giv | apply Det.fork | apply Det.bif' | intro _)
set_option maxRecDepth 200000 in
set_option maxHeartbeats 1000000 in
theorem ok_laws_toRegion : ConOK Try.prog 150 C_laws_toRegion := by
  refine con_mk (wr := false) (ty := tyL [(3, .i), (5, .u), (4, .bool), (9, .str), (163, .int .u64), (71, .st .fixup), (24, .st .img), (39, .st .region), (35, .st .mem), (30, .st .patch), (94, .st .hash), (92, .list .i), (90, .list .str), (22, .list .u), (67, .st .fixup), (52, .st .img), (149, .st .region), (55, .st .mem), (101, .st .hash)]) (l := []) trivial Try.checked.mixed (fn := Try.f150) (body := Try.f150.body.getD .skip) Try.func150 rfl (by decide) (by kernel_rfl) rfl an_laws_toRegion fun x ho hx => ?_
  obtain ⟨a, ⟨⟩⟩ := x
  refine Keeps.of (vc_laws_toRegion a) ?_
  revert a ho hx
  show ∀ (a : Region), _
  intro a ho hx
  dsimp only [C_laws_toRegion, okPTL, okPT, Ok, Ty.cells, SN.cells, OkL, OkC, okI, ci, cb, cs, cl] at ho
  dsimp only [C_laws_toRegion, vc, v1, decB, SR.pre] at hx
  simp only [decide_eq_true_eq, decide_eq_false_iff_not, Bool.not_eq_true', Bool.not_eq_false', and_true, true_and, Int.toNat_natCast, exists_eq_left', exists_eq_left, exists_and_left, Int.not_lt, Int.not_le, Bool.false_eq_true, false_implies, implies_true, forall_const, List.length_append, List.length_cons, List.length_nil, Int.sub_add_cancel, Int.add_sub_cancel, and_imp, get_set_iff, forall_eq', forall_eq, List.set_set, mkd_get, mkd_len, List.length_set, Option.some.injEq]; (repeat' first | intro _ | apply And.intro); all_goals (try omega); all_goals grind [szIm, szMe, szHa, szPa]
def C_laws_eqRegion : Con := { ps := [.ro (.st .region), .ro (.st .region)], out := fun x => let a : Region := x.1; let b : Region := x.2.1; vc .bool (decide (a = b)), det := true }
def G_laws_eqRegion : Cfg := mkG (tyL [(3, .i), (5, .u), (4, .bool), (9, .str), (163, .int .u64), (71, .st .fixup), (24, .st .img), (39, .st .region), (35, .st .mem), (30, .st .patch), (94, .st .hash), (92, .list .i), (90, .list .str), (22, .list .u), (67, .st .fixup), (52, .st .img), (149, .st .region), (55, .st .mem), (101, .st .hash)]) [] false
def an_laws_eqRegion : PTL C_laws_eqRegion.ps → Nat → Option Ann := fun _ _ => none
set_option maxRecDepth 200000 in
theorem vc_laws_eqRegion (a : Region) (b : Region) : (keeps Try.prog G_laws_eqRegion (an_laws_eqRegion (a, b, ())) (Try.f151.body.getD .skip) Try.f151.results.toList C_laws_eqRegion (a, b, ())) = (((((decide ((Go.Proofs.Ytpdddafaelbgkaa.Region.from_ a) ≠ (Go.Proofs.Ytpdddafaelbgkaa.Region.from_ b))) = true) →
 ((false = (decide (@Eq Go.Proofs.Ytpdddafaelbgkaa.Region a b))) ∧
 True)) ∧
 (((decide ((Go.Proofs.Ytpdddafaelbgkaa.Region.from_ a) ≠ (Go.Proofs.Ytpdddafaelbgkaa.Region.from_ b))) = false) →
 ((((decide ((Go.Proofs.Ytpdddafaelbgkaa.Region.to a) ≠ (Go.Proofs.Ytpdddafaelbgkaa.Region.to b))) = true) →
 ((false = (decide (@Eq Go.Proofs.Ytpdddafaelbgkaa.Region a b))) ∧
 True)) ∧
 (((decide ((Go.Proofs.Ytpdddafaelbgkaa.Region.to a) ≠ (Go.Proofs.Ytpdddafaelbgkaa.Region.to b))) = false) →
 ((((decide ((Go.Proofs.Ytpdddafaelbgkaa.Region.write a) ≠ (Go.Proofs.Ytpdddafaelbgkaa.Region.write b))) = true) →
 ((false = (decide (@Eq Go.Proofs.Ytpdddafaelbgkaa.Region a b))) ∧
 True)) ∧
 (((decide ((Go.Proofs.Ytpdddafaelbgkaa.Region.write a) ≠ (Go.Proofs.Ytpdddafaelbgkaa.Region.write b))) = false) →
 ((((decide ((Go.Proofs.Ytpdddafaelbgkaa.Region.run a) ≠ (Go.Proofs.Ytpdddafaelbgkaa.Region.run b))) = true) →
 ((false = (decide (@Eq Go.Proofs.Ytpdddafaelbgkaa.Region a b))) ∧
 True)) ∧
 (((decide ((Go.Proofs.Ytpdddafaelbgkaa.Region.run a) ≠ (Go.Proofs.Ytpdddafaelbgkaa.Region.run b))) = false) →
 ((true = (decide (@Eq Go.Proofs.Ytpdddafaelbgkaa.Region a b))) ∧
 True)))))))))) := by kernel_rfl
theorem det_laws_eqRegion : C_laws_eqRegion.det = true → ∀ x, (C_laws_eqRegion.out x).Det := fun _ x => by simp only [C_laws_eqRegion]; repeat (first | exact Det.ret _ | exact Det.vc' | apply Det.req | apply Det.giv | apply Det.fork | apply Det.bif' | intro _)
set_option maxRecDepth 200000 in
set_option maxHeartbeats 1000000 in
theorem ok_laws_eqRegion : ConOK Try.prog 151 C_laws_eqRegion := by
  refine con_mk (wr := false) (ty := tyL [(3, .i), (5, .u), (4, .bool), (9, .str), (163, .int .u64), (71, .st .fixup), (24, .st .img), (39, .st .region), (35, .st .mem), (30, .st .patch), (94, .st .hash), (92, .list .i), (90, .list .str), (22, .list .u), (67, .st .fixup), (52, .st .img), (149, .st .region), (55, .st .mem), (101, .st .hash)]) (l := []) trivial Try.checked.mixed (fn := Try.f151) (body := Try.f151.body.getD .skip) Try.func151 rfl (by decide) (by kernel_rfl) rfl an_laws_eqRegion fun x ho hx => ?_
  obtain ⟨a, b, ⟨⟩⟩ := x
  refine Keeps.of (vc_laws_eqRegion a b) ?_
  revert a b ho hx
  show ∀ (a : Region) (b : Region), _
  intro a b ho hx
  dsimp only [C_laws_eqRegion, okPTL, okPT, Ok, Ty.cells, SN.cells, OkL, OkC, okI, ci, cb, cs, cl] at ho
  dsimp only [C_laws_eqRegion, vc, v1, decB, SR.pre] at hx
  simp only [decide_eq_true_eq, decide_eq_false_iff_not, Bool.not_eq_true', Bool.not_eq_false', and_true, true_and, Int.toNat_natCast, exists_eq_left', exists_eq_left, exists_and_left, Int.not_lt, Int.not_le, Bool.false_eq_true, false_implies, implies_true, forall_const, List.length_append, List.length_cons, List.length_nil, Int.sub_add_cancel, Int.add_sub_cancel, and_imp, get_set_iff, forall_eq', forall_eq, List.set_set, mkd_get, mkd_len, List.length_set, Option.some.injEq]; (repeat' first | intro _ | apply And.intro); all_goals (try omega); all_goals (first | grind [cases Img] | (cases a; cases b; simp_all; done) | (obtain ⟨⟨_, _⟩, _⟩ := a; obtain ⟨⟨_, _⟩, _⟩ := b; simp_all; done) | (obtain ⟨_, _, _⟩ := a; obtain ⟨_, _, _⟩ := b; simp_all; done) | (obtain ⟨_, ⟨_, _⟩⟩ := a; obtain ⟨_, ⟨_, _⟩⟩ := b; simp_all; done))
def C_laws_toRegionS : Con := { ps := [.ro (.list (.st .region))], out := fun x => let a : List (Region) := x.1; .req ((a.length : Int) ≤ 1048576) (newL (.st .region) a), det := true }
def G_laws_toRegionS : Cfg := mkG (tyL [(3, .i), (5, .u), (4, .bool), (9, .str), (163, .int .u64), (71, .st .fixup), (24, .st .img), (39, .st .region), (35, .st .mem), (30, .st .patch), (94, .st .hash), (92, .list .i), (90, .list .str), (22, .list .u), (67, .st .fixup), (52, .st .img), (149, .st .region), (55, .st .mem), (101, .st .hash)]) [(150, C_laws_toRegion)] false
def an_laws_toRegionS : PTL C_laws_toRegionS.ps → Nat → Option Ann := fun x kk_ => let a : List (Region) := x.1; if kk_ = 3 then some (.all (Int) fun i => .giv (0 ≤ i ∧ i ≤ a.length) (.mk [(4, ai i), (3, asl 20), (0, al (.st .region) a)] [(20, .row (some 39) (.st .region) (a.take i.toNat ++ List.replicate (a.length - i.toNat) (⟨0, 0, false, false⟩ : Region)) true)] ((a.length - i.toNat)))) else none
set_option maxRecDepth 200000 in
theorem vc_laws_toRegionS (a : List (Region)) : (keeps Try.prog G_laws_toRegionS (an_laws_toRegionS (a, ())) (Try.f109.body.getD .skip) Try.f109.results.toList C_laws_toRegionS (a, ())) = ((((List.length a) ≤ (9223372036854775807 : Nat)) →
 ((((@Nat.cast Int _ (List.length a)) = (@Nat.cast Int _ (List.length a))) ∧
 (((0 : Int) ≤ (@Nat.cast Int _ (List.length a))) ∧
 (((@Nat.cast Int _ (List.length a)) ≤ (1000000000000 : Int)) ∧
 (((@Nat.cast Int _ (24 : Nat)) * (@Nat.cast Int _ (List.length a))) ≤ (140737488355328 : Int))))) ∧
 ((∃ (x_1 : Int), (((0 : Int) = x_1) ∧
 ((@Eq (List Go.Proofs.Ytpdddafaelbgkaa.Region) a a) ∧
 ((@Eq (List Go.Proofs.Ytpdddafaelbgkaa.Region) (@Go.Proofs.Ytpdddafaelbgkaa.repl Go.Proofs.Ytpdddafaelbgkaa.Region (@Nat.cast Int _ (List.length a)) (Go.Proofs.Ytpdddafaelbgkaa.Region.mk (0 : Int) (0 : Int) false false)) ((List.take (Int.toNat x_1) a) ++ (@List.replicate Go.Proofs.Ytpdddafaelbgkaa.Region ((List.length a) - (Int.toNat x_1)) (Go.Proofs.Ytpdddafaelbgkaa.Region.mk (0 : Int) (0 : Int) false false)))) ∧
 ((((0 : Int) ≤ x_1) ∧
 (x_1 ≤ (@Nat.cast Int _ (List.length a)))) ∧
 True))))) ∧
 (∀ (x_2 : Int), ((((0 : Int) ≤ x_2) ∧
 (x_2 ≤ (@Nat.cast Int _ (List.length a)))) →
 (((List.length a) ≤ (9223372036854775807 : Nat)) →
 ((((decide (x_2 < (@Nat.cast Int _ (List.length a)))) = true) →
 ((((0 : Int) ≤ x_2) ∧
 (x_2 < (@Nat.cast Int _ (List.length a)))) ∧
 (∀ (x_3 : Go.Proofs.Ytpdddafaelbgkaa.Region), ((@Eq (Option Go.Proofs.Ytpdddafaelbgkaa.Region) (a)[(Int.toNat x_2)]? (some x_3)) →
 ((Go.Proofs.Ytpdddafaelbgkaa.Ok (Go.Proofs.Ytpdddafaelbgkaa.Ty.st Go.Proofs.Ytpdddafaelbgkaa.SN.region) x_3) →
 ((((0 : Int) ≤ x_2) ∧
 (x_2 < (@Nat.cast Int _ (List.length ((List.take (Int.toNat x_2) a) ++ (@List.replicate Go.Proofs.Ytpdddafaelbgkaa.Region ((List.length a) - (Int.toNat x_2)) (Go.Proofs.Ytpdddafaelbgkaa.Region.mk (0 : Int) (0 : Int) false false))))))) ∧
 (∀ (x_4 : Go.Proofs.Ytpdddafaelbgkaa.Region), ((@Eq (Option Go.Proofs.Ytpdddafaelbgkaa.Region) (((List.take (Int.toNat x_2) a) ++ (@List.replicate Go.Proofs.Ytpdddafaelbgkaa.Region ((List.length a) - (Int.toNat x_2)) (Go.Proofs.Ytpdddafaelbgkaa.Region.mk (0 : Int) (0 : Int) false false))))[(Int.toNat x_2)]? (some x_4)) →
 ((((- (9223372036854775808 : Int)) ≤ (x_2 + (1 : Int))) ∧
 ((x_2 + (1 : Int)) ≤ (9223372036854775807 : Int))) ∧
 (∃ (x_5 : Int), (((x_2 + (1 : Int)) = x_5) ∧
 ((@Eq (List Go.Proofs.Ytpdddafaelbgkaa.Region) a a) ∧
 ((@Eq (List Go.Proofs.Ytpdddafaelbgkaa.Region) (List.set ((List.take (Int.toNat x_2) a) ++ (@List.replicate Go.Proofs.Ytpdddafaelbgkaa.Region ((List.length a) - (Int.toNat x_2)) (Go.Proofs.Ytpdddafaelbgkaa.Region.mk (0 : Int) (0 : Int) false false))) (Int.toNat x_2) x_3) ((List.take (Int.toNat x_5) a) ++ (@List.replicate Go.Proofs.Ytpdddafaelbgkaa.Region ((List.length a) - (Int.toNat x_5)) (Go.Proofs.Ytpdddafaelbgkaa.Region.mk (0 : Int) (0 : Int) false false)))) ∧
 ((((0 : Int) ≤ x_5) ∧
 (x_5 ≤ (@Nat.cast Int _ (List.length a)))) ∧
 (((List.length a) - (Int.toNat x_5)) < ((List.length a) - (Int.toNat x_2))))))))))))))))) ∧
 (((decide (x_2 < (@Nat.cast Int _ (List.length a)))) = false) →
 ((@Eq (List Go.Proofs.Ytpdddafaelbgkaa.Region) ((List.take (Int.toNat x_2) a) ++ (@List.replicate Go.Proofs.Ytpdddafaelbgkaa.Region ((List.length a) - (Int.toNat x_2)) (Go.Proofs.Ytpdddafaelbgkaa.Region.mk (0 : Int) (0 : Int) false false))) a) ∧
 True)))))))))) := by kernel_rfl
theorem det_laws_toRegionS : C_laws_toRegionS.det = true → ∀ x, (C_laws_toRegionS.out x).Det := fun _ x => by simp only [C_laws_toRegionS]; repeat (first | exact Det.ret _ | exact Det.vc' | apply Det.req | apply Det.giv | apply Det.fork | apply Det.bif' | intro _)
set_option maxRecDepth 200000 in
set_option maxHeartbeats 1000000 in
theorem ok_laws_toRegionS : ConOK Try.prog 109 C_laws_toRegionS := by
  refine con_mk (wr := false) (ty := tyL [(3, .i), (5, .u), (4, .bool), (9, .str), (163, .int .u64), (71, .st .fixup), (24, .st .img), (39, .st .region), (35, .st .mem), (30, .st .patch), (94, .st .hash), (92, .list .i), (90, .list .str), (22, .list .u), (67, .st .fixup), (52, .st .img), (149, .st .region), (55, .st .mem), (101, .st .hash)]) (l := [(150, C_laws_toRegion)]) ⟨⟨ok_laws_toRegion, det_laws_toRegion⟩, trivial⟩ Try.checked.mixed (fn := Try.f109) (body := Try.f109.body.getD .skip) Try.func109 rfl (by decide) (by kernel_rfl) rfl an_laws_toRegionS fun x ho hx => ?_
  obtain ⟨a, ⟨⟩⟩ := x
  refine Keeps.of (vc_laws_toRegionS a) ?_
  revert a ho hx
  show ∀ (a : List (Region)), _
  intro a ho hx
  dsimp only [C_laws_toRegionS, okPTL, okPT, Ok, Ty.cells, SN.cells, OkL, OkC, okI, ci, cb, cs, cl] at ho
  dsimp only [C_laws_toRegionS, vc, v1, decB, SR.pre] at hx
  simp only [decide_eq_true_eq, decide_eq_false_iff_not, Bool.not_eq_true', Bool.not_eq_false', and_true, true_and, Int.toNat_natCast, exists_eq_left', exists_eq_left, exists_and_left, Int.not_lt, Int.not_le, Bool.false_eq_true, false_implies, implies_true, forall_const, List.length_append, List.length_cons, List.length_nil, Int.sub_add_cancel, Int.add_sub_cancel, and_imp, get_set_iff, forall_eq', forall_eq, List.set_set, mkd_get, mkd_len, List.length_set, Option.some.injEq]; (repeat' first | intro _ | apply And.intro); all_goals (try omega); all_goals first | exact repl_fill | exact set_fill' ‹_› (by omega) | exact fill_full' (by omega) | (simp only [List.length_take, List.length_replicate, mkd_len, List.length_set, List.length_append]; omega)
def C_laws_szRegionS : Con := { ps := [.ro (.list (.st .region)), .ro .i], out := fun x => let a : List (Region) := x.1; let left : Int := x.2.1; .req (0 ≤ left ∧ left ≤ 1048576) (vc .i (szR a.length left)), det := true }
def G_laws_szRegionS : Cfg := mkG (tyL [(3, .i), (5, .u), (4, .bool), (9, .str), (163, .int .u64), (71, .st .fixup), (24, .st .img), (39, .st .region), (35, .st .mem), (30, .st .patch), (94, .st .hash), (92, .list .i), (90, .list .str), (22, .list .u), (67, .st .fixup), (52, .st .img), (149, .st .region), (55, .st .mem), (101, .st .hash)]) [] false
def an_laws_szRegionS : PTL C_laws_szRegionS.ps → Nat → Option Ann := fun _ _ => none
set_option maxRecDepth 200000 in
theorem vc_laws_szRegionS (a : List (Region)) (left : Int) : (keeps Try.prog G_laws_szRegionS (an_laws_szRegionS (a, left, ())) (Try.f108.body.getD .skip) Try.f108.results.toList C_laws_szRegionS (a, left, ())) = ((((List.length a) ≤ (9223372036854775807 : Nat)) →
 ((((- (9223372036854775808 : Int)) ≤ (left - (@Nat.cast Int _ (List.length a)))) ∧
 ((left - (@Nat.cast Int _ (List.length a))) ≤ (9223372036854775807 : Int))) ∧
 ((((decide ((left - (@Nat.cast Int _ (List.length a))) < (0 : Int))) = true) →
 (((- (1 : Int)) = (Go.Proofs.Ytpdddafaelbgkaa.szR (@Nat.cast Int _ (List.length a)) left)) ∧
 True)) ∧
 (((decide ((left - (@Nat.cast Int _ (List.length a))) < (0 : Int))) = false) →
 (((left - (@Nat.cast Int _ (List.length a))) = (Go.Proofs.Ytpdddafaelbgkaa.szR (@Nat.cast Int _ (List.length a)) left)) ∧
 True)))))) := by kernel_rfl
theorem det_laws_szRegionS : C_laws_szRegionS.det = true → ∀ x, (C_laws_szRegionS.out x).Det := fun _ x => by simp only [C_laws_szRegionS]; repeat (first | exact Det.ret _ | exact Det.vc' | apply Det.req | apply Det.giv | apply Det.fork | apply Det.bif' | intro _)
set_option maxRecDepth 200000 in
set_option maxHeartbeats 1000000 in
theorem ok_laws_szRegionS : ConOK Try.prog 108 C_laws_szRegionS := by
  refine con_mk (wr := false) (ty := tyL [(3, .i), (5, .u), (4, .bool), (9, .str), (163, .int .u64), (71, .st .fixup), (24, .st .img), (39, .st .region), (35, .st .mem), (30, .st .patch), (94, .st .hash), (92, .list .i), (90, .list .str), (22, .list .u), (67, .st .fixup), (52, .st .img), (149, .st .region), (55, .st .mem), (101, .st .hash)]) (l := []) trivial Try.checked.mixed (fn := Try.f108) (body := Try.f108.body.getD .skip) Try.func108 rfl (by decide) (by kernel_rfl) rfl an_laws_szRegionS fun x ho hx => ?_
  obtain ⟨a, left, ⟨⟩⟩ := x
  refine Keeps.of (vc_laws_szRegionS a left) ?_
  revert a left ho hx
  show ∀ (a : List (Region)) (left : Int), _
  intro a left ho hx
  dsimp only [C_laws_szRegionS, okPTL, okPT, Ok, Ty.cells, SN.cells, OkL, OkC, okI, ci, cb, cs, cl] at ho
  dsimp only [C_laws_szRegionS, vc, v1, decB, SR.pre] at hx
  simp only [decide_eq_true_eq, decide_eq_false_iff_not, Bool.not_eq_true', Bool.not_eq_false', and_true, true_and, Int.toNat_natCast, exists_eq_left', exists_eq_left, exists_and_left, Int.not_lt, Int.not_le, Bool.false_eq_true, false_implies, implies_true, forall_const, List.length_append, List.length_cons, List.length_nil, Int.sub_add_cancel, Int.add_sub_cancel, and_imp, get_set_iff, forall_eq', forall_eq, List.set_set, mkd_get, mkd_len, List.length_set, Option.some.injEq]; (repeat' first | intro _ | apply And.intro); all_goals (try omega); all_goals (unfold szR; split <;> omega)
def C_laws_eqRegionS : Con := { ps := [.ro (.list (.st .region)), .ro (.list (.st .region))], out := fun x => let a : List (Region) := x.1; let b : List (Region) := x.2.1; vc .bool (decide (a = b)), det := true }
def G_laws_eqRegionS : Cfg := mkG (tyL [(3, .i), (5, .u), (4, .bool), (9, .str), (163, .int .u64), (71, .st .fixup), (24, .st .img), (39, .st .region), (35, .st .mem), (30, .st .patch), (94, .st .hash), (92, .list .i), (90, .list .str), (22, .list .u), (67, .st .fixup), (52, .st .img), (149, .st .region), (55, .st .mem), (101, .st .hash)]) [(151, C_laws_eqRegion)] false
def an_laws_eqRegionS : PTL C_laws_eqRegionS.ps → Nat → Option Ann := fun x kk_ => let a : List (Region) := x.1; let b : List (Region) := x.2.1; if kk_ = 4 then some (.all (Int) fun i => .giv (0 ≤ i ∧ i ≤ a.length ∧ a.length = b.length ∧ a.take i.toNat = b.take i.toNat) (.mk [(5, ai i), (0, al (.st .region) a), (1, al (.st .region) b)] [] ((a.length - i.toNat)))) else none
set_option maxRecDepth 200000 in
theorem vc_laws_eqRegionS (a : List (Region)) (b : List (Region)) : (keeps Try.prog G_laws_eqRegionS (an_laws_eqRegionS (a, b, ())) (Try.f110.body.getD .skip) Try.f110.results.toList C_laws_eqRegionS (a, b, ())) = ((((List.length a) ≤ (9223372036854775807 : Nat)) →
 (((List.length b) ≤ (9223372036854775807 : Nat)) →
 ((((decide ((@Nat.cast Int _ (List.length a)) ≠ (@Nat.cast Int _ (List.length b)))) = true) →
 ((false = (decide (@Eq (List Go.Proofs.Ytpdddafaelbgkaa.Region) a b))) ∧
 True)) ∧
 (((decide ((@Nat.cast Int _ (List.length a)) ≠ (@Nat.cast Int _ (List.length b)))) = false) →
 ((∃ (x_1 : Int), (((0 : Int) = x_1) ∧
 ((@Eq (List Go.Proofs.Ytpdddafaelbgkaa.Region) a a) ∧
 ((@Eq (List Go.Proofs.Ytpdddafaelbgkaa.Region) b b) ∧
 ((((0 : Int) ≤ x_1) ∧
 ((x_1 ≤ (@Nat.cast Int _ (List.length a))) ∧
 (((List.length a) = (List.length b)) ∧
 (@Eq (List Go.Proofs.Ytpdddafaelbgkaa.Region) (List.take (Int.toNat x_1) a) (List.take (Int.toNat x_1) b))))) ∧
 True))))) ∧
 (∀ (x_2 : Int), ((((0 : Int) ≤ x_2) ∧
 ((x_2 ≤ (@Nat.cast Int _ (List.length a))) ∧
 (((List.length a) = (List.length b)) ∧
 (@Eq (List Go.Proofs.Ytpdddafaelbgkaa.Region) (List.take (Int.toNat x_2) a) (List.take (Int.toNat x_2) b))))) →
 (((List.length a) ≤ (9223372036854775807 : Nat)) →
 ((((decide (x_2 < (@Nat.cast Int _ (List.length a)))) = true) →
 ((((0 : Int) ≤ x_2) ∧
 (x_2 < (@Nat.cast Int _ (List.length a)))) ∧
 (∀ (x_3 : Go.Proofs.Ytpdddafaelbgkaa.Region), ((@Eq (Option Go.Proofs.Ytpdddafaelbgkaa.Region) (a)[(Int.toNat x_2)]? (some x_3)) →
 ((Go.Proofs.Ytpdddafaelbgkaa.Ok (Go.Proofs.Ytpdddafaelbgkaa.Ty.st Go.Proofs.Ytpdddafaelbgkaa.SN.region) x_3) →
 ((((0 : Int) ≤ x_2) ∧
 (x_2 < (@Nat.cast Int _ (List.length b)))) ∧
 (∀ (x_4 : Go.Proofs.Ytpdddafaelbgkaa.Region), ((@Eq (Option Go.Proofs.Ytpdddafaelbgkaa.Region) (b)[(Int.toNat x_2)]? (some x_4)) →
 ((Go.Proofs.Ytpdddafaelbgkaa.Ok (Go.Proofs.Ytpdddafaelbgkaa.Ty.st Go.Proofs.Ytpdddafaelbgkaa.SN.region) x_4) →
 ((((Bool.not (decide (@Eq Go.Proofs.Ytpdddafaelbgkaa.Region x_3 x_4))) = true) →
 ((false = (decide (@Eq (List Go.Proofs.Ytpdddafaelbgkaa.Region) a b))) ∧
 True)) ∧
 (((Bool.not (decide (@Eq Go.Proofs.Ytpdddafaelbgkaa.Region x_3 x_4))) = false) →
 ((((- (9223372036854775808 : Int)) ≤ (x_2 + (1 : Int))) ∧
 ((x_2 + (1 : Int)) ≤ (9223372036854775807 : Int))) ∧
 (∃ (x_5 : Int), (((x_2 + (1 : Int)) = x_5) ∧
 ((@Eq (List Go.Proofs.Ytpdddafaelbgkaa.Region) a a) ∧
 ((@Eq (List Go.Proofs.Ytpdddafaelbgkaa.Region) b b) ∧
 ((((0 : Int) ≤ x_5) ∧
 ((x_5 ≤ (@Nat.cast Int _ (List.length a))) ∧
 (((List.length a) = (List.length b)) ∧
 (@Eq (List Go.Proofs.Ytpdddafaelbgkaa.Region) (List.take (Int.toNat x_5) a) (List.take (Int.toNat x_5) b))))) ∧
 (((List.length a) - (Int.toNat x_5)) < ((List.length a) - (Int.toNat x_2)))))))))))))))))))) ∧
 (((decide (x_2 < (@Nat.cast Int _ (List.length a)))) = false) →
 ((true = (decide (@Eq (List Go.Proofs.Ytpdddafaelbgkaa.Region) a b))) ∧
 True)))))))))))) := by kernel_rfl
theorem det_laws_eqRegionS : C_laws_eqRegionS.det = true → ∀ x, (C_laws_eqRegionS.out x).Det := fun _ x => by simp only [C_laws_eqRegionS]; repeat (first | exact Det.ret _ | exact Det.vc' | apply Det.req | apply Det.giv | apply Det.fork | apply Det.bif' | intro _)
set_option maxRecDepth 200000 in
set_option maxHeartbeats 1000000 in
theorem ok_laws_eqRegionS : ConOK Try.prog 110 C_laws_eqRegionS := by
  refine con_mk (wr := false) (ty := tyL [(3, .i), (5, .u), (4, .bool), (9, .str), (163, .int .u64), (71, .st .fixup), (24, .st .img), (39, .st .region), (35, .st .mem), (30, .st .patch), (94, .st .hash), (92, .list .i), (90, .list .str), (22, .list .u), (67, .st .fixup), (52, .st .img), (149, .st .region), (55, .st .mem), (101, .st .hash)]) (l := [(151, C_laws_eqRegion)]) ⟨⟨ok_laws_eqRegion, det_laws_eqRegion⟩, trivial⟩ Try.checked.mixed (fn := Try.f110) (body := Try.f110.body.getD .skip) Try.func110 rfl (by decide) (by kernel_rfl) rfl an_laws_eqRegionS fun x ho hx => ?_
  obtain ⟨a, b, ⟨⟩⟩ := x
  refine Keeps.of (vc_laws_eqRegionS a b) ?_
  revert a b ho hx
  show ∀ (a : List (Region)) (b : List (Region)), _
  intro a b ho hx
  dsimp only [C_laws_eqRegionS, okPTL, okPT, Ok, Ty.cells, SN.cells, OkL, OkC, okI, ci, cb, cs, cl] at ho
  dsimp only [C_laws_eqRegionS, vc, v1, decB, SR.pre] at hx
  simp only [decide_eq_true_eq, decide_eq_false_iff_not, Bool.not_eq_true', Bool.not_eq_false', and_true, true_and, Int.toNat_natCast, exists_eq_left', exists_eq_left, exists_and_left, Int.not_lt, Int.not_le, Bool.false_eq_true, false_implies, implies_true, forall_const, List.length_append, List.length_cons, List.length_nil, Int.sub_add_cancel, Int.add_sub_cancel, and_imp, get_set_iff, forall_eq', forall_eq, List.set_set, mkd_get, mkd_len, List.length_set, Option.some.injEq]; (repeat' first | intro _ | apply And.intro); all_goals (try omega); all_goals first | grind [take_all', take_next, take_diff] | exact take_next2 (by omega) (by assumption) (by assumption) (by assumption) (by assumption) | exact take_diff2 (by assumption) (by assumption) (by assumption)
def C_laws_markRegionS : Con := { ps := [.row none (.st .region), .ro .i], out := fun x => let a : List (Region) := x.1; let k : Int := x.2.1; .req (0 ≤ k ∧ k + sumI c4 a ≤ 1000000000000) (turnL (.st .region) (mkL mkRg c4 a k) (k + sumI c4 a)), det := true }
def G_laws_markRegionS : Cfg := mkG (tyL [(3, .i), (5, .u), (4, .bool), (9, .str), (163, .int .u64), (71, .st .fixup), (24, .st .img), (39, .st .region), (35, .st .mem), (30, .st .patch), (94, .st .hash), (92, .list .i), (90, .list .str), (22, .list .u), (67, .st .fixup), (52, .st .img), (149, .st .region), (55, .st .mem), (101, .st .hash)]) [] false
def an_laws_markRegionS : PTL C_laws_markRegionS.ps → Nat → Option Ann := fun x kk_ => let a : List (Region) := x.1; let k : Int := x.2.1; if kk_ = 2 then some (.all (Int) fun i => .giv (0 ≤ i ∧ i ≤ a.length) (.mk [(5, ai i), (1, ai (k + sumI c4 (a.take i.toNat))), (0, asl 0)] [(0, .row none (.st .region) (mkd mkRg c4 a k i.toNat) true)] ((a.length - i.toNat)))) else none
set_option maxRecDepth 200000 in
theorem vc_laws_markRegionS (a : List (Region)) (k : Int) : (keeps Try.prog G_laws_markRegionS (an_laws_markRegionS (a, k, ())) (Try.f123.body.getD .skip) Try.f123.results.toList C_laws_markRegionS (a, k, ())) = (((∃ (x_1 : Int), (((0 : Int) = x_1) ∧
 ((k = (k + (@Go.Proofs.Ytpdddafaelbgkaa.sumI Go.Proofs.Ytpdddafaelbgkaa.Region (@Go.Proofs.Ytpdddafaelbgkaa.c4 Go.Proofs.Ytpdddafaelbgkaa.Region) (List.take (Int.toNat x_1) a)))) ∧
 ((@Eq (List Go.Proofs.Ytpdddafaelbgkaa.Region) a (@Go.Proofs.Ytpdddafaelbgkaa.mkd Go.Proofs.Ytpdddafaelbgkaa.Region Go.Proofs.Ytpdddafaelbgkaa.mkRg (@Go.Proofs.Ytpdddafaelbgkaa.c4 Go.Proofs.Ytpdddafaelbgkaa.Region) a k (Int.toNat x_1))) ∧
 ((((0 : Int) ≤ x_1) ∧
 (x_1 ≤ (@Nat.cast Int _ (List.length a)))) ∧
 True))))) ∧
 (∀ (x_2 : Int), ((((0 : Int) ≤ x_2) ∧
 (x_2 ≤ (@Nat.cast Int _ (List.length a)))) →
 (((List.length (@Go.Proofs.Ytpdddafaelbgkaa.mkd Go.Proofs.Ytpdddafaelbgkaa.Region Go.Proofs.Ytpdddafaelbgkaa.mkRg (@Go.Proofs.Ytpdddafaelbgkaa.c4 Go.Proofs.Ytpdddafaelbgkaa.Region) a k (Int.toNat x_2))) ≤ (9223372036854775807 : Nat)) →
 ((((decide (x_2 < (@Nat.cast Int _ (List.length (@Go.Proofs.Ytpdddafaelbgkaa.mkd Go.Proofs.Ytpdddafaelbgkaa.Region Go.Proofs.Ytpdddafaelbgkaa.mkRg (@Go.Proofs.Ytpdddafaelbgkaa.c4 Go.Proofs.Ytpdddafaelbgkaa.Region) a k (Int.toNat x_2)))))) = true) →
 ((((0 : Int) ≤ x_2) ∧
 (x_2 < (@Nat.cast Int _ (List.length (@Go.Proofs.Ytpdddafaelbgkaa.mkd Go.Proofs.Ytpdddafaelbgkaa.Region Go.Proofs.Ytpdddafaelbgkaa.mkRg (@Go.Proofs.Ytpdddafaelbgkaa.c4 Go.Proofs.Ytpdddafaelbgkaa.Region) a k (Int.toNat x_2)))))) ∧
 (∀ (x_3 : Go.Proofs.Ytpdddafaelbgkaa.Region), ((@Eq (Option Go.Proofs.Ytpdddafaelbgkaa.Region) ((@Go.Proofs.Ytpdddafaelbgkaa.mkd Go.Proofs.Ytpdddafaelbgkaa.Region Go.Proofs.Ytpdddafaelbgkaa.mkRg (@Go.Proofs.Ytpdddafaelbgkaa.c4 Go.Proofs.Ytpdddafaelbgkaa.Region) a k (Int.toNat x_2)))[(Int.toNat x_2)]? (some x_3)) →
 ((((- (9223372036854775808 : Int)) ≤ ((k + (@Go.Proofs.Ytpdddafaelbgkaa.sumI Go.Proofs.Ytpdddafaelbgkaa.Region (@Go.Proofs.Ytpdddafaelbgkaa.c4 Go.Proofs.Ytpdddafaelbgkaa.Region) (List.take (Int.toNat x_2) a))) + (1 : Int))) ∧
 (((k + (@Go.Proofs.Ytpdddafaelbgkaa.sumI Go.Proofs.Ytpdddafaelbgkaa.Region (@Go.Proofs.Ytpdddafaelbgkaa.c4 Go.Proofs.Ytpdddafaelbgkaa.Region) (List.take (Int.toNat x_2) a))) + (1 : Int)) ≤ (9223372036854775807 : Int))) ∧
 ((((0 : Int) ≤ x_2) ∧
 (x_2 < (@Nat.cast Int _ (List.length (List.set (@Go.Proofs.Ytpdddafaelbgkaa.mkd Go.Proofs.Ytpdddafaelbgkaa.Region Go.Proofs.Ytpdddafaelbgkaa.mkRg (@Go.Proofs.Ytpdddafaelbgkaa.c4 Go.Proofs.Ytpdddafaelbgkaa.Region) a k (Int.toNat x_2)) (Int.toNat x_2) (Go.Proofs.Ytpdddafaelbgkaa.Region.mk (k + (@Go.Proofs.Ytpdddafaelbgkaa.sumI Go.Proofs.Ytpdddafaelbgkaa.Region (@Go.Proofs.Ytpdddafaelbgkaa.c4 Go.Proofs.Ytpdddafaelbgkaa.Region) (List.take (Int.toNat x_2) a))) (Go.Proofs.Ytpdddafaelbgkaa.Region.to x_3) (Go.Proofs.Ytpdddafaelbgkaa.Region.write x_3) (Go.Proofs.Ytpdddafaelbgkaa.Region.run x_3))))))) ∧
 (∀ (x_4 : Go.Proofs.Ytpdddafaelbgkaa.Region), ((@Eq (Option Go.Proofs.Ytpdddafaelbgkaa.Region) ((List.set (@Go.Proofs.Ytpdddafaelbgkaa.mkd Go.Proofs.Ytpdddafaelbgkaa.Region Go.Proofs.Ytpdddafaelbgkaa.mkRg (@Go.Proofs.Ytpdddafaelbgkaa.c4 Go.Proofs.Ytpdddafaelbgkaa.Region) a k (Int.toNat x_2)) (Int.toNat x_2) (Go.Proofs.Ytpdddafaelbgkaa.Region.mk (k + (@Go.Proofs.Ytpdddafaelbgkaa.sumI Go.Proofs.Ytpdddafaelbgkaa.Region (@Go.Proofs.Ytpdddafaelbgkaa.c4 Go.Proofs.Ytpdddafaelbgkaa.Region) (List.take (Int.toNat x_2) a))) (Go.Proofs.Ytpdddafaelbgkaa.Region.to x_3) (Go.Proofs.Ytpdddafaelbgkaa.Region.write x_3) (Go.Proofs.Ytpdddafaelbgkaa.Region.run x_3))))[(Int.toNat x_2)]? (some x_4)) →
 ((((- (9223372036854775808 : Int)) ≤ (((k + (@Go.Proofs.Ytpdddafaelbgkaa.sumI Go.Proofs.Ytpdddafaelbgkaa.Region (@Go.Proofs.Ytpdddafaelbgkaa.c4 Go.Proofs.Ytpdddafaelbgkaa.Region) (List.take (Int.toNat x_2) a))) + (1 : Int)) + (1 : Int))) ∧
 ((((k + (@Go.Proofs.Ytpdddafaelbgkaa.sumI Go.Proofs.Ytpdddafaelbgkaa.Region (@Go.Proofs.Ytpdddafaelbgkaa.c4 Go.Proofs.Ytpdddafaelbgkaa.Region) (List.take (Int.toNat x_2) a))) + (1 : Int)) + (1 : Int)) ≤ (9223372036854775807 : Int))) ∧
 ((((0 : Int) ≤ (((k + (@Go.Proofs.Ytpdddafaelbgkaa.sumI Go.Proofs.Ytpdddafaelbgkaa.Region (@Go.Proofs.Ytpdddafaelbgkaa.c4 Go.Proofs.Ytpdddafaelbgkaa.Region) (List.take (Int.toNat x_2) a))) + (1 : Int)) + (1 : Int))) ∧
 ((0 : Int) < (3 : Int))) ∧
 ((((0 : Int) ≤ x_2) ∧
 (x_2 < (@Nat.cast Int _ (List.length (List.set (List.set (@Go.Proofs.Ytpdddafaelbgkaa.mkd Go.Proofs.Ytpdddafaelbgkaa.Region Go.Proofs.Ytpdddafaelbgkaa.mkRg (@Go.Proofs.Ytpdddafaelbgkaa.c4 Go.Proofs.Ytpdddafaelbgkaa.Region) a k (Int.toNat x_2)) (Int.toNat x_2) (Go.Proofs.Ytpdddafaelbgkaa.Region.mk (k + (@Go.Proofs.Ytpdddafaelbgkaa.sumI Go.Proofs.Ytpdddafaelbgkaa.Region (@Go.Proofs.Ytpdddafaelbgkaa.c4 Go.Proofs.Ytpdddafaelbgkaa.Region) (List.take (Int.toNat x_2) a))) (Go.Proofs.Ytpdddafaelbgkaa.Region.to x_3) (Go.Proofs.Ytpdddafaelbgkaa.Region.write x_3) (Go.Proofs.Ytpdddafaelbgkaa.Region.run x_3))) (Int.toNat x_2) (Go.Proofs.Ytpdddafaelbgkaa.Region.mk (Go.Proofs.Ytpdddafaelbgkaa.Region.from_ x_4) ((k + (@Go.Proofs.Ytpdddafaelbgkaa.sumI Go.Proofs.Ytpdddafaelbgkaa.Region (@Go.Proofs.Ytpdddafaelbgkaa.c4 Go.Proofs.Ytpdddafaelbgkaa.Region) (List.take (Int.toNat x_2) a))) + (1 : Int)) (Go.Proofs.Ytpdddafaelbgkaa.Region.write x_4) (Go.Proofs.Ytpdddafaelbgkaa.Region.run x_4))))))) ∧
 (∀ (x_5 : Go.Proofs.Ytpdddafaelbgkaa.Region), ((@Eq (Option Go.Proofs.Ytpdddafaelbgkaa.Region) ((List.set (List.set (@Go.Proofs.Ytpdddafaelbgkaa.mkd Go.Proofs.Ytpdddafaelbgkaa.Region Go.Proofs.Ytpdddafaelbgkaa.mkRg (@Go.Proofs.Ytpdddafaelbgkaa.c4 Go.Proofs.Ytpdddafaelbgkaa.Region) a k (Int.toNat x_2)) (Int.toNat x_2) (Go.Proofs.Ytpdddafaelbgkaa.Region.mk (k + (@Go.Proofs.Ytpdddafaelbgkaa.sumI Go.Proofs.Ytpdddafaelbgkaa.Region (@Go.Proofs.Ytpdddafaelbgkaa.c4 Go.Proofs.Ytpdddafaelbgkaa.Region) (List.take (Int.toNat x_2) a))) (Go.Proofs.Ytpdddafaelbgkaa.Region.to x_3) (Go.Proofs.Ytpdddafaelbgkaa.Region.write x_3) (Go.Proofs.Ytpdddafaelbgkaa.Region.run x_3))) (Int.toNat x_2) (Go.Proofs.Ytpdddafaelbgkaa.Region.mk (Go.Proofs.Ytpdddafaelbgkaa.Region.from_ x_4) ((k + (@Go.Proofs.Ytpdddafaelbgkaa.sumI Go.Proofs.Ytpdddafaelbgkaa.Region (@Go.Proofs.Ytpdddafaelbgkaa.c4 Go.Proofs.Ytpdddafaelbgkaa.Region) (List.take (Int.toNat x_2) a))) + (1 : Int)) (Go.Proofs.Ytpdddafaelbgkaa.Region.write x_4) (Go.Proofs.Ytpdddafaelbgkaa.Region.run x_4))))[(Int.toNat x_2)]? (some x_5)) →
 ((((- (9223372036854775808 : Int)) ≤ ((((k + (@Go.Proofs.Ytpdddafaelbgkaa.sumI Go.Proofs.Ytpdddafaelbgkaa.Region (@Go.Proofs.Ytpdddafaelbgkaa.c4 Go.Proofs.Ytpdddafaelbgkaa.Region) (List.take (Int.toNat x_2) a))) + (1 : Int)) + (1 : Int)) + (1 : Int))) ∧
 (((((k + (@Go.Proofs.Ytpdddafaelbgkaa.sumI Go.Proofs.Ytpdddafaelbgkaa.Region (@Go.Proofs.Ytpdddafaelbgkaa.c4 Go.Proofs.Ytpdddafaelbgkaa.Region) (List.take (Int.toNat x_2) a))) + (1 : Int)) + (1 : Int)) + (1 : Int)) ≤ (9223372036854775807 : Int))) ∧
 ((((0 : Int) ≤ ((((k + (@Go.Proofs.Ytpdddafaelbgkaa.sumI Go.Proofs.Ytpdddafaelbgkaa.Region (@Go.Proofs.Ytpdddafaelbgkaa.c4 Go.Proofs.Ytpdddafaelbgkaa.Region) (List.take (Int.toNat x_2) a))) + (1 : Int)) + (1 : Int)) + (1 : Int))) ∧
 ((0 : Int) < (3 : Int))) ∧
 ((((0 : Int) ≤ x_2) ∧
 (x_2 < (@Nat.cast Int _ (List.length (List.set (List.set (List.set (@Go.Proofs.Ytpdddafaelbgkaa.mkd Go.Proofs.Ytpdddafaelbgkaa.Region Go.Proofs.Ytpdddafaelbgkaa.mkRg (@Go.Proofs.Ytpdddafaelbgkaa.c4 Go.Proofs.Ytpdddafaelbgkaa.Region) a k (Int.toNat x_2)) (Int.toNat x_2) (Go.Proofs.Ytpdddafaelbgkaa.Region.mk (k + (@Go.Proofs.Ytpdddafaelbgkaa.sumI Go.Proofs.Ytpdddafaelbgkaa.Region (@Go.Proofs.Ytpdddafaelbgkaa.c4 Go.Proofs.Ytpdddafaelbgkaa.Region) (List.take (Int.toNat x_2) a))) (Go.Proofs.Ytpdddafaelbgkaa.Region.to x_3) (Go.Proofs.Ytpdddafaelbgkaa.Region.write x_3) (Go.Proofs.Ytpdddafaelbgkaa.Region.run x_3))) (Int.toNat x_2) (Go.Proofs.Ytpdddafaelbgkaa.Region.mk (Go.Proofs.Ytpdddafaelbgkaa.Region.from_ x_4) ((k + (@Go.Proofs.Ytpdddafaelbgkaa.sumI Go.Proofs.Ytpdddafaelbgkaa.Region (@Go.Proofs.Ytpdddafaelbgkaa.c4 Go.Proofs.Ytpdddafaelbgkaa.Region) (List.take (Int.toNat x_2) a))) + (1 : Int)) (Go.Proofs.Ytpdddafaelbgkaa.Region.write x_4) (Go.Proofs.Ytpdddafaelbgkaa.Region.run x_4))) (Int.toNat x_2) (Go.Proofs.Ytpdddafaelbgkaa.Region.mk (Go.Proofs.Ytpdddafaelbgkaa.Region.from_ x_5) (Go.Proofs.Ytpdddafaelbgkaa.Region.to x_5) (decide (((((k + (@Go.Proofs.Ytpdddafaelbgkaa.sumI Go.Proofs.Ytpdddafaelbgkaa.Region (@Go.Proofs.Ytpdddafaelbgkaa.c4 Go.Proofs.Ytpdddafaelbgkaa.Region) (List.take (Int.toNat x_2) a))) + (1 : Int)) + (1 : Int)) % (3 : Int)) = (0 : Int))) (Go.Proofs.Ytpdddafaelbgkaa.Region.run x_5))))))) ∧
 (∀ (x_6 : Go.Proofs.Ytpdddafaelbgkaa.Region), ((@Eq (Option Go.Proofs.Ytpdddafaelbgkaa.Region) ((List.set (List.set (List.set (@Go.Proofs.Ytpdddafaelbgkaa.mkd Go.Proofs.Ytpdddafaelbgkaa.Region Go.Proofs.Ytpdddafaelbgkaa.mkRg (@Go.Proofs.Ytpdddafaelbgkaa.c4 Go.Proofs.Ytpdddafaelbgkaa.Region) a k (Int.toNat x_2)) (Int.toNat x_2) (Go.Proofs.Ytpdddafaelbgkaa.Region.mk (k + (@Go.Proofs.Ytpdddafaelbgkaa.sumI Go.Proofs.Ytpdddafaelbgkaa.Region (@Go.Proofs.Ytpdddafaelbgkaa.c4 Go.Proofs.Ytpdddafaelbgkaa.Region) (List.take (Int.toNat x_2) a))) (Go.Proofs.Ytpdddafaelbgkaa.Region.to x_3) (Go.Proofs.Ytpdddafaelbgkaa.Region.write x_3) (Go.Proofs.Ytpdddafaelbgkaa.Region.run x_3))) (Int.toNat x_2) (Go.Proofs.Ytpdddafaelbgkaa.Region.mk (Go.Proofs.Ytpdddafaelbgkaa.Region.from_ x_4) ((k + (@Go.Proofs.Ytpdddafaelbgkaa.sumI Go.Proofs.Ytpdddafaelbgkaa.Region (@Go.Proofs.Ytpdddafaelbgkaa.c4 Go.Proofs.Ytpdddafaelbgkaa.Region) (List.take (Int.toNat x_2) a))) + (1 : Int)) (Go.Proofs.Ytpdddafaelbgkaa.Region.write x_4) (Go.Proofs.Ytpdddafaelbgkaa.Region.run x_4))) (Int.toNat x_2) (Go.Proofs.Ytpdddafaelbgkaa.Region.mk (Go.Proofs.Ytpdddafaelbgkaa.Region.from_ x_5) (Go.Proofs.Ytpdddafaelbgkaa.Region.to x_5) (decide (((((k + (@Go.Proofs.Ytpdddafaelbgkaa.sumI Go.Proofs.Ytpdddafaelbgkaa.Region (@Go.Proofs.Ytpdddafaelbgkaa.c4 Go.Proofs.Ytpdddafaelbgkaa.Region) (List.take (Int.toNat x_2) a))) + (1 : Int)) + (1 : Int)) % (3 : Int)) = (0 : Int))) (Go.Proofs.Ytpdddafaelbgkaa.Region.run x_5))))[(Int.toNat x_2)]? (some x_6)) →
 ((((- (9223372036854775808 : Int)) ≤ (((((k + (@Go.Proofs.Ytpdddafaelbgkaa.sumI Go.Proofs.Ytpdddafaelbgkaa.Region (@Go.Proofs.Ytpdddafaelbgkaa.c4 Go.Proofs.Ytpdddafaelbgkaa.Region) (List.take (Int.toNat x_2) a))) + (1 : Int)) + (1 : Int)) + (1 : Int)) + (1 : Int))) ∧
 ((((((k + (@Go.Proofs.Ytpdddafaelbgkaa.sumI Go.Proofs.Ytpdddafaelbgkaa.Region (@Go.Proofs.Ytpdddafaelbgkaa.c4 Go.Proofs.Ytpdddafaelbgkaa.Region) (List.take (Int.toNat x_2) a))) + (1 : Int)) + (1 : Int)) + (1 : Int)) + (1 : Int)) ≤ (9223372036854775807 : Int))) ∧
 ((((- (9223372036854775808 : Int)) ≤ (x_2 + (1 : Int))) ∧
 ((x_2 + (1 : Int)) ≤ (9223372036854775807 : Int))) ∧
 (∃ (x_7 : Int), (((x_2 + (1 : Int)) = x_7) ∧
 (((((((k + (@Go.Proofs.Ytpdddafaelbgkaa.sumI Go.Proofs.Ytpdddafaelbgkaa.Region (@Go.Proofs.Ytpdddafaelbgkaa.c4 Go.Proofs.Ytpdddafaelbgkaa.Region) (List.take (Int.toNat x_2) a))) + (1 : Int)) + (1 : Int)) + (1 : Int)) + (1 : Int)) = (k + (@Go.Proofs.Ytpdddafaelbgkaa.sumI Go.Proofs.Ytpdddafaelbgkaa.Region (@Go.Proofs.Ytpdddafaelbgkaa.c4 Go.Proofs.Ytpdddafaelbgkaa.Region) (List.take (Int.toNat x_7) a)))) ∧
 ((@Eq (List Go.Proofs.Ytpdddafaelbgkaa.Region) (List.set (List.set (List.set (List.set (@Go.Proofs.Ytpdddafaelbgkaa.mkd Go.Proofs.Ytpdddafaelbgkaa.Region Go.Proofs.Ytpdddafaelbgkaa.mkRg (@Go.Proofs.Ytpdddafaelbgkaa.c4 Go.Proofs.Ytpdddafaelbgkaa.Region) a k (Int.toNat x_2)) (Int.toNat x_2) (Go.Proofs.Ytpdddafaelbgkaa.Region.mk (k + (@Go.Proofs.Ytpdddafaelbgkaa.sumI Go.Proofs.Ytpdddafaelbgkaa.Region (@Go.Proofs.Ytpdddafaelbgkaa.c4 Go.Proofs.Ytpdddafaelbgkaa.Region) (List.take (Int.toNat x_2) a))) (Go.Proofs.Ytpdddafaelbgkaa.Region.to x_3) (Go.Proofs.Ytpdddafaelbgkaa.Region.write x_3) (Go.Proofs.Ytpdddafaelbgkaa.Region.run x_3))) (Int.toNat x_2) (Go.Proofs.Ytpdddafaelbgkaa.Region.mk (Go.Proofs.Ytpdddafaelbgkaa.Region.from_ x_4) ((k + (@Go.Proofs.Ytpdddafaelbgkaa.sumI Go.Proofs.Ytpdddafaelbgkaa.Region (@Go.Proofs.Ytpdddafaelbgkaa.c4 Go.Proofs.Ytpdddafaelbgkaa.Region) (List.take (Int.toNat x_2) a))) + (1 : Int)) (Go.Proofs.Ytpdddafaelbgkaa.Region.write x_4) (Go.Proofs.Ytpdddafaelbgkaa.Region.run x_4))) (Int.toNat x_2) (Go.Proofs.Ytpdddafaelbgkaa.Region.mk (Go.Proofs.Ytpdddafaelbgkaa.Region.from_ x_5) (Go.Proofs.Ytpdddafaelbgkaa.Region.to x_5) (decide (((((k + (@Go.Proofs.Ytpdddafaelbgkaa.sumI Go.Proofs.Ytpdddafaelbgkaa.Region (@Go.Proofs.Ytpdddafaelbgkaa.c4 Go.Proofs.Ytpdddafaelbgkaa.Region) (List.take (Int.toNat x_2) a))) + (1 : Int)) + (1 : Int)) % (3 : Int)) = (0 : Int))) (Go.Proofs.Ytpdddafaelbgkaa.Region.run x_5))) (Int.toNat x_2) (Go.Proofs.Ytpdddafaelbgkaa.Region.mk (Go.Proofs.Ytpdddafaelbgkaa.Region.from_ x_6) (Go.Proofs.Ytpdddafaelbgkaa.Region.to x_6) (Go.Proofs.Ytpdddafaelbgkaa.Region.write x_6) (decide ((((((k + (@Go.Proofs.Ytpdddafaelbgkaa.sumI Go.Proofs.Ytpdddafaelbgkaa.Region (@Go.Proofs.Ytpdddafaelbgkaa.c4 Go.Proofs.Ytpdddafaelbgkaa.Region) (List.take (Int.toNat x_2) a))) + (1 : Int)) + (1 : Int)) + (1 : Int)) % (3 : Int)) = (0 : Int))))) (@Go.Proofs.Ytpdddafaelbgkaa.mkd Go.Proofs.Ytpdddafaelbgkaa.Region Go.Proofs.Ytpdddafaelbgkaa.mkRg (@Go.Proofs.Ytpdddafaelbgkaa.c4 Go.Proofs.Ytpdddafaelbgkaa.Region) a k (Int.toNat x_7))) ∧
 ((((0 : Int) ≤ x_7) ∧
 (x_7 ≤ (@Nat.cast Int _ (List.length a)))) ∧
 (((List.length a) - (Int.toNat x_7)) < ((List.length a) - (Int.toNat x_2)))))))))))))))))))))))))))) ∧
 (((decide (x_2 < (@Nat.cast Int _ (List.length (@Go.Proofs.Ytpdddafaelbgkaa.mkd Go.Proofs.Ytpdddafaelbgkaa.Region Go.Proofs.Ytpdddafaelbgkaa.mkRg (@Go.Proofs.Ytpdddafaelbgkaa.c4 Go.Proofs.Ytpdddafaelbgkaa.Region) a k (Int.toNat x_2)))))) = false) →
 (((k + (@Go.Proofs.Ytpdddafaelbgkaa.sumI Go.Proofs.Ytpdddafaelbgkaa.Region (@Go.Proofs.Ytpdddafaelbgkaa.c4 Go.Proofs.Ytpdddafaelbgkaa.Region) (List.take (Int.toNat x_2) a))) = (k + (@Go.Proofs.Ytpdddafaelbgkaa.sumI Go.Proofs.Ytpdddafaelbgkaa.Region (@Go.Proofs.Ytpdddafaelbgkaa.c4 Go.Proofs.Ytpdddafaelbgkaa.Region) a))) ∧
 ((@Eq (List Go.Proofs.Ytpdddafaelbgkaa.Region) (@Go.Proofs.Ytpdddafaelbgkaa.mkd Go.Proofs.Ytpdddafaelbgkaa.Region Go.Proofs.Ytpdddafaelbgkaa.mkRg (@Go.Proofs.Ytpdddafaelbgkaa.c4 Go.Proofs.Ytpdddafaelbgkaa.Region) a k (Int.toNat x_2)) (@Go.Proofs.Ytpdddafaelbgkaa.mkL Go.Proofs.Ytpdddafaelbgkaa.Region Go.Proofs.Ytpdddafaelbgkaa.mkRg (@Go.Proofs.Ytpdddafaelbgkaa.c4 Go.Proofs.Ytpdddafaelbgkaa.Region) a k)) ∧
 True))))))))) := by kernel_rfl
theorem det_laws_markRegionS : C_laws_markRegionS.det = true → ∀ x, (C_laws_markRegionS.out x).Det := fun _ x => by simp only [C_laws_markRegionS]; repeat (first | exact Det.ret _ | exact Det.vc' | apply Det.req | apply Det.giv | apply Det.fork | apply Det.bif' | intro _)
set_option maxRecDepth 200000 in
set_option maxHeartbeats 1000000 in
theorem ok_laws_markRegionS : ConOK Try.prog 123 C_laws_markRegionS := by
  refine con_mk (wr := false) (ty := tyL [(3, .i), (5, .u), (4, .bool), (9, .str), (163, .int .u64), (71, .st .fixup), (24, .st .img), (39, .st .region), (35, .st .mem), (30, .st .patch), (94, .st .hash), (92, .list .i), (90, .list .str), (22, .list .u), (67, .st .fixup), (52, .st .img), (149, .st .region), (55, .st .mem), (101, .st .hash)]) (l := []) trivial Try.checked.mixed (fn := Try.f123) (body := Try.f123.body.getD .skip) Try.func123 rfl (by decide) (by kernel_rfl) rfl an_laws_markRegionS fun x ho hx => ?_
  obtain ⟨a, k, ⟨⟩⟩ := x
  refine Keeps.of (vc_laws_markRegionS a k) ?_
  revert a k ho hx
  show ∀ (a : List (Region)) (k : Int), _
  intro a k ho hx
  dsimp only [C_laws_markRegionS, okPTL, okPT, Ok, Ty.cells, SN.cells, OkL, OkC, okI, ci, cb, cs, cl] at ho
  dsimp only [C_laws_markRegionS, vc, v1, decB, SR.pre] at hx
  have cn : ∀ x : Region, 0 ≤ c4 x := c4_nn
  have cl := sumI_le cn a
  have cs := sumI_nn cn
  simp only [decide_eq_true_eq, decide_eq_false_iff_not, Bool.not_eq_true', Bool.not_eq_false', and_true, true_and, Int.toNat_natCast, exists_eq_left', exists_eq_left, exists_and_left, Int.not_lt, Int.not_le, Bool.false_eq_true, false_implies, implies_true, forall_const, List.length_append, List.length_cons, List.length_nil, Int.sub_add_cancel, Int.add_sub_cancel, and_imp, get_set_iff, forall_eq', forall_eq, List.set_set, mkd_get, mkd_len, List.length_set, Option.some.injEq]; (repeat' first | intro _ | apply And.intro); all_goals (try omega); all_goals first | (simp only [List.length_take, List.length_replicate, mkd_len, List.length_set, List.length_append]; omega) | exact mkd_full' (by omega) | exact (mkd_zero _ _).symm | exact mkd_set' (by assumption) (by omega) (by subst_vars; simp [mkRg, mkFx, mkSy, mkPa, mkSe, mkMb, mkOb, mkIL, Int.add_assoc]) | grind [mkd_len, mkd_get, mkd_zero, sumI_next, sumI_all, cOne, c4, cPa, sumI]
def C_laws_heldRegionS : Con := { ps := [.ro (.list (.st .region)), .ro .i], out := fun x => let a : List (Region) := x.1; let k : Int := x.2.1; .req (0 ≤ k ∧ k + sumI c4 a ≤ 1000000000000) (vc .i (hdL hRg a k)), det := true }
def G_laws_heldRegionS : Cfg := mkG (tyL [(3, .i), (5, .u), (4, .bool), (9, .str), (163, .int .u64), (71, .st .fixup), (24, .st .img), (39, .st .region), (35, .st .mem), (30, .st .patch), (94, .st .hash), (92, .list .i), (90, .list .str), (22, .list .u), (67, .st .fixup), (52, .st .img), (149, .st .region), (55, .st .mem), (101, .st .hash)]) [] false
def an_laws_heldRegionS : PTL C_laws_heldRegionS.ps → Nat → Option Ann := fun x kk_ => let a : List (Region) := x.1; let k : Int := x.2.1; if kk_ = 2 then some (.all (Int) fun i => .all (Int) fun m => .giv (0 ≤ i ∧ i ≤ a.length ∧ 0 ≤ m ∧ m + sumI c4 (a.drop i.toNat) ≤ 1000000000000 ∧ hdL hRg a k = hdL hRg (a.drop i.toNat) m) (.mk [(5, ai i), (1, ai m), (0, al (.st .region) a)] [] ((a.length - i.toNat)))) else none
set_option maxRecDepth 200000 in
theorem vc_laws_heldRegionS (a : List (Region)) (k : Int) : (keeps Try.prog G_laws_heldRegionS (an_laws_heldRegionS (a, k, ())) (Try.f125.body.getD .skip) Try.f125.results.toList C_laws_heldRegionS (a, k, ())) = (((∃ (x_1 : Int), (∃ (x_2 : Int), (((0 : Int) = x_1) ∧
 ((k = x_2) ∧
 ((@Eq (List Go.Proofs.Ytpdddafaelbgkaa.Region) a a) ∧
 ((((0 : Int) ≤ x_1) ∧
 ((x_1 ≤ (@Nat.cast Int _ (List.length a))) ∧
 (((0 : Int) ≤ x_2) ∧
 (((x_2 + (@Go.Proofs.Ytpdddafaelbgkaa.sumI Go.Proofs.Ytpdddafaelbgkaa.Region (@Go.Proofs.Ytpdddafaelbgkaa.c4 Go.Proofs.Ytpdddafaelbgkaa.Region) (List.drop (Int.toNat x_1) a))) ≤ (1000000000000 : Int)) ∧
 ((@Go.Proofs.Ytpdddafaelbgkaa.hdL Go.Proofs.Ytpdddafaelbgkaa.Region Go.Proofs.Ytpdddafaelbgkaa.hRg a k) = (@Go.Proofs.Ytpdddafaelbgkaa.hdL Go.Proofs.Ytpdddafaelbgkaa.Region Go.Proofs.Ytpdddafaelbgkaa.hRg (List.drop (Int.toNat x_1) a) x_2)))))) ∧
 True)))))) ∧
 (∀ (x_3 : Int), (∀ (x_4 : Int), ((((0 : Int) ≤ x_3) ∧
 ((x_3 ≤ (@Nat.cast Int _ (List.length a))) ∧
 (((0 : Int) ≤ x_4) ∧
 (((x_4 + (@Go.Proofs.Ytpdddafaelbgkaa.sumI Go.Proofs.Ytpdddafaelbgkaa.Region (@Go.Proofs.Ytpdddafaelbgkaa.c4 Go.Proofs.Ytpdddafaelbgkaa.Region) (List.drop (Int.toNat x_3) a))) ≤ (1000000000000 : Int)) ∧
 ((@Go.Proofs.Ytpdddafaelbgkaa.hdL Go.Proofs.Ytpdddafaelbgkaa.Region Go.Proofs.Ytpdddafaelbgkaa.hRg a k) = (@Go.Proofs.Ytpdddafaelbgkaa.hdL Go.Proofs.Ytpdddafaelbgkaa.Region Go.Proofs.Ytpdddafaelbgkaa.hRg (List.drop (Int.toNat x_3) a) x_4)))))) →
 (((List.length a) ≤ (9223372036854775807 : Nat)) →
 ((((decide (x_3 < (@Nat.cast Int _ (List.length a)))) = true) →
 ((((0 : Int) ≤ x_3) ∧
 (x_3 < (@Nat.cast Int _ (List.length a)))) ∧
 (∀ (x_5 : Go.Proofs.Ytpdddafaelbgkaa.Region), ((@Eq (Option Go.Proofs.Ytpdddafaelbgkaa.Region) (a)[(Int.toNat x_3)]? (some x_5)) →
 ((Go.Proofs.Ytpdddafaelbgkaa.Ok (Go.Proofs.Ytpdddafaelbgkaa.Ty.st Go.Proofs.Ytpdddafaelbgkaa.SN.region) x_5) →
 ((((decide ((Go.Proofs.Ytpdddafaelbgkaa.Region.from_ x_5) ≠ x_4)) = true) →
 (((- (1 : Int)) = (@Go.Proofs.Ytpdddafaelbgkaa.hdL Go.Proofs.Ytpdddafaelbgkaa.Region Go.Proofs.Ytpdddafaelbgkaa.hRg a k)) ∧
 True)) ∧
 (((decide ((Go.Proofs.Ytpdddafaelbgkaa.Region.from_ x_5) ≠ x_4)) = false) →
 ((((- (9223372036854775808 : Int)) ≤ (x_4 + (1 : Int))) ∧
 ((x_4 + (1 : Int)) ≤ (9223372036854775807 : Int))) ∧
 ((((0 : Int) ≤ x_3) ∧
 (x_3 < (@Nat.cast Int _ (List.length a)))) ∧
 (∀ (x_6 : Go.Proofs.Ytpdddafaelbgkaa.Region), ((@Eq (Option Go.Proofs.Ytpdddafaelbgkaa.Region) (a)[(Int.toNat x_3)]? (some x_6)) →
 ((Go.Proofs.Ytpdddafaelbgkaa.Ok (Go.Proofs.Ytpdddafaelbgkaa.Ty.st Go.Proofs.Ytpdddafaelbgkaa.SN.region) x_6) →
 ((((decide ((Go.Proofs.Ytpdddafaelbgkaa.Region.to x_6) ≠ (x_4 + (1 : Int)))) = true) →
 (((- (1 : Int)) = (@Go.Proofs.Ytpdddafaelbgkaa.hdL Go.Proofs.Ytpdddafaelbgkaa.Region Go.Proofs.Ytpdddafaelbgkaa.hRg a k)) ∧
 True)) ∧
 (((decide ((Go.Proofs.Ytpdddafaelbgkaa.Region.to x_6) ≠ (x_4 + (1 : Int)))) = false) →
 ((((- (9223372036854775808 : Int)) ≤ ((x_4 + (1 : Int)) + (1 : Int))) ∧
 (((x_4 + (1 : Int)) + (1 : Int)) ≤ (9223372036854775807 : Int))) ∧
 ((((0 : Int) ≤ x_3) ∧
 (x_3 < (@Nat.cast Int _ (List.length a)))) ∧
 (∀ (x_7 : Go.Proofs.Ytpdddafaelbgkaa.Region), ((@Eq (Option Go.Proofs.Ytpdddafaelbgkaa.Region) (a)[(Int.toNat x_3)]? (some x_7)) →
 ((Go.Proofs.Ytpdddafaelbgkaa.Ok (Go.Proofs.Ytpdddafaelbgkaa.Ty.st Go.Proofs.Ytpdddafaelbgkaa.SN.region) x_7) →
 ((((0 : Int) ≤ ((x_4 + (1 : Int)) + (1 : Int))) ∧
 ((0 : Int) < (3 : Int))) ∧
 ((((decide ((Go.Proofs.Ytpdddafaelbgkaa.Region.write x_7) ≠ (decide ((((x_4 + (1 : Int)) + (1 : Int)) % (3 : Int)) = (0 : Int))))) = true) →
 (((- (1 : Int)) = (@Go.Proofs.Ytpdddafaelbgkaa.hdL Go.Proofs.Ytpdddafaelbgkaa.Region Go.Proofs.Ytpdddafaelbgkaa.hRg a k)) ∧
 True)) ∧
 (((decide ((Go.Proofs.Ytpdddafaelbgkaa.Region.write x_7) ≠ (decide ((((x_4 + (1 : Int)) + (1 : Int)) % (3 : Int)) = (0 : Int))))) = false) →
 ((((- (9223372036854775808 : Int)) ≤ (((x_4 + (1 : Int)) + (1 : Int)) + (1 : Int))) ∧
 ((((x_4 + (1 : Int)) + (1 : Int)) + (1 : Int)) ≤ (9223372036854775807 : Int))) ∧
 ((((0 : Int) ≤ x_3) ∧
 (x_3 < (@Nat.cast Int _ (List.length a)))) ∧
 (∀ (x_8 : Go.Proofs.Ytpdddafaelbgkaa.Region), ((@Eq (Option Go.Proofs.Ytpdddafaelbgkaa.Region) (a)[(Int.toNat x_3)]? (some x_8)) →
 ((Go.Proofs.Ytpdddafaelbgkaa.Ok (Go.Proofs.Ytpdddafaelbgkaa.Ty.st Go.Proofs.Ytpdddafaelbgkaa.SN.region) x_8) →
 ((((0 : Int) ≤ (((x_4 + (1 : Int)) + (1 : Int)) + (1 : Int))) ∧
 ((0 : Int) < (3 : Int))) ∧
 ((((decide ((Go.Proofs.Ytpdddafaelbgkaa.Region.run x_8) ≠ (decide (((((x_4 + (1 : Int)) + (1 : Int)) + (1 : Int)) % (3 : Int)) = (0 : Int))))) = true) →
 (((- (1 : Int)) = (@Go.Proofs.Ytpdddafaelbgkaa.hdL Go.Proofs.Ytpdddafaelbgkaa.Region Go.Proofs.Ytpdddafaelbgkaa.hRg a k)) ∧
 True)) ∧
 (((decide ((Go.Proofs.Ytpdddafaelbgkaa.Region.run x_8) ≠ (decide (((((x_4 + (1 : Int)) + (1 : Int)) + (1 : Int)) % (3 : Int)) = (0 : Int))))) = false) →
 ((((- (9223372036854775808 : Int)) ≤ ((((x_4 + (1 : Int)) + (1 : Int)) + (1 : Int)) + (1 : Int))) ∧
 (((((x_4 + (1 : Int)) + (1 : Int)) + (1 : Int)) + (1 : Int)) ≤ (9223372036854775807 : Int))) ∧
 ((((- (9223372036854775808 : Int)) ≤ (x_3 + (1 : Int))) ∧
 ((x_3 + (1 : Int)) ≤ (9223372036854775807 : Int))) ∧
 (∃ (x_9 : Int), (∃ (x_10 : Int), (((x_3 + (1 : Int)) = x_9) ∧
 ((((((x_4 + (1 : Int)) + (1 : Int)) + (1 : Int)) + (1 : Int)) = x_10) ∧
 ((@Eq (List Go.Proofs.Ytpdddafaelbgkaa.Region) a a) ∧
 ((((0 : Int) ≤ x_9) ∧
 ((x_9 ≤ (@Nat.cast Int _ (List.length a))) ∧
 (((0 : Int) ≤ x_10) ∧
 (((x_10 + (@Go.Proofs.Ytpdddafaelbgkaa.sumI Go.Proofs.Ytpdddafaelbgkaa.Region (@Go.Proofs.Ytpdddafaelbgkaa.c4 Go.Proofs.Ytpdddafaelbgkaa.Region) (List.drop (Int.toNat x_9) a))) ≤ (1000000000000 : Int)) ∧
 ((@Go.Proofs.Ytpdddafaelbgkaa.hdL Go.Proofs.Ytpdddafaelbgkaa.Region Go.Proofs.Ytpdddafaelbgkaa.hRg a k) = (@Go.Proofs.Ytpdddafaelbgkaa.hdL Go.Proofs.Ytpdddafaelbgkaa.Region Go.Proofs.Ytpdddafaelbgkaa.hRg (List.drop (Int.toNat x_9) a) x_10)))))) ∧
 (((List.length a) - (Int.toNat x_9)) < ((List.length a) - (Int.toNat x_3))))))))))))))))))))))))))))))))))))))))) ∧
 (((decide (x_3 < (@Nat.cast Int _ (List.length a)))) = false) →
 ((x_4 = (@Go.Proofs.Ytpdddafaelbgkaa.hdL Go.Proofs.Ytpdddafaelbgkaa.Region Go.Proofs.Ytpdddafaelbgkaa.hRg a k)) ∧
 True))))))))) := by kernel_rfl
theorem det_laws_heldRegionS : C_laws_heldRegionS.det = true → ∀ x, (C_laws_heldRegionS.out x).Det := fun _ x => by simp only [C_laws_heldRegionS]; repeat (first | exact Det.ret _ | exact Det.vc' | apply Det.req | apply Det.giv | apply Det.fork | apply Det.bif' | intro _)
set_option maxRecDepth 200000 in
set_option maxHeartbeats 1000000 in
theorem ok_laws_heldRegionS : ConOK Try.prog 125 C_laws_heldRegionS := by
  refine con_mk (wr := false) (ty := tyL [(3, .i), (5, .u), (4, .bool), (9, .str), (163, .int .u64), (71, .st .fixup), (24, .st .img), (39, .st .region), (35, .st .mem), (30, .st .patch), (94, .st .hash), (92, .list .i), (90, .list .str), (22, .list .u), (67, .st .fixup), (52, .st .img), (149, .st .region), (55, .st .mem), (101, .st .hash)]) (l := []) trivial Try.checked.mixed (fn := Try.f125) (body := Try.f125.body.getD .skip) Try.func125 rfl (by decide) (by kernel_rfl) rfl an_laws_heldRegionS fun x ho hx => ?_
  obtain ⟨a, k, ⟨⟩⟩ := x
  refine Keeps.of (vc_laws_heldRegionS a k) ?_
  revert a k ho hx
  show ∀ (a : List (Region)) (k : Int), _
  intro a k ho hx
  dsimp only [C_laws_heldRegionS, okPTL, okPT, Ok, Ty.cells, SN.cells, OkL, OkC, okI, ci, cb, cs, cl] at ho
  dsimp only [C_laws_heldRegionS, vc, v1, decB, SR.pre] at hx
  have cn : ∀ x : Region, 0 ≤ c4 x := c4_nn
  have cs := sumI_nn cn
  simp +contextual only [decide_eq_true_eq, decide_eq_false_iff_not, Bool.not_eq_true', Bool.not_eq_false', and_true, true_and, Int.toNat_natCast, exists_eq_left', exists_eq_left, exists_and_left, Int.not_lt, Int.not_le, Bool.false_eq_true, false_implies, implies_true, forall_const, List.length_append, List.length_cons, List.length_nil, Int.sub_add_cancel, Int.add_sub_cancel, and_imp, get_set_iff, forall_eq', forall_eq, List.set_set, mkd_get, mkd_len, List.length_set, Option.some.injEq]; (repeat' first | intro _ | apply And.intro); all_goals (try omega); all_goals first | (simp only [List.length_take, List.length_replicate, mkd_len, List.length_set, List.length_append]; omega) | grind [hdL_drop, sumI_drop, drop_end, hdL, sumI, cOne, c4, cPa, hRg, hFx, hSy, hPa, hSe, hOb, hMb, hIL]
def C_laws_eqPatch : Con := { ps := [.ro (.st .patch), .ro (.st .patch)], out := fun x => let a : Patch := x.1; let b : Patch := x.2.1; vc .bool (decide (a = b)), det := true }
def G_laws_eqPatch : Cfg := mkG (tyL [(3, .i), (5, .u), (4, .bool), (9, .str), (163, .int .u64), (71, .st .fixup), (24, .st .img), (39, .st .region), (35, .st .mem), (30, .st .patch), (94, .st .hash), (92, .list .i), (90, .list .str), (22, .list .u), (67, .st .fixup), (52, .st .img), (149, .st .region), (55, .st .mem), (101, .st .hash)]) [(55, C_laws_eqByteS)] false
def an_laws_eqPatch : PTL C_laws_eqPatch.ps → Nat → Option Ann := fun _ _ => none
set_option maxRecDepth 200000 in
theorem vc_laws_eqPatch (a : Patch) (b : Patch) : (keeps Try.prog G_laws_eqPatch (an_laws_eqPatch (a, b, ())) (Try.f112.body.getD .skip) Try.f112.results.toList C_laws_eqPatch (a, b, ())) = (((((decide ((Go.Proofs.Ytpdddafaelbgkaa.Patch.at_ a) ≠ (Go.Proofs.Ytpdddafaelbgkaa.Patch.at_ b))) = true) →
 ((false = (decide (@Eq Go.Proofs.Ytpdddafaelbgkaa.Patch a b))) ∧
 True)) ∧
 (((decide ((Go.Proofs.Ytpdddafaelbgkaa.Patch.at_ a) ≠ (Go.Proofs.Ytpdddafaelbgkaa.Patch.at_ b))) = false) →
 ((((Bool.not (decide (@Eq (List Int) (Go.Proofs.Ytpdddafaelbgkaa.Patch.bytes a) (Go.Proofs.Ytpdddafaelbgkaa.Patch.bytes b)))) = true) →
 ((false = (decide (@Eq Go.Proofs.Ytpdddafaelbgkaa.Patch a b))) ∧
 True)) ∧
 (((Bool.not (decide (@Eq (List Int) (Go.Proofs.Ytpdddafaelbgkaa.Patch.bytes a) (Go.Proofs.Ytpdddafaelbgkaa.Patch.bytes b)))) = false) →
 ((true = (decide (@Eq Go.Proofs.Ytpdddafaelbgkaa.Patch a b))) ∧
 True)))))) := by kernel_rfl
theorem det_laws_eqPatch : C_laws_eqPatch.det = true → ∀ x, (C_laws_eqPatch.out x).Det := fun _ x => by simp only [C_laws_eqPatch]; repeat (first | exact Det.ret _ | exact Det.vc' | apply Det.req | apply Det.giv | apply Det.fork | apply Det.bif' | intro _)
set_option maxRecDepth 200000 in
set_option maxHeartbeats 1000000 in
theorem ok_laws_eqPatch : ConOK Try.prog 112 C_laws_eqPatch := by
  refine con_mk (wr := false) (ty := tyL [(3, .i), (5, .u), (4, .bool), (9, .str), (163, .int .u64), (71, .st .fixup), (24, .st .img), (39, .st .region), (35, .st .mem), (30, .st .patch), (94, .st .hash), (92, .list .i), (90, .list .str), (22, .list .u), (67, .st .fixup), (52, .st .img), (149, .st .region), (55, .st .mem), (101, .st .hash)]) (l := [(55, C_laws_eqByteS)]) ⟨⟨ok_laws_eqByteS, det_laws_eqByteS⟩, trivial⟩ Try.checked.mixed (fn := Try.f112) (body := Try.f112.body.getD .skip) Try.func112 rfl (by decide) (by kernel_rfl) rfl an_laws_eqPatch fun x ho hx => ?_
  obtain ⟨a, b, ⟨⟩⟩ := x
  refine Keeps.of (vc_laws_eqPatch a b) ?_
  revert a b ho hx
  show ∀ (a : Patch) (b : Patch), _
  intro a b ho hx
  dsimp only [C_laws_eqPatch, okPTL, okPT, Ok, Ty.cells, SN.cells, OkL, OkC, okI, ci, cb, cs, cl] at ho
  dsimp only [C_laws_eqPatch, vc, v1, decB, SR.pre] at hx
  simp only [decide_eq_true_eq, decide_eq_false_iff_not, Bool.not_eq_true', Bool.not_eq_false', and_true, true_and, Int.toNat_natCast, exists_eq_left', exists_eq_left, exists_and_left, Int.not_lt, Int.not_le, Bool.false_eq_true, false_implies, implies_true, forall_const, List.length_append, List.length_cons, List.length_nil, Int.sub_add_cancel, Int.add_sub_cancel, and_imp, get_set_iff, forall_eq', forall_eq, List.set_set, mkd_get, mkd_len, List.length_set, Option.some.injEq]; (repeat' first | intro _ | apply And.intro); all_goals (try omega); all_goals (first | grind [cases Img] | (cases a; cases b; simp_all; done) | (obtain ⟨⟨_, _⟩, _⟩ := a; obtain ⟨⟨_, _⟩, _⟩ := b; simp_all; done) | (obtain ⟨_, _, _⟩ := a; obtain ⟨_, _, _⟩ := b; simp_all; done) | (obtain ⟨_, ⟨_, _⟩⟩ := a; obtain ⟨_, ⟨_, _⟩⟩ := b; simp_all; done))
def C_laws_eqPatchS : Con := { ps := [.ro (.list (.st .patch)), .ro (.list (.st .patch))], out := fun x => let a : List (Patch) := x.1; let b : List (Patch) := x.2.1; vc .bool (decide (a = b)), det := true }
def G_laws_eqPatchS : Cfg := mkG (tyL [(3, .i), (5, .u), (4, .bool), (9, .str), (163, .int .u64), (71, .st .fixup), (24, .st .img), (39, .st .region), (35, .st .mem), (30, .st .patch), (94, .st .hash), (92, .list .i), (90, .list .str), (22, .list .u), (67, .st .fixup), (52, .st .img), (149, .st .region), (55, .st .mem), (101, .st .hash)]) [(112, C_laws_eqPatch)] false
def an_laws_eqPatchS : PTL C_laws_eqPatchS.ps → Nat → Option Ann := fun x kk_ => let a : List (Patch) := x.1; let b : List (Patch) := x.2.1; if kk_ = 4 then some (.all (Int) fun i => .giv (0 ≤ i ∧ i ≤ a.length ∧ a.length = b.length ∧ a.take i.toNat = b.take i.toNat) (.mk [(5, ai i), (0, al (.st .patch) a), (1, al (.st .patch) b)] [] ((a.length - i.toNat)))) else none
set_option maxRecDepth 200000 in
theorem vc_laws_eqPatchS (a : List (Patch)) (b : List (Patch)) : (keeps Try.prog G_laws_eqPatchS (an_laws_eqPatchS (a, b, ())) (Try.f46.body.getD .skip) Try.f46.results.toList C_laws_eqPatchS (a, b, ())) = ((((List.length a) ≤ (9223372036854775807 : Nat)) →
 (((List.length b) ≤ (9223372036854775807 : Nat)) →
 ((((decide ((@Nat.cast Int _ (List.length a)) ≠ (@Nat.cast Int _ (List.length b)))) = true) →
 ((false = (decide (@Eq (List Go.Proofs.Ytpdddafaelbgkaa.Patch) a b))) ∧
 True)) ∧
 (((decide ((@Nat.cast Int _ (List.length a)) ≠ (@Nat.cast Int _ (List.length b)))) = false) →
 ((∃ (x_1 : Int), (((0 : Int) = x_1) ∧
 ((@Eq (List Go.Proofs.Ytpdddafaelbgkaa.Patch) a a) ∧
 ((@Eq (List Go.Proofs.Ytpdddafaelbgkaa.Patch) b b) ∧
 ((((0 : Int) ≤ x_1) ∧
 ((x_1 ≤ (@Nat.cast Int _ (List.length a))) ∧
 (((List.length a) = (List.length b)) ∧
 (@Eq (List Go.Proofs.Ytpdddafaelbgkaa.Patch) (List.take (Int.toNat x_1) a) (List.take (Int.toNat x_1) b))))) ∧
 True))))) ∧
 (∀ (x_2 : Int), ((((0 : Int) ≤ x_2) ∧
 ((x_2 ≤ (@Nat.cast Int _ (List.length a))) ∧
 (((List.length a) = (List.length b)) ∧
 (@Eq (List Go.Proofs.Ytpdddafaelbgkaa.Patch) (List.take (Int.toNat x_2) a) (List.take (Int.toNat x_2) b))))) →
 (((List.length a) ≤ (9223372036854775807 : Nat)) →
 ((((decide (x_2 < (@Nat.cast Int _ (List.length a)))) = true) →
 ((((0 : Int) ≤ x_2) ∧
 (x_2 < (@Nat.cast Int _ (List.length a)))) ∧
 (∀ (x_3 : Go.Proofs.Ytpdddafaelbgkaa.Patch), ((@Eq (Option Go.Proofs.Ytpdddafaelbgkaa.Patch) (a)[(Int.toNat x_2)]? (some x_3)) →
 ((Go.Proofs.Ytpdddafaelbgkaa.Ok (Go.Proofs.Ytpdddafaelbgkaa.Ty.st Go.Proofs.Ytpdddafaelbgkaa.SN.patch) x_3) →
 ((((0 : Int) ≤ x_2) ∧
 (x_2 < (@Nat.cast Int _ (List.length b)))) ∧
 (∀ (x_4 : Go.Proofs.Ytpdddafaelbgkaa.Patch), ((@Eq (Option Go.Proofs.Ytpdddafaelbgkaa.Patch) (b)[(Int.toNat x_2)]? (some x_4)) →
 ((Go.Proofs.Ytpdddafaelbgkaa.Ok (Go.Proofs.Ytpdddafaelbgkaa.Ty.st Go.Proofs.Ytpdddafaelbgkaa.SN.patch) x_4) →
 ((((Bool.not (decide (@Eq Go.Proofs.Ytpdddafaelbgkaa.Patch x_3 x_4))) = true) →
 ((false = (decide (@Eq (List Go.Proofs.Ytpdddafaelbgkaa.Patch) a b))) ∧
 True)) ∧
 (((Bool.not (decide (@Eq Go.Proofs.Ytpdddafaelbgkaa.Patch x_3 x_4))) = false) →
 ((((- (9223372036854775808 : Int)) ≤ (x_2 + (1 : Int))) ∧
 ((x_2 + (1 : Int)) ≤ (9223372036854775807 : Int))) ∧
 (∃ (x_5 : Int), (((x_2 + (1 : Int)) = x_5) ∧
 ((@Eq (List Go.Proofs.Ytpdddafaelbgkaa.Patch) a a) ∧
 ((@Eq (List Go.Proofs.Ytpdddafaelbgkaa.Patch) b b) ∧
 ((((0 : Int) ≤ x_5) ∧
 ((x_5 ≤ (@Nat.cast Int _ (List.length a))) ∧
 (((List.length a) = (List.length b)) ∧
 (@Eq (List Go.Proofs.Ytpdddafaelbgkaa.Patch) (List.take (Int.toNat x_5) a) (List.take (Int.toNat x_5) b))))) ∧
 (((List.length a) - (Int.toNat x_5)) < ((List.length a) - (Int.toNat x_2)))))))))))))))))))) ∧
 (((decide (x_2 < (@Nat.cast Int _ (List.length a)))) = false) →
 ((true = (decide (@Eq (List Go.Proofs.Ytpdddafaelbgkaa.Patch) a b))) ∧
 True)))))))))))) := by kernel_rfl
theorem det_laws_eqPatchS : C_laws_eqPatchS.det = true → ∀ x, (C_laws_eqPatchS.out x).Det := fun _ x => by simp only [C_laws_eqPatchS]; repeat (first | exact Det.ret _ | exact Det.vc' | apply Det.req | apply Det.giv | apply Det.fork | apply Det.bif' | intro _)
set_option maxRecDepth 200000 in
set_option maxHeartbeats 1000000 in
theorem ok_laws_eqPatchS : ConOK Try.prog 46 C_laws_eqPatchS := by
  refine con_mk (wr := false) (ty := tyL [(3, .i), (5, .u), (4, .bool), (9, .str), (163, .int .u64), (71, .st .fixup), (24, .st .img), (39, .st .region), (35, .st .mem), (30, .st .patch), (94, .st .hash), (92, .list .i), (90, .list .str), (22, .list .u), (67, .st .fixup), (52, .st .img), (149, .st .region), (55, .st .mem), (101, .st .hash)]) (l := [(112, C_laws_eqPatch)]) ⟨⟨ok_laws_eqPatch, det_laws_eqPatch⟩, trivial⟩ Try.checked.mixed (fn := Try.f46) (body := Try.f46.body.getD .skip) Try.func46 rfl (by decide) (by kernel_rfl) rfl an_laws_eqPatchS fun x ho hx => ?_
  obtain ⟨a, b, ⟨⟩⟩ := x
  refine Keeps.of (vc_laws_eqPatchS a b) ?_
  revert a b ho hx
  show ∀ (a : List (Patch)) (b : List (Patch)), _
  intro a b ho hx
  dsimp only [C_laws_eqPatchS, okPTL, okPT, Ok, Ty.cells, SN.cells, OkL, OkC, okI, ci, cb, cs, cl] at ho
  dsimp only [C_laws_eqPatchS, vc, v1, decB, SR.pre] at hx
  simp only [decide_eq_true_eq, decide_eq_false_iff_not, Bool.not_eq_true', Bool.not_eq_false', and_true, true_and, Int.toNat_natCast, exists_eq_left', exists_eq_left, exists_and_left, Int.not_lt, Int.not_le, Bool.false_eq_true, false_implies, implies_true, forall_const, List.length_append, List.length_cons, List.length_nil, Int.sub_add_cancel, Int.add_sub_cancel, and_imp, get_set_iff, forall_eq', forall_eq, List.set_set, mkd_get, mkd_len, List.length_set, Option.some.injEq]; (repeat' first | intro _ | apply And.intro); all_goals (try omega); all_goals first | grind [take_all', take_next, take_diff] | exact take_next2 (by omega) (by assumption) (by assumption) (by assumption) (by assumption) | exact take_diff2 (by assumption) (by assumption) (by assumption)
def C_laws_markPatchS : Con := { ps := [.row none (.st .patch), .ro .i], out := fun x => let a : List (Patch) := x.1; let k : Int := x.2.1; .req (0 ≤ k ∧ k + sumI cPa a ≤ 1000000000000) (turnL (.st .patch) (mkL mkPa cPa a k) (k + sumI cPa a)), det := true }
def G_laws_markPatchS : Cfg := mkG (tyL [(3, .i), (5, .u), (4, .bool), (9, .str), (163, .int .u64), (71, .st .fixup), (24, .st .img), (39, .st .region), (35, .st .mem), (30, .st .patch), (94, .st .hash), (92, .list .i), (90, .list .str), (22, .list .u), (67, .st .fixup), (52, .st .img), (149, .st .region), (55, .st .mem), (101, .st .hash)]) [(56, C_laws_markByteS)] false
def an_laws_markPatchS : PTL C_laws_markPatchS.ps → Nat → Option Ann := fun x kk_ => let a : List (Patch) := x.1; let k : Int := x.2.1; if kk_ = 2 then some (.all (Int) fun i => .giv (0 ≤ i ∧ i ≤ a.length) (.mk [(5, ai i), (1, ai (k + sumI cPa (a.take i.toNat))), (0, asl 0)] [(0, .row none (.st .patch) (mkd mkPa cPa a k i.toNat) true)] ((a.length - i.toNat)))) else none
set_option maxRecDepth 200000 in
theorem vc_laws_markPatchS (a : List (Patch)) (k : Int) : (keeps Try.prog G_laws_markPatchS (an_laws_markPatchS (a, k, ())) (Try.f49.body.getD .skip) Try.f49.results.toList C_laws_markPatchS (a, k, ())) = (((∃ (x_1 : Int), (((0 : Int) = x_1) ∧
 ((k = (k + (@Go.Proofs.Ytpdddafaelbgkaa.sumI Go.Proofs.Ytpdddafaelbgkaa.Patch Go.Proofs.Ytpdddafaelbgkaa.cPa (List.take (Int.toNat x_1) a)))) ∧
 ((@Eq (List Go.Proofs.Ytpdddafaelbgkaa.Patch) a (@Go.Proofs.Ytpdddafaelbgkaa.mkd Go.Proofs.Ytpdddafaelbgkaa.Patch Go.Proofs.Ytpdddafaelbgkaa.mkPa Go.Proofs.Ytpdddafaelbgkaa.cPa a k (Int.toNat x_1))) ∧
 ((((0 : Int) ≤ x_1) ∧
 (x_1 ≤ (@Nat.cast Int _ (List.length a)))) ∧
 True))))) ∧
 (∀ (x_2 : Int), ((((0 : Int) ≤ x_2) ∧
 (x_2 ≤ (@Nat.cast Int _ (List.length a)))) →
 (((List.length (@Go.Proofs.Ytpdddafaelbgkaa.mkd Go.Proofs.Ytpdddafaelbgkaa.Patch Go.Proofs.Ytpdddafaelbgkaa.mkPa Go.Proofs.Ytpdddafaelbgkaa.cPa a k (Int.toNat x_2))) ≤ (9223372036854775807 : Nat)) →
 ((((decide (x_2 < (@Nat.cast Int _ (List.length (@Go.Proofs.Ytpdddafaelbgkaa.mkd Go.Proofs.Ytpdddafaelbgkaa.Patch Go.Proofs.Ytpdddafaelbgkaa.mkPa Go.Proofs.Ytpdddafaelbgkaa.cPa a k (Int.toNat x_2)))))) = true) →
 ((((0 : Int) ≤ x_2) ∧
 (x_2 < (@Nat.cast Int _ (List.length (@Go.Proofs.Ytpdddafaelbgkaa.mkd Go.Proofs.Ytpdddafaelbgkaa.Patch Go.Proofs.Ytpdddafaelbgkaa.mkPa Go.Proofs.Ytpdddafaelbgkaa.cPa a k (Int.toNat x_2)))))) ∧
 (∀ (x_3 : Go.Proofs.Ytpdddafaelbgkaa.Patch), ((@Eq (Option Go.Proofs.Ytpdddafaelbgkaa.Patch) ((@Go.Proofs.Ytpdddafaelbgkaa.mkd Go.Proofs.Ytpdddafaelbgkaa.Patch Go.Proofs.Ytpdddafaelbgkaa.mkPa Go.Proofs.Ytpdddafaelbgkaa.cPa a k (Int.toNat x_2)))[(Int.toNat x_2)]? (some x_3)) →
 ((((- (9223372036854775808 : Int)) ≤ ((k + (@Go.Proofs.Ytpdddafaelbgkaa.sumI Go.Proofs.Ytpdddafaelbgkaa.Patch Go.Proofs.Ytpdddafaelbgkaa.cPa (List.take (Int.toNat x_2) a))) + (1 : Int))) ∧
 (((k + (@Go.Proofs.Ytpdddafaelbgkaa.sumI Go.Proofs.Ytpdddafaelbgkaa.Patch Go.Proofs.Ytpdddafaelbgkaa.cPa (List.take (Int.toNat x_2) a))) + (1 : Int)) ≤ (9223372036854775807 : Int))) ∧
 ((((0 : Int) ≤ x_2) ∧
 (x_2 < (@Nat.cast Int _ (List.length (List.set (@Go.Proofs.Ytpdddafaelbgkaa.mkd Go.Proofs.Ytpdddafaelbgkaa.Patch Go.Proofs.Ytpdddafaelbgkaa.mkPa Go.Proofs.Ytpdddafaelbgkaa.cPa a k (Int.toNat x_2)) (Int.toNat x_2) (Go.Proofs.Ytpdddafaelbgkaa.Patch.mk (k + (@Go.Proofs.Ytpdddafaelbgkaa.sumI Go.Proofs.Ytpdddafaelbgkaa.Patch Go.Proofs.Ytpdddafaelbgkaa.cPa (List.take (Int.toNat x_2) a))) (Go.Proofs.Ytpdddafaelbgkaa.Patch.bytes x_3))))))) ∧
 (∀ (x_4 : Go.Proofs.Ytpdddafaelbgkaa.Patch), ((@Eq (Option Go.Proofs.Ytpdddafaelbgkaa.Patch) ((List.set (@Go.Proofs.Ytpdddafaelbgkaa.mkd Go.Proofs.Ytpdddafaelbgkaa.Patch Go.Proofs.Ytpdddafaelbgkaa.mkPa Go.Proofs.Ytpdddafaelbgkaa.cPa a k (Int.toNat x_2)) (Int.toNat x_2) (Go.Proofs.Ytpdddafaelbgkaa.Patch.mk (k + (@Go.Proofs.Ytpdddafaelbgkaa.sumI Go.Proofs.Ytpdddafaelbgkaa.Patch Go.Proofs.Ytpdddafaelbgkaa.cPa (List.take (Int.toNat x_2) a))) (Go.Proofs.Ytpdddafaelbgkaa.Patch.bytes x_3))))[(Int.toNat x_2)]? (some x_4)) →
 ((Go.Proofs.Ytpdddafaelbgkaa.Ok (Go.Proofs.Ytpdddafaelbgkaa.Ty.st Go.Proofs.Ytpdddafaelbgkaa.SN.patch) x_4) →
 (∀ (x_5 : Go.Proofs.Ytpdddafaelbgkaa.Patch), ((@Eq (Option Go.Proofs.Ytpdddafaelbgkaa.Patch) ((List.set (@Go.Proofs.Ytpdddafaelbgkaa.mkd Go.Proofs.Ytpdddafaelbgkaa.Patch Go.Proofs.Ytpdddafaelbgkaa.mkPa Go.Proofs.Ytpdddafaelbgkaa.cPa a k (Int.toNat x_2)) (Int.toNat x_2) (Go.Proofs.Ytpdddafaelbgkaa.Patch.mk (k + (@Go.Proofs.Ytpdddafaelbgkaa.sumI Go.Proofs.Ytpdddafaelbgkaa.Patch Go.Proofs.Ytpdddafaelbgkaa.cPa (List.take (Int.toNat x_2) a))) (Go.Proofs.Ytpdddafaelbgkaa.Patch.bytes x_3))))[(Int.toNat x_2)]? (some x_5)) →
 ((((0 : Int) ≤ ((k + (@Go.Proofs.Ytpdddafaelbgkaa.sumI Go.Proofs.Ytpdddafaelbgkaa.Patch Go.Proofs.Ytpdddafaelbgkaa.cPa (List.take (Int.toNat x_2) a))) + (1 : Int))) ∧
 ((((k + (@Go.Proofs.Ytpdddafaelbgkaa.sumI Go.Proofs.Ytpdddafaelbgkaa.Patch Go.Proofs.Ytpdddafaelbgkaa.cPa (List.take (Int.toNat x_2) a))) + (1 : Int)) + (@Go.Proofs.Ytpdddafaelbgkaa.sumI Int (@Go.Proofs.Ytpdddafaelbgkaa.cOne Int) (Go.Proofs.Ytpdddafaelbgkaa.Patch.bytes x_5))) ≤ (1000000000000 : Int))) ∧
 ((((- (9223372036854775808 : Int)) ≤ (x_2 + (1 : Int))) ∧
 ((x_2 + (1 : Int)) ≤ (9223372036854775807 : Int))) ∧
 (∃ (x_6 : Int), (((x_2 + (1 : Int)) = x_6) ∧
 (((((k + (@Go.Proofs.Ytpdddafaelbgkaa.sumI Go.Proofs.Ytpdddafaelbgkaa.Patch Go.Proofs.Ytpdddafaelbgkaa.cPa (List.take (Int.toNat x_2) a))) + (1 : Int)) + (@Go.Proofs.Ytpdddafaelbgkaa.sumI Int (@Go.Proofs.Ytpdddafaelbgkaa.cOne Int) (Go.Proofs.Ytpdddafaelbgkaa.Patch.bytes x_5))) = (k + (@Go.Proofs.Ytpdddafaelbgkaa.sumI Go.Proofs.Ytpdddafaelbgkaa.Patch Go.Proofs.Ytpdddafaelbgkaa.cPa (List.take (Int.toNat x_6) a)))) ∧
 ((@Eq (List Go.Proofs.Ytpdddafaelbgkaa.Patch) (List.set (List.set (@Go.Proofs.Ytpdddafaelbgkaa.mkd Go.Proofs.Ytpdddafaelbgkaa.Patch Go.Proofs.Ytpdddafaelbgkaa.mkPa Go.Proofs.Ytpdddafaelbgkaa.cPa a k (Int.toNat x_2)) (Int.toNat x_2) (Go.Proofs.Ytpdddafaelbgkaa.Patch.mk (k + (@Go.Proofs.Ytpdddafaelbgkaa.sumI Go.Proofs.Ytpdddafaelbgkaa.Patch Go.Proofs.Ytpdddafaelbgkaa.cPa (List.take (Int.toNat x_2) a))) (Go.Proofs.Ytpdddafaelbgkaa.Patch.bytes x_3))) (Int.toNat x_2) (Go.Proofs.Ytpdddafaelbgkaa.Patch.mk (Go.Proofs.Ytpdddafaelbgkaa.Patch.at_ x_5) (@Go.Proofs.Ytpdddafaelbgkaa.mkL Int Go.Proofs.Ytpdddafaelbgkaa.mkU (@Go.Proofs.Ytpdddafaelbgkaa.cOne Int) (Go.Proofs.Ytpdddafaelbgkaa.Patch.bytes x_5) ((k + (@Go.Proofs.Ytpdddafaelbgkaa.sumI Go.Proofs.Ytpdddafaelbgkaa.Patch Go.Proofs.Ytpdddafaelbgkaa.cPa (List.take (Int.toNat x_2) a))) + (1 : Int))))) (@Go.Proofs.Ytpdddafaelbgkaa.mkd Go.Proofs.Ytpdddafaelbgkaa.Patch Go.Proofs.Ytpdddafaelbgkaa.mkPa Go.Proofs.Ytpdddafaelbgkaa.cPa a k (Int.toNat x_6))) ∧
 ((((0 : Int) ≤ x_6) ∧
 (x_6 ≤ (@Nat.cast Int _ (List.length a)))) ∧
 (((List.length a) - (Int.toNat x_6)) < ((List.length a) - (Int.toNat x_2))))))))))))))))))))) ∧
 (((decide (x_2 < (@Nat.cast Int _ (List.length (@Go.Proofs.Ytpdddafaelbgkaa.mkd Go.Proofs.Ytpdddafaelbgkaa.Patch Go.Proofs.Ytpdddafaelbgkaa.mkPa Go.Proofs.Ytpdddafaelbgkaa.cPa a k (Int.toNat x_2)))))) = false) →
 (((k + (@Go.Proofs.Ytpdddafaelbgkaa.sumI Go.Proofs.Ytpdddafaelbgkaa.Patch Go.Proofs.Ytpdddafaelbgkaa.cPa (List.take (Int.toNat x_2) a))) = (k + (@Go.Proofs.Ytpdddafaelbgkaa.sumI Go.Proofs.Ytpdddafaelbgkaa.Patch Go.Proofs.Ytpdddafaelbgkaa.cPa a))) ∧
 ((@Eq (List Go.Proofs.Ytpdddafaelbgkaa.Patch) (@Go.Proofs.Ytpdddafaelbgkaa.mkd Go.Proofs.Ytpdddafaelbgkaa.Patch Go.Proofs.Ytpdddafaelbgkaa.mkPa Go.Proofs.Ytpdddafaelbgkaa.cPa a k (Int.toNat x_2)) (@Go.Proofs.Ytpdddafaelbgkaa.mkL Go.Proofs.Ytpdddafaelbgkaa.Patch Go.Proofs.Ytpdddafaelbgkaa.mkPa Go.Proofs.Ytpdddafaelbgkaa.cPa a k)) ∧
 True))))))))) := by kernel_rfl
theorem det_laws_markPatchS : C_laws_markPatchS.det = true → ∀ x, (C_laws_markPatchS.out x).Det := fun _ x => by simp only [C_laws_markPatchS]; repeat (first | exact Det.ret _ | exact Det.vc' | apply Det.req | apply Det.giv | apply Det.fork | apply Det.bif' | intro _)
set_option maxRecDepth 200000 in
set_option maxHeartbeats 1000000 in
theorem ok_laws_markPatchS : ConOK Try.prog 49 C_laws_markPatchS := by
  refine con_mk (wr := false) (ty := tyL [(3, .i), (5, .u), (4, .bool), (9, .str), (163, .int .u64), (71, .st .fixup), (24, .st .img), (39, .st .region), (35, .st .mem), (30, .st .patch), (94, .st .hash), (92, .list .i), (90, .list .str), (22, .list .u), (67, .st .fixup), (52, .st .img), (149, .st .region), (55, .st .mem), (101, .st .hash)]) (l := [(56, C_laws_markByteS)]) ⟨⟨ok_laws_markByteS, det_laws_markByteS⟩, trivial⟩ Try.checked.mixed (fn := Try.f49) (body := Try.f49.body.getD .skip) Try.func49 rfl (by decide) (by kernel_rfl) rfl an_laws_markPatchS fun x ho hx => ?_
  obtain ⟨a, k, ⟨⟩⟩ := x
  refine Keeps.of (vc_laws_markPatchS a k) ?_
  revert a k ho hx
  show ∀ (a : List (Patch)) (k : Int), _
  intro a k ho hx
  dsimp only [C_laws_markPatchS, okPTL, okPT, Ok, Ty.cells, SN.cells, OkL, OkC, okI, ci, cb, cs, cl] at ho
  dsimp only [C_laws_markPatchS, vc, v1, decB, SR.pre] at hx
  have cn : ∀ x : Patch, 0 ≤ cPa x := cPa_nn
  have cl := sumI_le cn a
  have cs := sumI_nn cn
  simp only [decide_eq_true_eq, decide_eq_false_iff_not, Bool.not_eq_true', Bool.not_eq_false', and_true, true_and, Int.toNat_natCast, exists_eq_left', exists_eq_left, exists_and_left, Int.not_lt, Int.not_le, Bool.false_eq_true, false_implies, implies_true, forall_const, List.length_append, List.length_cons, List.length_nil, Int.sub_add_cancel, Int.add_sub_cancel, and_imp, get_set_iff, forall_eq', forall_eq, List.set_set, mkd_get, mkd_len, List.length_set, Option.some.injEq]; (repeat' first | intro _ | apply And.intro); all_goals (try omega); all_goals first | (simp only [List.length_take, List.length_replicate, mkd_len, List.length_set, List.length_append]; omega) | exact mkd_full' (by omega) | exact (mkd_zero _ _).symm | exact mkd_set' (by assumption) (by omega) (by subst_vars; simp [mkRg, mkFx, mkSy, mkPa, mkSe, mkMb, mkOb, mkIL, Int.add_assoc]) | grind [mkd_len, mkd_get, mkd_zero, sumI_next, sumI_all, cOne, c4, cPa, sumI]
def C_laws_heldPatchS : Con := { ps := [.ro (.list (.st .patch)), .ro .i], out := fun x => let a : List (Patch) := x.1; let k : Int := x.2.1; .req (0 ≤ k ∧ k + sumI cPa a ≤ 1000000000000) (vc .i (hdL hPa a k)), det := true }
def G_laws_heldPatchS : Cfg := mkG (tyL [(3, .i), (5, .u), (4, .bool), (9, .str), (163, .int .u64), (71, .st .fixup), (24, .st .img), (39, .st .region), (35, .st .mem), (30, .st .patch), (94, .st .hash), (92, .list .i), (90, .list .str), (22, .list .u), (67, .st .fixup), (52, .st .img), (149, .st .region), (55, .st .mem), (101, .st .hash)]) [(57, C_laws_heldByteS)] false
def an_laws_heldPatchS : PTL C_laws_heldPatchS.ps → Nat → Option Ann := fun x kk_ => let a : List (Patch) := x.1; let k : Int := x.2.1; if kk_ = 2 then some (.all (Int) fun i => .all (Int) fun m => .giv (0 ≤ i ∧ i ≤ a.length ∧ 0 ≤ m ∧ m + sumI cPa (a.drop i.toNat) ≤ 1000000000000 ∧ hdL hPa a k = hdL hPa (a.drop i.toNat) m) (.mk [(5, ai i), (1, ai m), (0, al (.st .patch) a)] [] ((a.length - i.toNat)))) else none
set_option maxRecDepth 200000 in
theorem vc_laws_heldPatchS (a : List (Patch)) (k : Int) : (keeps Try.prog G_laws_heldPatchS (an_laws_heldPatchS (a, k, ())) (Try.f50.body.getD .skip) Try.f50.results.toList C_laws_heldPatchS (a, k, ())) = (((∃ (x_1 : Int), (∃ (x_2 : Int), (((0 : Int) = x_1) ∧
 ((k = x_2) ∧
 ((@Eq (List Go.Proofs.Ytpdddafaelbgkaa.Patch) a a) ∧
 ((((0 : Int) ≤ x_1) ∧
 ((x_1 ≤ (@Nat.cast Int _ (List.length a))) ∧
 (((0 : Int) ≤ x_2) ∧
 (((x_2 + (@Go.Proofs.Ytpdddafaelbgkaa.sumI Go.Proofs.Ytpdddafaelbgkaa.Patch Go.Proofs.Ytpdddafaelbgkaa.cPa (List.drop (Int.toNat x_1) a))) ≤ (1000000000000 : Int)) ∧
 ((@Go.Proofs.Ytpdddafaelbgkaa.hdL Go.Proofs.Ytpdddafaelbgkaa.Patch Go.Proofs.Ytpdddafaelbgkaa.hPa a k) = (@Go.Proofs.Ytpdddafaelbgkaa.hdL Go.Proofs.Ytpdddafaelbgkaa.Patch Go.Proofs.Ytpdddafaelbgkaa.hPa (List.drop (Int.toNat x_1) a) x_2)))))) ∧
 True)))))) ∧
 (∀ (x_3 : Int), (∀ (x_4 : Int), ((((0 : Int) ≤ x_3) ∧
 ((x_3 ≤ (@Nat.cast Int _ (List.length a))) ∧
 (((0 : Int) ≤ x_4) ∧
 (((x_4 + (@Go.Proofs.Ytpdddafaelbgkaa.sumI Go.Proofs.Ytpdddafaelbgkaa.Patch Go.Proofs.Ytpdddafaelbgkaa.cPa (List.drop (Int.toNat x_3) a))) ≤ (1000000000000 : Int)) ∧
 ((@Go.Proofs.Ytpdddafaelbgkaa.hdL Go.Proofs.Ytpdddafaelbgkaa.Patch Go.Proofs.Ytpdddafaelbgkaa.hPa a k) = (@Go.Proofs.Ytpdddafaelbgkaa.hdL Go.Proofs.Ytpdddafaelbgkaa.Patch Go.Proofs.Ytpdddafaelbgkaa.hPa (List.drop (Int.toNat x_3) a) x_4)))))) →
 (((List.length a) ≤ (9223372036854775807 : Nat)) →
 ((((decide (x_3 < (@Nat.cast Int _ (List.length a)))) = true) →
 ((((0 : Int) ≤ x_3) ∧
 (x_3 < (@Nat.cast Int _ (List.length a)))) ∧
 (∀ (x_5 : Go.Proofs.Ytpdddafaelbgkaa.Patch), ((@Eq (Option Go.Proofs.Ytpdddafaelbgkaa.Patch) (a)[(Int.toNat x_3)]? (some x_5)) →
 ((Go.Proofs.Ytpdddafaelbgkaa.Ok (Go.Proofs.Ytpdddafaelbgkaa.Ty.st Go.Proofs.Ytpdddafaelbgkaa.SN.patch) x_5) →
 ((((decide ((Go.Proofs.Ytpdddafaelbgkaa.Patch.at_ x_5) ≠ x_4)) = true) →
 (((- (1 : Int)) = (@Go.Proofs.Ytpdddafaelbgkaa.hdL Go.Proofs.Ytpdddafaelbgkaa.Patch Go.Proofs.Ytpdddafaelbgkaa.hPa a k)) ∧
 True)) ∧
 (((decide ((Go.Proofs.Ytpdddafaelbgkaa.Patch.at_ x_5) ≠ x_4)) = false) →
 ((((- (9223372036854775808 : Int)) ≤ (x_4 + (1 : Int))) ∧
 ((x_4 + (1 : Int)) ≤ (9223372036854775807 : Int))) ∧
 ((((0 : Int) ≤ x_3) ∧
 (x_3 < (@Nat.cast Int _ (List.length a)))) ∧
 (∀ (x_6 : Go.Proofs.Ytpdddafaelbgkaa.Patch), ((@Eq (Option Go.Proofs.Ytpdddafaelbgkaa.Patch) (a)[(Int.toNat x_3)]? (some x_6)) →
 ((Go.Proofs.Ytpdddafaelbgkaa.Ok (Go.Proofs.Ytpdddafaelbgkaa.Ty.st Go.Proofs.Ytpdddafaelbgkaa.SN.patch) x_6) →
 ((((0 : Int) ≤ (x_4 + (1 : Int))) ∧
 (((x_4 + (1 : Int)) + (@Go.Proofs.Ytpdddafaelbgkaa.sumI Int (@Go.Proofs.Ytpdddafaelbgkaa.cOne Int) (Go.Proofs.Ytpdddafaelbgkaa.Patch.bytes x_6))) ≤ (1000000000000 : Int))) ∧
 ((((decide ((@Go.Proofs.Ytpdddafaelbgkaa.hdL Int Go.Proofs.Ytpdddafaelbgkaa.hU (Go.Proofs.Ytpdddafaelbgkaa.Patch.bytes x_6) (x_4 + (1 : Int))) < (0 : Int))) = true) →
 (((- (1 : Int)) = (@Go.Proofs.Ytpdddafaelbgkaa.hdL Go.Proofs.Ytpdddafaelbgkaa.Patch Go.Proofs.Ytpdddafaelbgkaa.hPa a k)) ∧
 True)) ∧
 (((decide ((@Go.Proofs.Ytpdddafaelbgkaa.hdL Int Go.Proofs.Ytpdddafaelbgkaa.hU (Go.Proofs.Ytpdddafaelbgkaa.Patch.bytes x_6) (x_4 + (1 : Int))) < (0 : Int))) = false) →
 ((((- (9223372036854775808 : Int)) ≤ (x_3 + (1 : Int))) ∧
 ((x_3 + (1 : Int)) ≤ (9223372036854775807 : Int))) ∧
 (∃ (x_7 : Int), (∃ (x_8 : Int), (((x_3 + (1 : Int)) = x_7) ∧
 (((@Go.Proofs.Ytpdddafaelbgkaa.hdL Int Go.Proofs.Ytpdddafaelbgkaa.hU (Go.Proofs.Ytpdddafaelbgkaa.Patch.bytes x_6) (x_4 + (1 : Int))) = x_8) ∧
 ((@Eq (List Go.Proofs.Ytpdddafaelbgkaa.Patch) a a) ∧
 ((((0 : Int) ≤ x_7) ∧
 ((x_7 ≤ (@Nat.cast Int _ (List.length a))) ∧
 (((0 : Int) ≤ x_8) ∧
 (((x_8 + (@Go.Proofs.Ytpdddafaelbgkaa.sumI Go.Proofs.Ytpdddafaelbgkaa.Patch Go.Proofs.Ytpdddafaelbgkaa.cPa (List.drop (Int.toNat x_7) a))) ≤ (1000000000000 : Int)) ∧
 ((@Go.Proofs.Ytpdddafaelbgkaa.hdL Go.Proofs.Ytpdddafaelbgkaa.Patch Go.Proofs.Ytpdddafaelbgkaa.hPa a k) = (@Go.Proofs.Ytpdddafaelbgkaa.hdL Go.Proofs.Ytpdddafaelbgkaa.Patch Go.Proofs.Ytpdddafaelbgkaa.hPa (List.drop (Int.toNat x_7) a) x_8)))))) ∧
 (((List.length a) - (Int.toNat x_7)) < ((List.length a) - (Int.toNat x_3))))))))))))))))))))))))) ∧
 (((decide (x_3 < (@Nat.cast Int _ (List.length a)))) = false) →
 ((x_4 = (@Go.Proofs.Ytpdddafaelbgkaa.hdL Go.Proofs.Ytpdddafaelbgkaa.Patch Go.Proofs.Ytpdddafaelbgkaa.hPa a k)) ∧
 True))))))))) := by kernel_rfl
theorem det_laws_heldPatchS : C_laws_heldPatchS.det = true → ∀ x, (C_laws_heldPatchS.out x).Det := fun _ x => by simp only [C_laws_heldPatchS]; repeat (first | exact Det.ret _ | exact Det.vc' | apply Det.req | apply Det.giv | apply Det.fork | apply Det.bif' | intro _)
set_option maxRecDepth 200000 in
set_option maxHeartbeats 1000000 in
theorem ok_laws_heldPatchS : ConOK Try.prog 50 C_laws_heldPatchS := by
  refine con_mk (wr := false) (ty := tyL [(3, .i), (5, .u), (4, .bool), (9, .str), (163, .int .u64), (71, .st .fixup), (24, .st .img), (39, .st .region), (35, .st .mem), (30, .st .patch), (94, .st .hash), (92, .list .i), (90, .list .str), (22, .list .u), (67, .st .fixup), (52, .st .img), (149, .st .region), (55, .st .mem), (101, .st .hash)]) (l := [(57, C_laws_heldByteS)]) ⟨⟨ok_laws_heldByteS, det_laws_heldByteS⟩, trivial⟩ Try.checked.mixed (fn := Try.f50) (body := Try.f50.body.getD .skip) Try.func50 rfl (by decide) (by kernel_rfl) rfl an_laws_heldPatchS fun x ho hx => ?_
  obtain ⟨a, k, ⟨⟩⟩ := x
  refine Keeps.of (vc_laws_heldPatchS a k) ?_
  revert a k ho hx
  show ∀ (a : List (Patch)) (k : Int), _
  intro a k ho hx
  dsimp only [C_laws_heldPatchS, okPTL, okPT, Ok, Ty.cells, SN.cells, OkL, OkC, okI, ci, cb, cs, cl] at ho
  dsimp only [C_laws_heldPatchS, vc, v1, decB, SR.pre] at hx
  have cn : ∀ x : Patch, 0 ≤ cPa x := cPa_nn
  have cs := sumI_nn cn
  have hu := hdU_or; have hg := cOne_ge (α := Int)
  simp +contextual only [decide_eq_true_eq, decide_eq_false_iff_not, Bool.not_eq_true', Bool.not_eq_false', and_true, true_and, Int.toNat_natCast, exists_eq_left', exists_eq_left, exists_and_left, Int.not_lt, Int.not_le, Bool.false_eq_true, false_implies, implies_true, forall_const, List.length_append, List.length_cons, List.length_nil, Int.sub_add_cancel, Int.add_sub_cancel, and_imp, get_set_iff, forall_eq', forall_eq, List.set_set, mkd_get, mkd_len, List.length_set, Option.some.injEq]; (repeat' first | intro _ | apply And.intro); all_goals (try omega); all_goals first | (simp only [List.length_take, List.length_replicate, mkd_len, List.length_set, List.length_append]; omega) | grind [hdL_drop, sumI_drop, drop_end, hdL, sumI, cOne, c4, cPa, hRg, hFx, hSy, hPa, hSe, hOb, hMb, hIL]
def C_laws_toMemory : Con := { ps := [.ro (.st .mem)], out := fun x => let a : Memo := x.1; .req (szMe a ≤ 1048576) (newS .mem a), det := true }
def G_laws_toMemory : Cfg := mkG (tyL [(3, .i), (5, .u), (4, .bool), (9, .str), (163, .int .u64), (71, .st .fixup), (24, .st .img), (39, .st .region), (35, .st .mem), (30, .st .patch), (94, .st .hash), (92, .list .i), (90, .list .str), (22, .list .u), (67, .st .fixup), (52, .st .img), (149, .st .region), (55, .st .mem), (101, .st .hash)]) [(45, C_laws_toImage), (109, C_laws_toRegionS)] false
def an_laws_toMemory : PTL C_laws_toMemory.ps → Nat → Option Ann := fun _ _ => none
set_option maxRecDepth 200000 in
theorem vc_laws_toMemory (a : Memo) : (keeps Try.prog G_laws_toMemory (an_laws_toMemory (a, ())) (Try.f42.body.getD .skip) Try.f42.results.toList C_laws_toMemory (a, ())) = ((((Go.Proofs.Ytpdddafaelbgkaa.szIm (Go.Proofs.Ytpdddafaelbgkaa.Memo.what a)) ≤ (1048576 : Int)) ∧
 (((@Nat.cast Int _ (List.length (Go.Proofs.Ytpdddafaelbgkaa.Memo.regions a))) ≤ (1048576 : Int)) ∧
 (((Go.Proofs.Ytpdddafaelbgkaa.Img.base (Go.Proofs.Ytpdddafaelbgkaa.Memo.what a)) = (Go.Proofs.Ytpdddafaelbgkaa.Img.base (Go.Proofs.Ytpdddafaelbgkaa.Memo.what a))) ∧
 ((@Eq (List Int) (Go.Proofs.Ytpdddafaelbgkaa.Img.bytes (Go.Proofs.Ytpdddafaelbgkaa.Memo.what a)) (Go.Proofs.Ytpdddafaelbgkaa.Img.bytes (Go.Proofs.Ytpdddafaelbgkaa.Memo.what a))) ∧
 ((@Eq (List Go.Proofs.Ytpdddafaelbgkaa.Region) (Go.Proofs.Ytpdddafaelbgkaa.Memo.regions a) (Go.Proofs.Ytpdddafaelbgkaa.Memo.regions a)) ∧
 True)))))) := by kernel_rfl
theorem det_laws_toMemory : C_laws_toMemory.det = true → ∀ x, (C_laws_toMemory.out x).Det := fun _ x => by simp only [C_laws_toMemory]; repeat (first | exact Det.ret _ | exact Det.vc' | apply Det.req | apply Det.giv | apply Det.fork | apply Det.bif' | intro _)
set_option maxRecDepth 200000 in
set_option maxHeartbeats 1000000 in
theorem ok_laws_toMemory : ConOK Try.prog 42 C_laws_toMemory := by
  refine con_mk (wr := false) (ty := tyL [(3, .i), (5, .u), (4, .bool), (9, .str), (163, .int .u64), (71, .st .fixup), (24, .st .img), (39, .st .region), (35, .st .mem), (30, .st .patch), (94, .st .hash), (92, .list .i), (90, .list .str), (22, .list .u), (67, .st .fixup), (52, .st .img), (149, .st .region), (55, .st .mem), (101, .st .hash)]) (l := [(45, C_laws_toImage), (109, C_laws_toRegionS)]) ⟨⟨ok_laws_toImage, det_laws_toImage⟩, ⟨⟨ok_laws_toRegionS, det_laws_toRegionS⟩, trivial⟩⟩ Try.checked.mixed (fn := Try.f42) (body := Try.f42.body.getD .skip) Try.func42 rfl (by decide) (by kernel_rfl) rfl an_laws_toMemory fun x ho hx => ?_
  obtain ⟨a, ⟨⟩⟩ := x
  refine Keeps.of (vc_laws_toMemory a) ?_
  revert a ho hx
  show ∀ (a : Memo), _
  intro a ho hx
  dsimp only [C_laws_toMemory, okPTL, okPT, Ok, Ty.cells, SN.cells, OkL, OkC, okI, ci, cb, cs, cl] at ho
  dsimp only [C_laws_toMemory, vc, v1, decB, SR.pre] at hx
  simp only [decide_eq_true_eq, decide_eq_false_iff_not, Bool.not_eq_true', Bool.not_eq_false', and_true, true_and, Int.toNat_natCast, exists_eq_left', exists_eq_left, exists_and_left, Int.not_lt, Int.not_le, Bool.false_eq_true, false_implies, implies_true, forall_const, List.length_append, List.length_cons, List.length_nil, Int.sub_add_cancel, Int.add_sub_cancel, and_imp, get_set_iff, forall_eq', forall_eq, List.set_set, mkd_get, mkd_len, List.length_set, Option.some.injEq]; (repeat' first | intro _ | apply And.intro); all_goals (try omega); all_goals grind [szIm, szMe, szHa, szPa]
def C_laws_szMemory : Con := { ps := [.ro (.st .mem), .ro .i], out := fun x => let a : Memo := x.1; let left : Int := x.2.1; .req (0 ≤ left ∧ left ≤ 1048576) (vc .i (szR (szMe a) left)), det := true }
def G_laws_szMemory : Cfg := mkG (tyL [(3, .i), (5, .u), (4, .bool), (9, .str), (163, .int .u64), (71, .st .fixup), (24, .st .img), (39, .st .region), (35, .st .mem), (30, .st .patch), (94, .st .hash), (92, .list .i), (90, .list .str), (22, .list .u), (67, .st .fixup), (52, .st .img), (149, .st .region), (55, .st .mem), (101, .st .hash)]) [(44, C_laws_szImage), (108, C_laws_szRegionS)] false
def an_laws_szMemory : PTL C_laws_szMemory.ps → Nat → Option Ann := fun _ _ => none
set_option maxRecDepth 200000 in
theorem vc_laws_szMemory (a : Memo) (left : Int) : (keeps Try.prog G_laws_szMemory (an_laws_szMemory (a, left, ())) (Try.f41.body.getD .skip) Try.f41.results.toList C_laws_szMemory (a, left, ())) = (((((0 : Int) ≤ left) ∧
 (left ≤ (1048576 : Int))) ∧
 ((((decide ((Go.Proofs.Ytpdddafaelbgkaa.szR (Go.Proofs.Ytpdddafaelbgkaa.szIm (Go.Proofs.Ytpdddafaelbgkaa.Memo.what a)) left) < (0 : Int))) = true) →
 (((- (1 : Int)) = (Go.Proofs.Ytpdddafaelbgkaa.szR (Go.Proofs.Ytpdddafaelbgkaa.szMe a) left)) ∧
 True)) ∧
 (((decide ((Go.Proofs.Ytpdddafaelbgkaa.szR (Go.Proofs.Ytpdddafaelbgkaa.szIm (Go.Proofs.Ytpdddafaelbgkaa.Memo.what a)) left) < (0 : Int))) = false) →
 ((((0 : Int) ≤ (Go.Proofs.Ytpdddafaelbgkaa.szR (Go.Proofs.Ytpdddafaelbgkaa.szIm (Go.Proofs.Ytpdddafaelbgkaa.Memo.what a)) left)) ∧
 ((Go.Proofs.Ytpdddafaelbgkaa.szR (Go.Proofs.Ytpdddafaelbgkaa.szIm (Go.Proofs.Ytpdddafaelbgkaa.Memo.what a)) left) ≤ (1048576 : Int))) ∧
 ((((decide ((Go.Proofs.Ytpdddafaelbgkaa.szR (@Nat.cast Int _ (List.length (Go.Proofs.Ytpdddafaelbgkaa.Memo.regions a))) (Go.Proofs.Ytpdddafaelbgkaa.szR (Go.Proofs.Ytpdddafaelbgkaa.szIm (Go.Proofs.Ytpdddafaelbgkaa.Memo.what a)) left)) < (0 : Int))) = true) →
 (((- (1 : Int)) = (Go.Proofs.Ytpdddafaelbgkaa.szR (Go.Proofs.Ytpdddafaelbgkaa.szMe a) left)) ∧
 True)) ∧
 (((decide ((Go.Proofs.Ytpdddafaelbgkaa.szR (@Nat.cast Int _ (List.length (Go.Proofs.Ytpdddafaelbgkaa.Memo.regions a))) (Go.Proofs.Ytpdddafaelbgkaa.szR (Go.Proofs.Ytpdddafaelbgkaa.szIm (Go.Proofs.Ytpdddafaelbgkaa.Memo.what a)) left)) < (0 : Int))) = false) →
 (((Go.Proofs.Ytpdddafaelbgkaa.szR (@Nat.cast Int _ (List.length (Go.Proofs.Ytpdddafaelbgkaa.Memo.regions a))) (Go.Proofs.Ytpdddafaelbgkaa.szR (Go.Proofs.Ytpdddafaelbgkaa.szIm (Go.Proofs.Ytpdddafaelbgkaa.Memo.what a)) left)) = (Go.Proofs.Ytpdddafaelbgkaa.szR (Go.Proofs.Ytpdddafaelbgkaa.szMe a) left)) ∧
 True)))))))) := by kernel_rfl
theorem det_laws_szMemory : C_laws_szMemory.det = true → ∀ x, (C_laws_szMemory.out x).Det := fun _ x => by simp only [C_laws_szMemory]; repeat (first | exact Det.ret _ | exact Det.vc' | apply Det.req | apply Det.giv | apply Det.fork | apply Det.bif' | intro _)
set_option maxRecDepth 200000 in
set_option maxHeartbeats 1000000 in
theorem ok_laws_szMemory : ConOK Try.prog 41 C_laws_szMemory := by
  refine con_mk (wr := false) (ty := tyL [(3, .i), (5, .u), (4, .bool), (9, .str), (163, .int .u64), (71, .st .fixup), (24, .st .img), (39, .st .region), (35, .st .mem), (30, .st .patch), (94, .st .hash), (92, .list .i), (90, .list .str), (22, .list .u), (67, .st .fixup), (52, .st .img), (149, .st .region), (55, .st .mem), (101, .st .hash)]) (l := [(44, C_laws_szImage), (108, C_laws_szRegionS)]) ⟨⟨ok_laws_szImage, det_laws_szImage⟩, ⟨⟨ok_laws_szRegionS, det_laws_szRegionS⟩, trivial⟩⟩ Try.checked.mixed (fn := Try.f41) (body := Try.f41.body.getD .skip) Try.func41 rfl (by decide) (by kernel_rfl) rfl an_laws_szMemory fun x ho hx => ?_
  obtain ⟨a, left, ⟨⟩⟩ := x
  refine Keeps.of (vc_laws_szMemory a left) ?_
  revert a left ho hx
  show ∀ (a : Memo) (left : Int), _
  intro a left ho hx
  dsimp only [C_laws_szMemory, okPTL, okPT, Ok, Ty.cells, SN.cells, OkL, OkC, okI, ci, cb, cs, cl] at ho
  dsimp only [C_laws_szMemory, vc, v1, decB, SR.pre] at hx
  simp only [decide_eq_true_eq, decide_eq_false_iff_not, Bool.not_eq_true', Bool.not_eq_false', and_true, true_and, Int.toNat_natCast, exists_eq_left', exists_eq_left, exists_and_left, Int.not_lt, Int.not_le, Bool.false_eq_true, false_implies, implies_true, forall_const, List.length_append, List.length_cons, List.length_nil, Int.sub_add_cancel, Int.add_sub_cancel, and_imp, get_set_iff, forall_eq', forall_eq, List.set_set, mkd_get, mkd_len, List.length_set, Option.some.injEq]; (repeat' first | intro _ | apply And.intro); all_goals (try omega); all_goals grind [szR, szIm, szMe, szHa, szPa]
def C_laws_eqMemory : Con := { ps := [.ro (.st .mem), .ro (.st .mem)], out := fun x => let a : Memo := x.1; let b : Memo := x.2.1; vc .bool (decide (a = b)), det := true }
def G_laws_eqMemory : Cfg := mkG (tyL [(3, .i), (5, .u), (4, .bool), (9, .str), (163, .int .u64), (71, .st .fixup), (24, .st .img), (39, .st .region), (35, .st .mem), (30, .st .patch), (94, .st .hash), (92, .list .i), (90, .list .str), (22, .list .u), (67, .st .fixup), (52, .st .img), (149, .st .region), (55, .st .mem), (101, .st .hash)]) [(47, C_laws_eqImage), (110, C_laws_eqRegionS)] false
def an_laws_eqMemory : PTL C_laws_eqMemory.ps → Nat → Option Ann := fun _ _ => none
set_option maxRecDepth 200000 in
theorem vc_laws_eqMemory (a : Memo) (b : Memo) : (keeps Try.prog G_laws_eqMemory (an_laws_eqMemory (a, b, ())) (Try.f43.body.getD .skip) Try.f43.results.toList C_laws_eqMemory (a, b, ())) = (((((Bool.not (decide (@Eq Go.Proofs.Ytpdddafaelbgkaa.Img (Go.Proofs.Ytpdddafaelbgkaa.Memo.what a) (Go.Proofs.Ytpdddafaelbgkaa.Memo.what b)))) = true) →
 ((false = (decide (@Eq Go.Proofs.Ytpdddafaelbgkaa.Memo a b))) ∧
 True)) ∧
 (((Bool.not (decide (@Eq Go.Proofs.Ytpdddafaelbgkaa.Img (Go.Proofs.Ytpdddafaelbgkaa.Memo.what a) (Go.Proofs.Ytpdddafaelbgkaa.Memo.what b)))) = false) →
 ((((Bool.not (decide (@Eq (List Go.Proofs.Ytpdddafaelbgkaa.Region) (Go.Proofs.Ytpdddafaelbgkaa.Memo.regions a) (Go.Proofs.Ytpdddafaelbgkaa.Memo.regions b)))) = true) →
 ((false = (decide (@Eq Go.Proofs.Ytpdddafaelbgkaa.Memo a b))) ∧
 True)) ∧
 (((Bool.not (decide (@Eq (List Go.Proofs.Ytpdddafaelbgkaa.Region) (Go.Proofs.Ytpdddafaelbgkaa.Memo.regions a) (Go.Proofs.Ytpdddafaelbgkaa.Memo.regions b)))) = false) →
 ((true = (decide (@Eq Go.Proofs.Ytpdddafaelbgkaa.Memo a b))) ∧
 True)))))) := by kernel_rfl
theorem det_laws_eqMemory : C_laws_eqMemory.det = true → ∀ x, (C_laws_eqMemory.out x).Det := fun _ x => by simp only [C_laws_eqMemory]; repeat (first | exact Det.ret _ | exact Det.vc' | apply Det.req | apply Det.giv | apply Det.fork | apply Det.bif' | intro _)
set_option maxRecDepth 200000 in
set_option maxHeartbeats 1000000 in
theorem ok_laws_eqMemory : ConOK Try.prog 43 C_laws_eqMemory := by
  refine con_mk (wr := false) (ty := tyL [(3, .i), (5, .u), (4, .bool), (9, .str), (163, .int .u64), (71, .st .fixup), (24, .st .img), (39, .st .region), (35, .st .mem), (30, .st .patch), (94, .st .hash), (92, .list .i), (90, .list .str), (22, .list .u), (67, .st .fixup), (52, .st .img), (149, .st .region), (55, .st .mem), (101, .st .hash)]) (l := [(47, C_laws_eqImage), (110, C_laws_eqRegionS)]) ⟨⟨ok_laws_eqImage, det_laws_eqImage⟩, ⟨⟨ok_laws_eqRegionS, det_laws_eqRegionS⟩, trivial⟩⟩ Try.checked.mixed (fn := Try.f43) (body := Try.f43.body.getD .skip) Try.func43 rfl (by decide) (by kernel_rfl) rfl an_laws_eqMemory fun x ho hx => ?_
  obtain ⟨a, b, ⟨⟩⟩ := x
  refine Keeps.of (vc_laws_eqMemory a b) ?_
  revert a b ho hx
  show ∀ (a : Memo) (b : Memo), _
  intro a b ho hx
  dsimp only [C_laws_eqMemory, okPTL, okPT, Ok, Ty.cells, SN.cells, OkL, OkC, okI, ci, cb, cs, cl] at ho
  dsimp only [C_laws_eqMemory, vc, v1, decB, SR.pre] at hx
  simp only [decide_eq_true_eq, decide_eq_false_iff_not, Bool.not_eq_true', Bool.not_eq_false', and_true, true_and, Int.toNat_natCast, exists_eq_left', exists_eq_left, exists_and_left, Int.not_lt, Int.not_le, Bool.false_eq_true, false_implies, implies_true, forall_const, List.length_append, List.length_cons, List.length_nil, Int.sub_add_cancel, Int.add_sub_cancel, and_imp, get_set_iff, forall_eq', forall_eq, List.set_set, mkd_get, mkd_len, List.length_set, Option.some.injEq]; (repeat' first | intro _ | apply And.intro); all_goals (try omega); all_goals (first | grind [cases Img] | (cases a; cases b; simp_all; done) | (obtain ⟨⟨_, _⟩, _⟩ := a; obtain ⟨⟨_, _⟩, _⟩ := b; simp_all; done) | (obtain ⟨_, _, _⟩ := a; obtain ⟨_, _, _⟩ := b; simp_all; done) | (obtain ⟨_, ⟨_, _⟩⟩ := a; obtain ⟨_, ⟨_, _⟩⟩ := b; simp_all; done))
def C_laws_markMemory : Con := { ps := [.own .mem, .ro .i], out := fun x => let a : Memo := x.1; let k : Int := x.2.1; .req (0 ≤ k ∧ k + cMe a ≤ 1000000000000) (turnS .mem (mkMe a k) (k + cMe a)), det := true }
def G_laws_markMemory : Cfg := mkG (tyL [(3, .i), (5, .u), (4, .bool), (9, .str), (163, .int .u64), (71, .st .fixup), (24, .st .img), (39, .st .region), (35, .st .mem), (30, .st .patch), (94, .st .hash), (92, .list .i), (90, .list .str), (22, .list .u), (67, .st .fixup), (52, .st .img), (149, .st .region), (55, .st .mem), (101, .st .hash)]) [(48, C_laws_markImage), (123, C_laws_markRegionS)] false
def an_laws_markMemory : PTL C_laws_markMemory.ps → Nat → Option Ann := fun _ _ => none
set_option maxRecDepth 200000 in
theorem vc_laws_markMemory (a : Memo) (k : Int) : (keeps Try.prog G_laws_markMemory (an_laws_markMemory (a, k, ())) (Try.f73.body.getD .skip) Try.f73.results.toList C_laws_markMemory (a, k, ())) = (((((0 : Int) ≤ k) ∧
 ((k + (Go.Proofs.Ytpdddafaelbgkaa.cIm (Go.Proofs.Ytpdddafaelbgkaa.Memo.what a))) ≤ (1000000000000 : Int))) ∧
 ((((0 : Int) ≤ (k + (Go.Proofs.Ytpdddafaelbgkaa.cIm (Go.Proofs.Ytpdddafaelbgkaa.Memo.what a)))) ∧
 (((k + (Go.Proofs.Ytpdddafaelbgkaa.cIm (Go.Proofs.Ytpdddafaelbgkaa.Memo.what a))) + (@Go.Proofs.Ytpdddafaelbgkaa.sumI Go.Proofs.Ytpdddafaelbgkaa.Region (@Go.Proofs.Ytpdddafaelbgkaa.c4 Go.Proofs.Ytpdddafaelbgkaa.Region) (Go.Proofs.Ytpdddafaelbgkaa.Memo.regions a))) ≤ (1000000000000 : Int))) ∧
 ((((k + (Go.Proofs.Ytpdddafaelbgkaa.cIm (Go.Proofs.Ytpdddafaelbgkaa.Memo.what a))) + (@Go.Proofs.Ytpdddafaelbgkaa.sumI Go.Proofs.Ytpdddafaelbgkaa.Region (@Go.Proofs.Ytpdddafaelbgkaa.c4 Go.Proofs.Ytpdddafaelbgkaa.Region) (Go.Proofs.Ytpdddafaelbgkaa.Memo.regions a))) = (k + (Go.Proofs.Ytpdddafaelbgkaa.cMe a))) ∧
 ((@Eq (List Int) (@Go.Proofs.Ytpdddafaelbgkaa.mkL Int Go.Proofs.Ytpdddafaelbgkaa.mkU (@Go.Proofs.Ytpdddafaelbgkaa.cOne Int) (Go.Proofs.Ytpdddafaelbgkaa.Img.bytes (Go.Proofs.Ytpdddafaelbgkaa.Memo.what a)) k) (Go.Proofs.Ytpdddafaelbgkaa.Img.bytes (Go.Proofs.Ytpdddafaelbgkaa.Memo.what (Go.Proofs.Ytpdddafaelbgkaa.mkMe a k)))) ∧
 ((@Eq (List Go.Proofs.Ytpdddafaelbgkaa.Region) (@Go.Proofs.Ytpdddafaelbgkaa.mkL Go.Proofs.Ytpdddafaelbgkaa.Region Go.Proofs.Ytpdddafaelbgkaa.mkRg (@Go.Proofs.Ytpdddafaelbgkaa.c4 Go.Proofs.Ytpdddafaelbgkaa.Region) (Go.Proofs.Ytpdddafaelbgkaa.Memo.regions a) (k + (Go.Proofs.Ytpdddafaelbgkaa.cIm (Go.Proofs.Ytpdddafaelbgkaa.Memo.what a)))) (Go.Proofs.Ytpdddafaelbgkaa.Memo.regions (Go.Proofs.Ytpdddafaelbgkaa.mkMe a k))) ∧
 True)))))) := by kernel_rfl
theorem det_laws_markMemory : C_laws_markMemory.det = true → ∀ x, (C_laws_markMemory.out x).Det := fun _ x => by simp only [C_laws_markMemory]; repeat (first | exact Det.ret _ | exact Det.vc' | apply Det.req | apply Det.giv | apply Det.fork | apply Det.bif' | intro _)
set_option maxRecDepth 200000 in
set_option maxHeartbeats 1000000 in
theorem ok_laws_markMemory : ConOK Try.prog 73 C_laws_markMemory := by
  refine con_mk (wr := false) (ty := tyL [(3, .i), (5, .u), (4, .bool), (9, .str), (163, .int .u64), (71, .st .fixup), (24, .st .img), (39, .st .region), (35, .st .mem), (30, .st .patch), (94, .st .hash), (92, .list .i), (90, .list .str), (22, .list .u), (67, .st .fixup), (52, .st .img), (149, .st .region), (55, .st .mem), (101, .st .hash)]) (l := [(48, C_laws_markImage), (123, C_laws_markRegionS)]) ⟨⟨ok_laws_markImage, det_laws_markImage⟩, ⟨⟨ok_laws_markRegionS, det_laws_markRegionS⟩, trivial⟩⟩ Try.checked.mixed (fn := Try.f73) (body := Try.f73.body.getD .skip) Try.func73 rfl (by decide) (by kernel_rfl) rfl an_laws_markMemory fun x ho hx => ?_
  obtain ⟨a, k, ⟨⟩⟩ := x
  refine Keeps.of (vc_laws_markMemory a k) ?_
  revert a k ho hx
  show ∀ (a : Memo) (k : Int), _
  intro a k ho hx
  dsimp only [C_laws_markMemory, okPTL, okPT, Ok, Ty.cells, SN.cells, OkL, OkC, okI, ci, cb, cs, cl] at ho
  dsimp only [C_laws_markMemory, vc, v1, decB, SR.pre] at hx
  have f0 := cOne_ge a.what.bytes
  have f1 := c4_ge a.regions
  simp only [decide_eq_true_eq, decide_eq_false_iff_not, Bool.not_eq_true', Bool.not_eq_false', and_true, true_and, Int.toNat_natCast, exists_eq_left', exists_eq_left, exists_and_left, Int.not_lt, Int.not_le, Bool.false_eq_true, false_implies, implies_true, forall_const, List.length_append, List.length_cons, List.length_nil, Int.sub_add_cancel, Int.add_sub_cancel, and_imp, get_set_iff, forall_eq', forall_eq, List.set_set, mkd_get, mkd_len, List.length_set, Option.some.injEq]; (repeat' first | intro _ | apply And.intro); all_goals (try omega); all_goals (first | grind [cIm, mkIm, cMe, mkMe, cHa, mkHa, cOb, mkOb] | (simp only [cIm, mkIm, cMe, mkMe, cHa, mkHa, cOb, mkOb] at *; omega) | (simp [cIm, mkIm, cMe, mkMe, cHa, mkHa, cOb, mkOb]))
def C_laws_heldMemory : Con := { ps := [.ro (.st .mem), .ro .i], out := fun x => let a : Memo := x.1; let k : Int := x.2.1; .req (0 ≤ k ∧ k + cMe a ≤ 1000000000000) (vc .i (hMe a k)), det := true }
def G_laws_heldMemory : Cfg := mkG (tyL [(3, .i), (5, .u), (4, .bool), (9, .str), (163, .int .u64), (71, .st .fixup), (24, .st .img), (39, .st .region), (35, .st .mem), (30, .st .patch), (94, .st .hash), (92, .list .i), (90, .list .str), (22, .list .u), (67, .st .fixup), (52, .st .img), (149, .st .region), (55, .st .mem), (101, .st .hash)]) [(124, C_laws_heldImage), (125, C_laws_heldRegionS)] false
def an_laws_heldMemory : PTL C_laws_heldMemory.ps → Nat → Option Ann := fun _ _ => none
set_option maxRecDepth 200000 in
theorem vc_laws_heldMemory (a : Memo) (k : Int) : (keeps Try.prog G_laws_heldMemory (an_laws_heldMemory (a, k, ())) (Try.f74.body.getD .skip) Try.f74.results.toList C_laws_heldMemory (a, k, ())) = (((((0 : Int) ≤ k) ∧
 ((k + (Go.Proofs.Ytpdddafaelbgkaa.cIm (Go.Proofs.Ytpdddafaelbgkaa.Memo.what a))) ≤ (1000000000000 : Int))) ∧
 ((((decide ((Go.Proofs.Ytpdddafaelbgkaa.hIm (Go.Proofs.Ytpdddafaelbgkaa.Memo.what a) k) < (0 : Int))) = true) →
 (((- (1 : Int)) = (Go.Proofs.Ytpdddafaelbgkaa.hMe a k)) ∧
 True)) ∧
 (((decide ((Go.Proofs.Ytpdddafaelbgkaa.hIm (Go.Proofs.Ytpdddafaelbgkaa.Memo.what a) k) < (0 : Int))) = false) →
 ((((0 : Int) ≤ (Go.Proofs.Ytpdddafaelbgkaa.hIm (Go.Proofs.Ytpdddafaelbgkaa.Memo.what a) k)) ∧
 (((Go.Proofs.Ytpdddafaelbgkaa.hIm (Go.Proofs.Ytpdddafaelbgkaa.Memo.what a) k) + (@Go.Proofs.Ytpdddafaelbgkaa.sumI Go.Proofs.Ytpdddafaelbgkaa.Region (@Go.Proofs.Ytpdddafaelbgkaa.c4 Go.Proofs.Ytpdddafaelbgkaa.Region) (Go.Proofs.Ytpdddafaelbgkaa.Memo.regions a))) ≤ (1000000000000 : Int))) ∧
 ((((decide ((@Go.Proofs.Ytpdddafaelbgkaa.hdL Go.Proofs.Ytpdddafaelbgkaa.Region Go.Proofs.Ytpdddafaelbgkaa.hRg (Go.Proofs.Ytpdddafaelbgkaa.Memo.regions a) (Go.Proofs.Ytpdddafaelbgkaa.hIm (Go.Proofs.Ytpdddafaelbgkaa.Memo.what a) k)) < (0 : Int))) = true) →
 (((- (1 : Int)) = (Go.Proofs.Ytpdddafaelbgkaa.hMe a k)) ∧
 True)) ∧
 (((decide ((@Go.Proofs.Ytpdddafaelbgkaa.hdL Go.Proofs.Ytpdddafaelbgkaa.Region Go.Proofs.Ytpdddafaelbgkaa.hRg (Go.Proofs.Ytpdddafaelbgkaa.Memo.regions a) (Go.Proofs.Ytpdddafaelbgkaa.hIm (Go.Proofs.Ytpdddafaelbgkaa.Memo.what a) k)) < (0 : Int))) = false) →
 (((@Go.Proofs.Ytpdddafaelbgkaa.hdL Go.Proofs.Ytpdddafaelbgkaa.Region Go.Proofs.Ytpdddafaelbgkaa.hRg (Go.Proofs.Ytpdddafaelbgkaa.Memo.regions a) (Go.Proofs.Ytpdddafaelbgkaa.hIm (Go.Proofs.Ytpdddafaelbgkaa.Memo.what a) k)) = (Go.Proofs.Ytpdddafaelbgkaa.hMe a k)) ∧
 True)))))))) := by kernel_rfl
theorem det_laws_heldMemory : C_laws_heldMemory.det = true → ∀ x, (C_laws_heldMemory.out x).Det := fun _ x => by simp only [C_laws_heldMemory]; repeat (first | exact Det.ret _ | exact Det.vc' | apply Det.req | apply Det.giv | apply Det.fork | apply Det.bif' | intro _)
set_option maxRecDepth 200000 in
set_option maxHeartbeats 1000000 in
theorem ok_laws_heldMemory : ConOK Try.prog 74 C_laws_heldMemory := by
  refine con_mk (wr := false) (ty := tyL [(3, .i), (5, .u), (4, .bool), (9, .str), (163, .int .u64), (71, .st .fixup), (24, .st .img), (39, .st .region), (35, .st .mem), (30, .st .patch), (94, .st .hash), (92, .list .i), (90, .list .str), (22, .list .u), (67, .st .fixup), (52, .st .img), (149, .st .region), (55, .st .mem), (101, .st .hash)]) (l := [(124, C_laws_heldImage), (125, C_laws_heldRegionS)]) ⟨⟨ok_laws_heldImage, det_laws_heldImage⟩, ⟨⟨ok_laws_heldRegionS, det_laws_heldRegionS⟩, trivial⟩⟩ Try.checked.mixed (fn := Try.f74) (body := Try.f74.body.getD .skip) Try.func74 rfl (by decide) (by kernel_rfl) rfl an_laws_heldMemory fun x ho hx => ?_
  obtain ⟨a, k, ⟨⟩⟩ := x
  refine Keeps.of (vc_laws_heldMemory a k) ?_
  revert a k ho hx
  show ∀ (a : Memo) (k : Int), _
  intro a k ho hx
  dsimp only [C_laws_heldMemory, okPTL, okPT, Ok, Ty.cells, SN.cells, OkL, OkC, okI, ci, cb, cs, cl] at ho
  dsimp only [C_laws_heldMemory, vc, v1, decB, SR.pre] at hx
  have f0 := cOne_ge a.what.bytes
  have f1 := c4_ge a.regions
  have f2 := hdU_or a.what.bytes k
  have f3 := hdRg_or a.regions (k + sumI cOne a.what.bytes)
  simp only [decide_eq_true_eq, decide_eq_false_iff_not, Bool.not_eq_true', Bool.not_eq_false', and_true, true_and, Int.toNat_natCast, exists_eq_left', exists_eq_left, exists_and_left, Int.not_lt, Int.not_le, Bool.false_eq_true, false_implies, implies_true, forall_const, List.length_append, List.length_cons, List.length_nil, Int.sub_add_cancel, Int.add_sub_cancel, and_imp, get_set_iff, forall_eq', forall_eq, List.set_set, mkd_get, mkd_len, List.length_set, Option.some.injEq]; (repeat' first | intro _ | apply And.intro); all_goals (try omega); all_goals grind [hIm, cIm, hMe, cMe, hHa, cHa, hOb, cOb]
def C_laws_toHashTable : Con := { ps := [.ro (.st .hash)], out := fun x => let a : HashT := x.1; .req (szHa a ≤ 1048576) (newS .hash a), det := true }
def G_laws_toHashTable : Cfg := mkG (tyL [(3, .i), (5, .u), (4, .bool), (9, .str), (163, .int .u64), (71, .st .fixup), (24, .st .img), (39, .st .region), (35, .st .mem), (30, .st .patch), (94, .st .hash), (92, .list .i), (90, .list .str), (22, .list .u), (67, .st .fixup), (52, .st .img), (149, .st .region), (55, .st .mem), (101, .st .hash)]) [(77, C_laws_toStringS), (140, C_laws_toIntS)] false
def an_laws_toHashTable : PTL C_laws_toHashTable.ps → Nat → Option Ann := fun _ _ => none
set_option maxRecDepth 200000 in
theorem vc_laws_toHashTable (a : HashT) : (keeps Try.prog G_laws_toHashTable (an_laws_toHashTable (a, ())) (Try.f86.body.getD .skip) Try.f86.results.toList C_laws_toHashTable (a, ())) = (((((@Nat.cast Int _ (List.length (Go.Proofs.Ytpdddafaelbgkaa.HashT.names a))) + (@Go.Proofs.Ytpdddafaelbgkaa.sumI ByteArray (fun (s_1 : ByteArray) => (@Nat.cast Int _ (ByteArray.size s_1))) (Go.Proofs.Ytpdddafaelbgkaa.HashT.names a))) ≤ (1048576 : Int)) ∧
 (((@Nat.cast Int _ (List.length (Go.Proofs.Ytpdddafaelbgkaa.HashT.first a))) ≤ (1048576 : Int)) ∧
 (((@Nat.cast Int _ (List.length (Go.Proofs.Ytpdddafaelbgkaa.HashT.next a))) ≤ (1048576 : Int)) ∧
 ((@Eq (List ByteArray) (Go.Proofs.Ytpdddafaelbgkaa.HashT.names a) (Go.Proofs.Ytpdddafaelbgkaa.HashT.names a)) ∧
 ((@Eq (List Int) (Go.Proofs.Ytpdddafaelbgkaa.HashT.first a) (Go.Proofs.Ytpdddafaelbgkaa.HashT.first a)) ∧
 ((@Eq (List Int) (Go.Proofs.Ytpdddafaelbgkaa.HashT.next a) (Go.Proofs.Ytpdddafaelbgkaa.HashT.next a)) ∧
 True))))))) := by kernel_rfl
theorem det_laws_toHashTable : C_laws_toHashTable.det = true → ∀ x, (C_laws_toHashTable.out x).Det := fun _ x => by simp only [C_laws_toHashTable]; repeat (first | exact Det.ret _ | exact Det.vc' | apply Det.req | apply Det.giv | apply Det.fork | apply Det.bif' | intro _)
set_option maxRecDepth 200000 in
set_option maxHeartbeats 1000000 in
theorem ok_laws_toHashTable : ConOK Try.prog 86 C_laws_toHashTable := by
  refine con_mk (wr := false) (ty := tyL [(3, .i), (5, .u), (4, .bool), (9, .str), (163, .int .u64), (71, .st .fixup), (24, .st .img), (39, .st .region), (35, .st .mem), (30, .st .patch), (94, .st .hash), (92, .list .i), (90, .list .str), (22, .list .u), (67, .st .fixup), (52, .st .img), (149, .st .region), (55, .st .mem), (101, .st .hash)]) (l := [(77, C_laws_toStringS), (140, C_laws_toIntS)]) ⟨⟨ok_laws_toStringS, det_laws_toStringS⟩, ⟨⟨ok_laws_toIntS, det_laws_toIntS⟩, trivial⟩⟩ Try.checked.mixed (fn := Try.f86) (body := Try.f86.body.getD .skip) Try.func86 rfl (by decide) (by kernel_rfl) rfl an_laws_toHashTable fun x ho hx => ?_
  obtain ⟨a, ⟨⟩⟩ := x
  refine Keeps.of (vc_laws_toHashTable a) ?_
  revert a ho hx
  show ∀ (a : HashT), _
  intro a ho hx
  dsimp only [C_laws_toHashTable, okPTL, okPT, Ok, Ty.cells, SN.cells, OkL, OkC, okI, ci, cb, cs, cl] at ho
  dsimp only [C_laws_toHashTable, vc, v1, decB, SR.pre] at hx
  have f0 := sumI_nn (f := fun s : ByteArray => (s.size : Int)) szStr_nn a.names
  simp only [decide_eq_true_eq, decide_eq_false_iff_not, Bool.not_eq_true', Bool.not_eq_false', and_true, true_and, Int.toNat_natCast, exists_eq_left', exists_eq_left, exists_and_left, Int.not_lt, Int.not_le, Bool.false_eq_true, false_implies, implies_true, forall_const, List.length_append, List.length_cons, List.length_nil, Int.sub_add_cancel, Int.add_sub_cancel, and_imp, get_set_iff, forall_eq', forall_eq, List.set_set, mkd_get, mkd_len, List.length_set, Option.some.injEq]; (repeat' first | intro _ | apply And.intro); all_goals (try omega); all_goals grind [szIm, szMe, szHa, szPa]
def C_laws_szHashTable : Con := { ps := [.ro (.st .hash), .ro .i], out := fun x => let a : HashT := x.1; let left : Int := x.2.1; .req (0 ≤ left ∧ left ≤ 1048576) (vc .i (szR (szHa a) left)), det := true }
def G_laws_szHashTable : Cfg := mkG (tyL [(3, .i), (5, .u), (4, .bool), (9, .str), (163, .int .u64), (71, .st .fixup), (24, .st .img), (39, .st .region), (35, .st .mem), (30, .st .patch), (94, .st .hash), (92, .list .i), (90, .list .str), (22, .list .u), (67, .st .fixup), (52, .st .img), (149, .st .region), (55, .st .mem), (101, .st .hash)]) [(75, C_laws_szStringS), (138, C_laws_szIntS)] false
def an_laws_szHashTable : PTL C_laws_szHashTable.ps → Nat → Option Ann := fun _ _ => none
set_option maxRecDepth 200000 in
theorem vc_laws_szHashTable (a : HashT) (left : Int) : (keeps Try.prog G_laws_szHashTable (an_laws_szHashTable (a, left, ())) (Try.f84.body.getD .skip) Try.f84.results.toList C_laws_szHashTable (a, left, ())) = (((((0 : Int) ≤ left) ∧
 (left ≤ (1048576 : Int))) ∧
 ((((decide ((Go.Proofs.Ytpdddafaelbgkaa.szR ((@Nat.cast Int _ (List.length (Go.Proofs.Ytpdddafaelbgkaa.HashT.names a))) + (@Go.Proofs.Ytpdddafaelbgkaa.sumI ByteArray (fun (s_1 : ByteArray) => (@Nat.cast Int _ (ByteArray.size s_1))) (Go.Proofs.Ytpdddafaelbgkaa.HashT.names a))) left) < (0 : Int))) = true) →
 (((- (1 : Int)) = (Go.Proofs.Ytpdddafaelbgkaa.szR (Go.Proofs.Ytpdddafaelbgkaa.szHa a) left)) ∧
 True)) ∧
 (((decide ((Go.Proofs.Ytpdddafaelbgkaa.szR ((@Nat.cast Int _ (List.length (Go.Proofs.Ytpdddafaelbgkaa.HashT.names a))) + (@Go.Proofs.Ytpdddafaelbgkaa.sumI ByteArray (fun (s_2 : ByteArray) => (@Nat.cast Int _ (ByteArray.size s_2))) (Go.Proofs.Ytpdddafaelbgkaa.HashT.names a))) left) < (0 : Int))) = false) →
 ((((0 : Int) ≤ (Go.Proofs.Ytpdddafaelbgkaa.szR ((@Nat.cast Int _ (List.length (Go.Proofs.Ytpdddafaelbgkaa.HashT.names a))) + (@Go.Proofs.Ytpdddafaelbgkaa.sumI ByteArray (fun (s_3 : ByteArray) => (@Nat.cast Int _ (ByteArray.size s_3))) (Go.Proofs.Ytpdddafaelbgkaa.HashT.names a))) left)) ∧
 ((Go.Proofs.Ytpdddafaelbgkaa.szR ((@Nat.cast Int _ (List.length (Go.Proofs.Ytpdddafaelbgkaa.HashT.names a))) + (@Go.Proofs.Ytpdddafaelbgkaa.sumI ByteArray (fun (s_4 : ByteArray) => (@Nat.cast Int _ (ByteArray.size s_4))) (Go.Proofs.Ytpdddafaelbgkaa.HashT.names a))) left) ≤ (1048576 : Int))) ∧
 ((((decide ((Go.Proofs.Ytpdddafaelbgkaa.szR (@Nat.cast Int _ (List.length (Go.Proofs.Ytpdddafaelbgkaa.HashT.first a))) (Go.Proofs.Ytpdddafaelbgkaa.szR ((@Nat.cast Int _ (List.length (Go.Proofs.Ytpdddafaelbgkaa.HashT.names a))) + (@Go.Proofs.Ytpdddafaelbgkaa.sumI ByteArray (fun (s_5 : ByteArray) => (@Nat.cast Int _ (ByteArray.size s_5))) (Go.Proofs.Ytpdddafaelbgkaa.HashT.names a))) left)) < (0 : Int))) = true) →
 (((- (1 : Int)) = (Go.Proofs.Ytpdddafaelbgkaa.szR (Go.Proofs.Ytpdddafaelbgkaa.szHa a) left)) ∧
 True)) ∧
 (((decide ((Go.Proofs.Ytpdddafaelbgkaa.szR (@Nat.cast Int _ (List.length (Go.Proofs.Ytpdddafaelbgkaa.HashT.first a))) (Go.Proofs.Ytpdddafaelbgkaa.szR ((@Nat.cast Int _ (List.length (Go.Proofs.Ytpdddafaelbgkaa.HashT.names a))) + (@Go.Proofs.Ytpdddafaelbgkaa.sumI ByteArray (fun (s_6 : ByteArray) => (@Nat.cast Int _ (ByteArray.size s_6))) (Go.Proofs.Ytpdddafaelbgkaa.HashT.names a))) left)) < (0 : Int))) = false) →
 ((((0 : Int) ≤ (Go.Proofs.Ytpdddafaelbgkaa.szR (@Nat.cast Int _ (List.length (Go.Proofs.Ytpdddafaelbgkaa.HashT.first a))) (Go.Proofs.Ytpdddafaelbgkaa.szR ((@Nat.cast Int _ (List.length (Go.Proofs.Ytpdddafaelbgkaa.HashT.names a))) + (@Go.Proofs.Ytpdddafaelbgkaa.sumI ByteArray (fun (s_7 : ByteArray) => (@Nat.cast Int _ (ByteArray.size s_7))) (Go.Proofs.Ytpdddafaelbgkaa.HashT.names a))) left))) ∧
 ((Go.Proofs.Ytpdddafaelbgkaa.szR (@Nat.cast Int _ (List.length (Go.Proofs.Ytpdddafaelbgkaa.HashT.first a))) (Go.Proofs.Ytpdddafaelbgkaa.szR ((@Nat.cast Int _ (List.length (Go.Proofs.Ytpdddafaelbgkaa.HashT.names a))) + (@Go.Proofs.Ytpdddafaelbgkaa.sumI ByteArray (fun (s_8 : ByteArray) => (@Nat.cast Int _ (ByteArray.size s_8))) (Go.Proofs.Ytpdddafaelbgkaa.HashT.names a))) left)) ≤ (1048576 : Int))) ∧
 ((((decide ((Go.Proofs.Ytpdddafaelbgkaa.szR (@Nat.cast Int _ (List.length (Go.Proofs.Ytpdddafaelbgkaa.HashT.next a))) (Go.Proofs.Ytpdddafaelbgkaa.szR (@Nat.cast Int _ (List.length (Go.Proofs.Ytpdddafaelbgkaa.HashT.first a))) (Go.Proofs.Ytpdddafaelbgkaa.szR ((@Nat.cast Int _ (List.length (Go.Proofs.Ytpdddafaelbgkaa.HashT.names a))) + (@Go.Proofs.Ytpdddafaelbgkaa.sumI ByteArray (fun (s_9 : ByteArray) => (@Nat.cast Int _ (ByteArray.size s_9))) (Go.Proofs.Ytpdddafaelbgkaa.HashT.names a))) left))) < (0 : Int))) = true) →
 (((- (1 : Int)) = (Go.Proofs.Ytpdddafaelbgkaa.szR (Go.Proofs.Ytpdddafaelbgkaa.szHa a) left)) ∧
 True)) ∧
 (((decide ((Go.Proofs.Ytpdddafaelbgkaa.szR (@Nat.cast Int _ (List.length (Go.Proofs.Ytpdddafaelbgkaa.HashT.next a))) (Go.Proofs.Ytpdddafaelbgkaa.szR (@Nat.cast Int _ (List.length (Go.Proofs.Ytpdddafaelbgkaa.HashT.first a))) (Go.Proofs.Ytpdddafaelbgkaa.szR ((@Nat.cast Int _ (List.length (Go.Proofs.Ytpdddafaelbgkaa.HashT.names a))) + (@Go.Proofs.Ytpdddafaelbgkaa.sumI ByteArray (fun (s_10 : ByteArray) => (@Nat.cast Int _ (ByteArray.size s_10))) (Go.Proofs.Ytpdddafaelbgkaa.HashT.names a))) left))) < (0 : Int))) = false) →
 (((Go.Proofs.Ytpdddafaelbgkaa.szR (@Nat.cast Int _ (List.length (Go.Proofs.Ytpdddafaelbgkaa.HashT.next a))) (Go.Proofs.Ytpdddafaelbgkaa.szR (@Nat.cast Int _ (List.length (Go.Proofs.Ytpdddafaelbgkaa.HashT.first a))) (Go.Proofs.Ytpdddafaelbgkaa.szR ((@Nat.cast Int _ (List.length (Go.Proofs.Ytpdddafaelbgkaa.HashT.names a))) + (@Go.Proofs.Ytpdddafaelbgkaa.sumI ByteArray (fun (s_11 : ByteArray) => (@Nat.cast Int _ (ByteArray.size s_11))) (Go.Proofs.Ytpdddafaelbgkaa.HashT.names a))) left))) = (Go.Proofs.Ytpdddafaelbgkaa.szR (Go.Proofs.Ytpdddafaelbgkaa.szHa a) left)) ∧
 True))))))))))) := by kernel_rfl
theorem det_laws_szHashTable : C_laws_szHashTable.det = true → ∀ x, (C_laws_szHashTable.out x).Det := fun _ x => by simp only [C_laws_szHashTable]; repeat (first | exact Det.ret _ | exact Det.vc' | apply Det.req | apply Det.giv | apply Det.fork | apply Det.bif' | intro _)
set_option maxRecDepth 200000 in
set_option maxHeartbeats 1000000 in
theorem ok_laws_szHashTable : ConOK Try.prog 84 C_laws_szHashTable := by
  refine con_mk (wr := false) (ty := tyL [(3, .i), (5, .u), (4, .bool), (9, .str), (163, .int .u64), (71, .st .fixup), (24, .st .img), (39, .st .region), (35, .st .mem), (30, .st .patch), (94, .st .hash), (92, .list .i), (90, .list .str), (22, .list .u), (67, .st .fixup), (52, .st .img), (149, .st .region), (55, .st .mem), (101, .st .hash)]) (l := [(75, C_laws_szStringS), (138, C_laws_szIntS)]) ⟨⟨ok_laws_szStringS, det_laws_szStringS⟩, ⟨⟨ok_laws_szIntS, det_laws_szIntS⟩, trivial⟩⟩ Try.checked.mixed (fn := Try.f84) (body := Try.f84.body.getD .skip) Try.func84 rfl (by decide) (by kernel_rfl) rfl an_laws_szHashTable fun x ho hx => ?_
  obtain ⟨a, left, ⟨⟩⟩ := x
  refine Keeps.of (vc_laws_szHashTable a left) ?_
  revert a left ho hx
  show ∀ (a : HashT) (left : Int), _
  intro a left ho hx
  dsimp only [C_laws_szHashTable, okPTL, okPT, Ok, Ty.cells, SN.cells, OkL, OkC, okI, ci, cb, cs, cl] at ho
  dsimp only [C_laws_szHashTable, vc, v1, decB, SR.pre] at hx
  have f0 := sumI_nn (f := fun s : ByteArray => (s.size : Int)) szStr_nn a.names
  simp only [decide_eq_true_eq, decide_eq_false_iff_not, Bool.not_eq_true', Bool.not_eq_false', and_true, true_and, Int.toNat_natCast, exists_eq_left', exists_eq_left, exists_and_left, Int.not_lt, Int.not_le, Bool.false_eq_true, false_implies, implies_true, forall_const, List.length_append, List.length_cons, List.length_nil, Int.sub_add_cancel, Int.add_sub_cancel, and_imp, get_set_iff, forall_eq', forall_eq, List.set_set, mkd_get, mkd_len, List.length_set, Option.some.injEq]; (repeat' first | intro _ | apply And.intro); all_goals (try omega); all_goals grind [szR, szIm, szMe, szHa, szPa]
def C_laws_eqHashTable : Con := { ps := [.ro (.st .hash), .ro (.st .hash)], out := fun x => let a : HashT := x.1; let b : HashT := x.2.1; vc .bool (decide (a = b)), det := true }
def G_laws_eqHashTable : Cfg := mkG (tyL [(3, .i), (5, .u), (4, .bool), (9, .str), (163, .int .u64), (71, .st .fixup), (24, .st .img), (39, .st .region), (35, .st .mem), (30, .st .patch), (94, .st .hash), (92, .list .i), (90, .list .str), (22, .list .u), (67, .st .fixup), (52, .st .img), (149, .st .region), (55, .st .mem), (101, .st .hash)]) [(80, C_laws_eqStringS), (133, C_laws_eqIntS)] false
def an_laws_eqHashTable : PTL C_laws_eqHashTable.ps → Nat → Option Ann := fun _ _ => none
set_option maxRecDepth 200000 in
theorem vc_laws_eqHashTable (a : HashT) (b : HashT) : (keeps Try.prog G_laws_eqHashTable (an_laws_eqHashTable (a, b, ())) (Try.f79.body.getD .skip) Try.f79.results.toList C_laws_eqHashTable (a, b, ())) = (((((Bool.not (decide (@Eq (List ByteArray) (Go.Proofs.Ytpdddafaelbgkaa.HashT.names a) (Go.Proofs.Ytpdddafaelbgkaa.HashT.names b)))) = true) →
 ((false = (decide (@Eq Go.Proofs.Ytpdddafaelbgkaa.HashT a b))) ∧
 True)) ∧
 (((Bool.not (decide (@Eq (List ByteArray) (Go.Proofs.Ytpdddafaelbgkaa.HashT.names a) (Go.Proofs.Ytpdddafaelbgkaa.HashT.names b)))) = false) →
 ((((Bool.not (decide (@Eq (List Int) (Go.Proofs.Ytpdddafaelbgkaa.HashT.first a) (Go.Proofs.Ytpdddafaelbgkaa.HashT.first b)))) = true) →
 ((false = (decide (@Eq Go.Proofs.Ytpdddafaelbgkaa.HashT a b))) ∧
 True)) ∧
 (((Bool.not (decide (@Eq (List Int) (Go.Proofs.Ytpdddafaelbgkaa.HashT.first a) (Go.Proofs.Ytpdddafaelbgkaa.HashT.first b)))) = false) →
 ((((Bool.not (decide (@Eq (List Int) (Go.Proofs.Ytpdddafaelbgkaa.HashT.next a) (Go.Proofs.Ytpdddafaelbgkaa.HashT.next b)))) = true) →
 ((false = (decide (@Eq Go.Proofs.Ytpdddafaelbgkaa.HashT a b))) ∧
 True)) ∧
 (((Bool.not (decide (@Eq (List Int) (Go.Proofs.Ytpdddafaelbgkaa.HashT.next a) (Go.Proofs.Ytpdddafaelbgkaa.HashT.next b)))) = false) →
 ((true = (decide (@Eq Go.Proofs.Ytpdddafaelbgkaa.HashT a b))) ∧
 True)))))))) := by kernel_rfl
theorem det_laws_eqHashTable : C_laws_eqHashTable.det = true → ∀ x, (C_laws_eqHashTable.out x).Det := fun _ x => by simp only [C_laws_eqHashTable]; repeat (first | exact Det.ret _ | exact Det.vc' | apply Det.req | apply Det.giv | apply Det.fork | apply Det.bif' | intro _)
set_option maxRecDepth 200000 in
set_option maxHeartbeats 1000000 in
theorem ok_laws_eqHashTable : ConOK Try.prog 79 C_laws_eqHashTable := by
  refine con_mk (wr := false) (ty := tyL [(3, .i), (5, .u), (4, .bool), (9, .str), (163, .int .u64), (71, .st .fixup), (24, .st .img), (39, .st .region), (35, .st .mem), (30, .st .patch), (94, .st .hash), (92, .list .i), (90, .list .str), (22, .list .u), (67, .st .fixup), (52, .st .img), (149, .st .region), (55, .st .mem), (101, .st .hash)]) (l := [(80, C_laws_eqStringS), (133, C_laws_eqIntS)]) ⟨⟨ok_laws_eqStringS, det_laws_eqStringS⟩, ⟨⟨ok_laws_eqIntS, det_laws_eqIntS⟩, trivial⟩⟩ Try.checked.mixed (fn := Try.f79) (body := Try.f79.body.getD .skip) Try.func79 rfl (by decide) (by kernel_rfl) rfl an_laws_eqHashTable fun x ho hx => ?_
  obtain ⟨a, b, ⟨⟩⟩ := x
  refine Keeps.of (vc_laws_eqHashTable a b) ?_
  revert a b ho hx
  show ∀ (a : HashT) (b : HashT), _
  intro a b ho hx
  dsimp only [C_laws_eqHashTable, okPTL, okPT, Ok, Ty.cells, SN.cells, OkL, OkC, okI, ci, cb, cs, cl] at ho
  dsimp only [C_laws_eqHashTable, vc, v1, decB, SR.pre] at hx
  simp only [decide_eq_true_eq, decide_eq_false_iff_not, Bool.not_eq_true', Bool.not_eq_false', and_true, true_and, Int.toNat_natCast, exists_eq_left', exists_eq_left, exists_and_left, Int.not_lt, Int.not_le, Bool.false_eq_true, false_implies, implies_true, forall_const, List.length_append, List.length_cons, List.length_nil, Int.sub_add_cancel, Int.add_sub_cancel, and_imp, get_set_iff, forall_eq', forall_eq, List.set_set, mkd_get, mkd_len, List.length_set, Option.some.injEq]; (repeat' first | intro _ | apply And.intro); all_goals (try omega); all_goals (first | grind [cases Img] | (cases a; cases b; simp_all; done) | (obtain ⟨⟨_, _⟩, _⟩ := a; obtain ⟨⟨_, _⟩, _⟩ := b; simp_all; done) | (obtain ⟨_, _, _⟩ := a; obtain ⟨_, _, _⟩ := b; simp_all; done) | (obtain ⟨_, ⟨_, _⟩⟩ := a; obtain ⟨_, ⟨_, _⟩⟩ := b; simp_all; done))
def C_laws_markHashTable : Con := { ps := [.own .hash, .ro .i], out := fun x => let a : HashT := x.1; let k : Int := x.2.1; .req (0 ≤ k ∧ k + cHa a ≤ 1000000000000) (turnS .hash (mkHa a k) (k + cHa a)), det := true }
def G_laws_markHashTable : Cfg := mkG (tyL [(3, .i), (5, .u), (4, .bool), (9, .str), (163, .int .u64), (71, .st .fixup), (24, .st .img), (39, .st .region), (35, .st .mem), (30, .st .patch), (94, .st .hash), (92, .list .i), (90, .list .str), (22, .list .u), (67, .st .fixup), (52, .st .img), (149, .st .region), (55, .st .mem), (101, .st .hash)]) [(81, C_laws_markStringS), (135, C_laws_markIntS)] false
def an_laws_markHashTable : PTL C_laws_markHashTable.ps → Nat → Option Ann := fun _ _ => none
set_option maxRecDepth 200000 in
theorem vc_laws_markHashTable (a : HashT) (k : Int) : (keeps Try.prog G_laws_markHashTable (an_laws_markHashTable (a, k, ())) (Try.f82.body.getD .skip) Try.f82.results.toList C_laws_markHashTable (a, k, ())) = (((((0 : Int) ≤ k) ∧
 ((k + (@Go.Proofs.Ytpdddafaelbgkaa.sumI ByteArray (@Go.Proofs.Ytpdddafaelbgkaa.cOne ByteArray) (Go.Proofs.Ytpdddafaelbgkaa.HashT.names a))) ≤ (1000000000000 : Int))) ∧
 ((((0 : Int) ≤ (k + (@Go.Proofs.Ytpdddafaelbgkaa.sumI ByteArray (@Go.Proofs.Ytpdddafaelbgkaa.cOne ByteArray) (Go.Proofs.Ytpdddafaelbgkaa.HashT.names a)))) ∧
 (((k + (@Go.Proofs.Ytpdddafaelbgkaa.sumI ByteArray (@Go.Proofs.Ytpdddafaelbgkaa.cOne ByteArray) (Go.Proofs.Ytpdddafaelbgkaa.HashT.names a))) + (@Go.Proofs.Ytpdddafaelbgkaa.sumI Int (@Go.Proofs.Ytpdddafaelbgkaa.cOne Int) (Go.Proofs.Ytpdddafaelbgkaa.HashT.first a))) ≤ (1000000000000 : Int))) ∧
 ((((0 : Int) ≤ ((k + (@Go.Proofs.Ytpdddafaelbgkaa.sumI ByteArray (@Go.Proofs.Ytpdddafaelbgkaa.cOne ByteArray) (Go.Proofs.Ytpdddafaelbgkaa.HashT.names a))) + (@Go.Proofs.Ytpdddafaelbgkaa.sumI Int (@Go.Proofs.Ytpdddafaelbgkaa.cOne Int) (Go.Proofs.Ytpdddafaelbgkaa.HashT.first a)))) ∧
 ((((k + (@Go.Proofs.Ytpdddafaelbgkaa.sumI ByteArray (@Go.Proofs.Ytpdddafaelbgkaa.cOne ByteArray) (Go.Proofs.Ytpdddafaelbgkaa.HashT.names a))) + (@Go.Proofs.Ytpdddafaelbgkaa.sumI Int (@Go.Proofs.Ytpdddafaelbgkaa.cOne Int) (Go.Proofs.Ytpdddafaelbgkaa.HashT.first a))) + (@Go.Proofs.Ytpdddafaelbgkaa.sumI Int (@Go.Proofs.Ytpdddafaelbgkaa.cOne Int) (Go.Proofs.Ytpdddafaelbgkaa.HashT.next a))) ≤ (1000000000000 : Int))) ∧
 (((((k + (@Go.Proofs.Ytpdddafaelbgkaa.sumI ByteArray (@Go.Proofs.Ytpdddafaelbgkaa.cOne ByteArray) (Go.Proofs.Ytpdddafaelbgkaa.HashT.names a))) + (@Go.Proofs.Ytpdddafaelbgkaa.sumI Int (@Go.Proofs.Ytpdddafaelbgkaa.cOne Int) (Go.Proofs.Ytpdddafaelbgkaa.HashT.first a))) + (@Go.Proofs.Ytpdddafaelbgkaa.sumI Int (@Go.Proofs.Ytpdddafaelbgkaa.cOne Int) (Go.Proofs.Ytpdddafaelbgkaa.HashT.next a))) = (k + (Go.Proofs.Ytpdddafaelbgkaa.cHa a))) ∧
 ((@Eq (List ByteArray) (@Go.Proofs.Ytpdddafaelbgkaa.mkL ByteArray Go.Proofs.Ytpdddafaelbgkaa.mkSt (@Go.Proofs.Ytpdddafaelbgkaa.cOne ByteArray) (Go.Proofs.Ytpdddafaelbgkaa.HashT.names a) k) (Go.Proofs.Ytpdddafaelbgkaa.HashT.names (Go.Proofs.Ytpdddafaelbgkaa.mkHa a k))) ∧
 ((@Eq (List Int) (@Go.Proofs.Ytpdddafaelbgkaa.mkL Int Go.Proofs.Ytpdddafaelbgkaa.mkI (@Go.Proofs.Ytpdddafaelbgkaa.cOne Int) (Go.Proofs.Ytpdddafaelbgkaa.HashT.first a) (k + (@Go.Proofs.Ytpdddafaelbgkaa.sumI ByteArray (@Go.Proofs.Ytpdddafaelbgkaa.cOne ByteArray) (Go.Proofs.Ytpdddafaelbgkaa.HashT.names a)))) (Go.Proofs.Ytpdddafaelbgkaa.HashT.first (Go.Proofs.Ytpdddafaelbgkaa.mkHa a k))) ∧
 ((@Eq (List Int) (@Go.Proofs.Ytpdddafaelbgkaa.mkL Int Go.Proofs.Ytpdddafaelbgkaa.mkI (@Go.Proofs.Ytpdddafaelbgkaa.cOne Int) (Go.Proofs.Ytpdddafaelbgkaa.HashT.next a) ((k + (@Go.Proofs.Ytpdddafaelbgkaa.sumI ByteArray (@Go.Proofs.Ytpdddafaelbgkaa.cOne ByteArray) (Go.Proofs.Ytpdddafaelbgkaa.HashT.names a))) + (@Go.Proofs.Ytpdddafaelbgkaa.sumI Int (@Go.Proofs.Ytpdddafaelbgkaa.cOne Int) (Go.Proofs.Ytpdddafaelbgkaa.HashT.first a)))) (Go.Proofs.Ytpdddafaelbgkaa.HashT.next (Go.Proofs.Ytpdddafaelbgkaa.mkHa a k))) ∧
 True)))))))) := by kernel_rfl
theorem det_laws_markHashTable : C_laws_markHashTable.det = true → ∀ x, (C_laws_markHashTable.out x).Det := fun _ x => by simp only [C_laws_markHashTable]; repeat (first | exact Det.ret _ | exact Det.vc' | apply Det.req | apply Det.giv | apply Det.fork | apply Det.bif' | intro _)
set_option maxRecDepth 200000 in
set_option maxHeartbeats 1000000 in
theorem ok_laws_markHashTable : ConOK Try.prog 82 C_laws_markHashTable := by
  refine con_mk (wr := false) (ty := tyL [(3, .i), (5, .u), (4, .bool), (9, .str), (163, .int .u64), (71, .st .fixup), (24, .st .img), (39, .st .region), (35, .st .mem), (30, .st .patch), (94, .st .hash), (92, .list .i), (90, .list .str), (22, .list .u), (67, .st .fixup), (52, .st .img), (149, .st .region), (55, .st .mem), (101, .st .hash)]) (l := [(81, C_laws_markStringS), (135, C_laws_markIntS)]) ⟨⟨ok_laws_markStringS, det_laws_markStringS⟩, ⟨⟨ok_laws_markIntS, det_laws_markIntS⟩, trivial⟩⟩ Try.checked.mixed (fn := Try.f82) (body := Try.f82.body.getD .skip) Try.func82 rfl (by decide) (by kernel_rfl) rfl an_laws_markHashTable fun x ho hx => ?_
  obtain ⟨a, k, ⟨⟩⟩ := x
  refine Keeps.of (vc_laws_markHashTable a k) ?_
  revert a k ho hx
  show ∀ (a : HashT) (k : Int), _
  intro a k ho hx
  dsimp only [C_laws_markHashTable, okPTL, okPT, Ok, Ty.cells, SN.cells, OkL, OkC, okI, ci, cb, cs, cl] at ho
  dsimp only [C_laws_markHashTable, vc, v1, decB, SR.pre] at hx
  have f0 := cOne_ge a.names
  have f1 := cOne_ge a.first
  have f2 := cOne_ge a.next
  simp only [decide_eq_true_eq, decide_eq_false_iff_not, Bool.not_eq_true', Bool.not_eq_false', and_true, true_and, Int.toNat_natCast, exists_eq_left', exists_eq_left, exists_and_left, Int.not_lt, Int.not_le, Bool.false_eq_true, false_implies, implies_true, forall_const, List.length_append, List.length_cons, List.length_nil, Int.sub_add_cancel, Int.add_sub_cancel, and_imp, get_set_iff, forall_eq', forall_eq, List.set_set, mkd_get, mkd_len, List.length_set, Option.some.injEq]; (repeat' first | intro _ | apply And.intro); all_goals (try omega); all_goals (first | grind [cIm, mkIm, cMe, mkMe, cHa, mkHa, cOb, mkOb] | (simp only [cIm, mkIm, cMe, mkMe, cHa, mkHa, cOb, mkOb] at *; omega) | (simp [cIm, mkIm, cMe, mkMe, cHa, mkHa, cOb, mkOb]))
def C_laws_heldHashTable : Con := { ps := [.ro (.st .hash), .ro .i], out := fun x => let a : HashT := x.1; let k : Int := x.2.1; .req (0 ≤ k ∧ k + cHa a ≤ 1000000000000) (vc .i (hHa a k)), det := true }
def G_laws_heldHashTable : Cfg := mkG (tyL [(3, .i), (5, .u), (4, .bool), (9, .str), (163, .int .u64), (71, .st .fixup), (24, .st .img), (39, .st .region), (35, .st .mem), (30, .st .patch), (94, .st .hash), (92, .list .i), (90, .list .str), (22, .list .u), (67, .st .fixup), (52, .st .img), (149, .st .region), (55, .st .mem), (101, .st .hash)]) [(136, C_laws_heldStringS), (137, C_laws_heldIntS)] false
def an_laws_heldHashTable : PTL C_laws_heldHashTable.ps → Nat → Option Ann := fun _ _ => none
set_option maxRecDepth 200000 in
theorem vc_laws_heldHashTable (a : HashT) (k : Int) : (keeps Try.prog G_laws_heldHashTable (an_laws_heldHashTable (a, k, ())) (Try.f83.body.getD .skip) Try.f83.results.toList C_laws_heldHashTable (a, k, ())) = (((((0 : Int) ≤ k) ∧
 ((k + (@Go.Proofs.Ytpdddafaelbgkaa.sumI ByteArray (@Go.Proofs.Ytpdddafaelbgkaa.cOne ByteArray) (Go.Proofs.Ytpdddafaelbgkaa.HashT.names a))) ≤ (1000000000000 : Int))) ∧
 ((((decide ((@Go.Proofs.Ytpdddafaelbgkaa.hdL ByteArray Go.Proofs.Ytpdddafaelbgkaa.hSt (Go.Proofs.Ytpdddafaelbgkaa.HashT.names a) k) < (0 : Int))) = true) →
 (((- (1 : Int)) = (Go.Proofs.Ytpdddafaelbgkaa.hHa a k)) ∧
 True)) ∧
 (((decide ((@Go.Proofs.Ytpdddafaelbgkaa.hdL ByteArray Go.Proofs.Ytpdddafaelbgkaa.hSt (Go.Proofs.Ytpdddafaelbgkaa.HashT.names a) k) < (0 : Int))) = false) →
 ((((0 : Int) ≤ (@Go.Proofs.Ytpdddafaelbgkaa.hdL ByteArray Go.Proofs.Ytpdddafaelbgkaa.hSt (Go.Proofs.Ytpdddafaelbgkaa.HashT.names a) k)) ∧
 (((@Go.Proofs.Ytpdddafaelbgkaa.hdL ByteArray Go.Proofs.Ytpdddafaelbgkaa.hSt (Go.Proofs.Ytpdddafaelbgkaa.HashT.names a) k) + (@Go.Proofs.Ytpdddafaelbgkaa.sumI Int (@Go.Proofs.Ytpdddafaelbgkaa.cOne Int) (Go.Proofs.Ytpdddafaelbgkaa.HashT.first a))) ≤ (1000000000000 : Int))) ∧
 ((((decide ((@Go.Proofs.Ytpdddafaelbgkaa.hdL Int Go.Proofs.Ytpdddafaelbgkaa.hI (Go.Proofs.Ytpdddafaelbgkaa.HashT.first a) (@Go.Proofs.Ytpdddafaelbgkaa.hdL ByteArray Go.Proofs.Ytpdddafaelbgkaa.hSt (Go.Proofs.Ytpdddafaelbgkaa.HashT.names a) k)) < (0 : Int))) = true) →
 (((- (1 : Int)) = (Go.Proofs.Ytpdddafaelbgkaa.hHa a k)) ∧
 True)) ∧
 (((decide ((@Go.Proofs.Ytpdddafaelbgkaa.hdL Int Go.Proofs.Ytpdddafaelbgkaa.hI (Go.Proofs.Ytpdddafaelbgkaa.HashT.first a) (@Go.Proofs.Ytpdddafaelbgkaa.hdL ByteArray Go.Proofs.Ytpdddafaelbgkaa.hSt (Go.Proofs.Ytpdddafaelbgkaa.HashT.names a) k)) < (0 : Int))) = false) →
 ((((0 : Int) ≤ (@Go.Proofs.Ytpdddafaelbgkaa.hdL Int Go.Proofs.Ytpdddafaelbgkaa.hI (Go.Proofs.Ytpdddafaelbgkaa.HashT.first a) (@Go.Proofs.Ytpdddafaelbgkaa.hdL ByteArray Go.Proofs.Ytpdddafaelbgkaa.hSt (Go.Proofs.Ytpdddafaelbgkaa.HashT.names a) k))) ∧
 (((@Go.Proofs.Ytpdddafaelbgkaa.hdL Int Go.Proofs.Ytpdddafaelbgkaa.hI (Go.Proofs.Ytpdddafaelbgkaa.HashT.first a) (@Go.Proofs.Ytpdddafaelbgkaa.hdL ByteArray Go.Proofs.Ytpdddafaelbgkaa.hSt (Go.Proofs.Ytpdddafaelbgkaa.HashT.names a) k)) + (@Go.Proofs.Ytpdddafaelbgkaa.sumI Int (@Go.Proofs.Ytpdddafaelbgkaa.cOne Int) (Go.Proofs.Ytpdddafaelbgkaa.HashT.next a))) ≤ (1000000000000 : Int))) ∧
 ((((decide ((@Go.Proofs.Ytpdddafaelbgkaa.hdL Int Go.Proofs.Ytpdddafaelbgkaa.hI (Go.Proofs.Ytpdddafaelbgkaa.HashT.next a) (@Go.Proofs.Ytpdddafaelbgkaa.hdL Int Go.Proofs.Ytpdddafaelbgkaa.hI (Go.Proofs.Ytpdddafaelbgkaa.HashT.first a) (@Go.Proofs.Ytpdddafaelbgkaa.hdL ByteArray Go.Proofs.Ytpdddafaelbgkaa.hSt (Go.Proofs.Ytpdddafaelbgkaa.HashT.names a) k))) < (0 : Int))) = true) →
 (((- (1 : Int)) = (Go.Proofs.Ytpdddafaelbgkaa.hHa a k)) ∧
 True)) ∧
 (((decide ((@Go.Proofs.Ytpdddafaelbgkaa.hdL Int Go.Proofs.Ytpdddafaelbgkaa.hI (Go.Proofs.Ytpdddafaelbgkaa.HashT.next a) (@Go.Proofs.Ytpdddafaelbgkaa.hdL Int Go.Proofs.Ytpdddafaelbgkaa.hI (Go.Proofs.Ytpdddafaelbgkaa.HashT.first a) (@Go.Proofs.Ytpdddafaelbgkaa.hdL ByteArray Go.Proofs.Ytpdddafaelbgkaa.hSt (Go.Proofs.Ytpdddafaelbgkaa.HashT.names a) k))) < (0 : Int))) = false) →
 (((@Go.Proofs.Ytpdddafaelbgkaa.hdL Int Go.Proofs.Ytpdddafaelbgkaa.hI (Go.Proofs.Ytpdddafaelbgkaa.HashT.next a) (@Go.Proofs.Ytpdddafaelbgkaa.hdL Int Go.Proofs.Ytpdddafaelbgkaa.hI (Go.Proofs.Ytpdddafaelbgkaa.HashT.first a) (@Go.Proofs.Ytpdddafaelbgkaa.hdL ByteArray Go.Proofs.Ytpdddafaelbgkaa.hSt (Go.Proofs.Ytpdddafaelbgkaa.HashT.names a) k))) = (Go.Proofs.Ytpdddafaelbgkaa.hHa a k)) ∧
 True))))))))))) := by kernel_rfl
theorem det_laws_heldHashTable : C_laws_heldHashTable.det = true → ∀ x, (C_laws_heldHashTable.out x).Det := fun _ x => by simp only [C_laws_heldHashTable]; repeat (first | exact Det.ret _ | exact Det.vc' | apply Det.req | apply Det.giv | apply Det.fork | apply Det.bif' | intro _)
set_option maxRecDepth 200000 in
set_option maxHeartbeats 1000000 in
theorem ok_laws_heldHashTable : ConOK Try.prog 83 C_laws_heldHashTable := by
  refine con_mk (wr := false) (ty := tyL [(3, .i), (5, .u), (4, .bool), (9, .str), (163, .int .u64), (71, .st .fixup), (24, .st .img), (39, .st .region), (35, .st .mem), (30, .st .patch), (94, .st .hash), (92, .list .i), (90, .list .str), (22, .list .u), (67, .st .fixup), (52, .st .img), (149, .st .region), (55, .st .mem), (101, .st .hash)]) (l := [(136, C_laws_heldStringS), (137, C_laws_heldIntS)]) ⟨⟨ok_laws_heldStringS, det_laws_heldStringS⟩, ⟨⟨ok_laws_heldIntS, det_laws_heldIntS⟩, trivial⟩⟩ Try.checked.mixed (fn := Try.f83) (body := Try.f83.body.getD .skip) Try.func83 rfl (by decide) (by kernel_rfl) rfl an_laws_heldHashTable fun x ho hx => ?_
  obtain ⟨a, k, ⟨⟩⟩ := x
  refine Keeps.of (vc_laws_heldHashTable a k) ?_
  revert a k ho hx
  show ∀ (a : HashT) (k : Int), _
  intro a k ho hx
  dsimp only [C_laws_heldHashTable, okPTL, okPT, Ok, Ty.cells, SN.cells, OkL, OkC, okI, ci, cb, cs, cl] at ho
  dsimp only [C_laws_heldHashTable, vc, v1, decB, SR.pre] at hx
  have f0 := cOne_ge a.names
  have f1 := cOne_ge a.first
  have f2 := cOne_ge a.next
  have f3 := hdSt_or a.names k
  have f4 := hdI_or a.first (k + sumI cOne a.names)
  have f5 := hdI_or a.next (k + sumI cOne a.names + sumI cOne a.first)
  simp only [decide_eq_true_eq, decide_eq_false_iff_not, Bool.not_eq_true', Bool.not_eq_false', and_true, true_and, Int.toNat_natCast, exists_eq_left', exists_eq_left, exists_and_left, Int.not_lt, Int.not_le, Bool.false_eq_true, false_implies, implies_true, forall_const, List.length_append, List.length_cons, List.length_nil, Int.sub_add_cancel, Int.add_sub_cancel, and_imp, get_set_iff, forall_eq', forall_eq, List.set_set, mkd_get, mkd_len, List.length_set, Option.some.injEq]; (repeat' first | intro _ | apply And.intro); all_goals (try omega); all_goals grind [hIm, cIm, hMe, cMe, hHa, cHa, hOb, cOb]
def C_laws_toFixup : Con := { ps := [.ro (.st .fixup)], out := fun x => let a : Fixup := x.1; newS .fixup a, det := true }
def G_laws_toFixup : Cfg := mkG (tyL [(3, .i), (5, .u), (4, .bool), (9, .str), (163, .int .u64), (71, .st .fixup), (24, .st .img), (39, .st .region), (35, .st .mem), (30, .st .patch), (94, .st .hash), (92, .list .i), (90, .list .str), (22, .list .u), (67, .st .fixup), (52, .st .img), (149, .st .region), (55, .st .mem), (101, .st .hash)]) [] false
def an_laws_toFixup : PTL C_laws_toFixup.ps → Nat → Option Ann := fun _ _ => none
set_option maxRecDepth 200000 in
theorem vc_laws_toFixup (a : Fixup) : (keeps Try.prog G_laws_toFixup (an_laws_toFixup (a, ())) (Try.f53.body.getD .skip) Try.f53.results.toList C_laws_toFixup (a, ())) = ((((Go.Proofs.Ytpdddafaelbgkaa.Fixup.at_ a) = (Go.Proofs.Ytpdddafaelbgkaa.Fixup.at_ a)) ∧
 (((Go.Proofs.Ytpdddafaelbgkaa.Fixup.kind a) = (Go.Proofs.Ytpdddafaelbgkaa.Fixup.kind a)) ∧
 (((Go.Proofs.Ytpdddafaelbgkaa.Fixup.to a) = (Go.Proofs.Ytpdddafaelbgkaa.Fixup.to a)) ∧
 (((Go.Proofs.Ytpdddafaelbgkaa.Fixup.add a) = (Go.Proofs.Ytpdddafaelbgkaa.Fixup.add a)) ∧
 True))))) := by kernel_rfl
theorem det_laws_toFixup : C_laws_toFixup.det = true → ∀ x, (C_laws_toFixup.out x).Det := fun _ x => by simp only [C_laws_toFixup]; repeat (first | exact Det.ret _ | exact Det.vc' | apply Det.req | apply Det.giv | apply Det.fork | apply Det.bif' | intro _)
set_option maxRecDepth 200000 in
set_option maxHeartbeats 1000000 in
theorem ok_laws_toFixup : ConOK Try.prog 53 C_laws_toFixup := by
  refine con_mk (wr := false) (ty := tyL [(3, .i), (5, .u), (4, .bool), (9, .str), (163, .int .u64), (71, .st .fixup), (24, .st .img), (39, .st .region), (35, .st .mem), (30, .st .patch), (94, .st .hash), (92, .list .i), (90, .list .str), (22, .list .u), (67, .st .fixup), (52, .st .img), (149, .st .region), (55, .st .mem), (101, .st .hash)]) (l := []) trivial Try.checked.mixed (fn := Try.f53) (body := Try.f53.body.getD .skip) Try.func53 rfl (by decide) (by kernel_rfl) rfl an_laws_toFixup fun x ho hx => ?_
  obtain ⟨a, ⟨⟩⟩ := x
  refine Keeps.of (vc_laws_toFixup a) ?_
  revert a ho hx
  show ∀ (a : Fixup), _
  intro a ho hx
  dsimp only [C_laws_toFixup, okPTL, okPT, Ok, Ty.cells, SN.cells, OkL, OkC, okI, ci, cb, cs, cl] at ho
  dsimp only [C_laws_toFixup, vc, v1, decB, SR.pre] at hx
  simp only [decide_eq_true_eq, decide_eq_false_iff_not, Bool.not_eq_true', Bool.not_eq_false', and_true, true_and, Int.toNat_natCast, exists_eq_left', exists_eq_left, exists_and_left, Int.not_lt, Int.not_le, Bool.false_eq_true, false_implies, implies_true, forall_const, List.length_append, List.length_cons, List.length_nil, Int.sub_add_cancel, Int.add_sub_cancel, and_imp, get_set_iff, forall_eq', forall_eq, List.set_set, mkd_get, mkd_len, List.length_set, Option.some.injEq]; (repeat' first | intro _ | apply And.intro); all_goals (try omega); all_goals grind [szIm, szMe, szHa, szPa]
end Go.Proofs.Ytpdddafaelbgkaa
