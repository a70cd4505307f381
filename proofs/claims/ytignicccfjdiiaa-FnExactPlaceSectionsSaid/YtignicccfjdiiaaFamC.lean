/- The laws' families: structs. -/
import Derived.Test.YtignicccfjdiiaaFamB
set_option linter.unusedVariables false
set_option linter.unusedSimpArgs false
namespace Go.Proofs.Ytignicccfjdiiaa
open Go Go.RowKit


def C_laws_eqRegion : Con := { ps := [.ro (.st .region), .ro (.st .region)], out := fun x => let a : Region := x.1; let b : Region := x.2.1; vc .bool (decide (a = b)), det := true }
abbrev L_laws_eqRegion : List (Nat × Con) := []
def G_laws_eqRegion : Cfg := mkG (tyL tys_) L_laws_eqRegion false
def an_laws_eqRegion : PTL C_laws_eqRegion.ps → Nat → Option Ann := fun _ _ => none
set_option maxRecDepth 200000 in
theorem vc_laws_eqRegion (a : Region) (b : Region) : (keeps Try.prog G_laws_eqRegion (an_laws_eqRegion (a, b, ())) (Try.f95.body.getD .skip) Try.f95.results.toList C_laws_eqRegion (a, b, ())) = (((((decide ((Region.from_ a) ≠ (Region.from_ b))) = true) →
 ((false = (decide (@Eq Region a b))) ∧
 True)) ∧
 (((decide ((Region.from_ a) ≠ (Region.from_ b))) = false) →
 ((((decide ((Region.to a) ≠ (Region.to b))) = true) →
 ((false = (decide (@Eq Region a b))) ∧
 True)) ∧
 (((decide ((Region.to a) ≠ (Region.to b))) = false) →
 ((((decide ((Region.write a) ≠ (Region.write b))) = true) →
 ((false = (decide (@Eq Region a b))) ∧
 True)) ∧
 (((decide ((Region.write a) ≠ (Region.write b))) = false) →
 ((((decide ((Region.run a) ≠ (Region.run b))) = true) →
 ((false = (decide (@Eq Region a b))) ∧
 True)) ∧
 (((decide ((Region.run a) ≠ (Region.run b))) = false) →
 ((true = (decide (@Eq Region a b))) ∧
 True)))))))))) := by kernel_rfl
theorem det_laws_eqRegion : C_laws_eqRegion.det = true → ∀ x, (C_laws_eqRegion.out x).Det := fun _ _ => Det.vc'
set_option maxRecDepth 200000 in
set_option maxHeartbeats 4000000 in
theorem ok_laws_eqRegion : ConOK Try.prog 95 C_laws_eqRegion := by
  refine con_mk (wr := false) (ty := tyL tys_) (l := L_laws_eqRegion) trivial Try.checked.mixed (fn := Try.f95) (body := Try.f95.body.getD .skip) Try.func95 rfl (by decide) (by kernel_rfl) rfl an_laws_eqRegion fun x ho hx => ?_
  obtain ⟨a, b, ⟨⟩⟩ := x
  refine Keeps.of (vc_laws_eqRegion a b) ?_
  revert a b ho hx
  show ∀ (a : Region) (b : Region), _
  intro a b ho hx
  dsimp only [C_laws_eqRegion, okPTL, okPT, Ok, Ty.cells, SN.cells, OkL, OkC, okI, ci, cb, cs, cl] at ho
  dsimp only [C_laws_eqRegion, vc, v1, decB, SR.pre] at hx
  (try delta i64 LN); simp only [VBt]; (repeat' first | intro _ | apply And.intro); all_goals (try omega); all_goals (first | grind [cases Img] | (cases a; cases b; simp_all; done) | (obtain ⟨⟨_, _⟩, _⟩ := a; obtain ⟨⟨_, _⟩, _⟩ := b; simp_all; done) | (obtain ⟨_, _, _⟩ := a; obtain ⟨_, _, _⟩ := b; simp_all; done) | (obtain ⟨_, ⟨_, _⟩⟩ := a; obtain ⟨_, ⟨_, _⟩⟩ := b; simp_all; done) | skip)
def C_laws_eqRegionS : Con := { ps := [.ro (.list (.st .region)), .ro (.list (.st .region))], out := fun x => let a : List (Region) := x.1; let b : List (Region) := x.2.1; vc .bool (decide (a = b)), det := true }
abbrev L_laws_eqRegionS : List (Nat × Con) := [(95, C_laws_eqRegion)]
def G_laws_eqRegionS : Cfg := mkG (tyL tys_) L_laws_eqRegionS false
def an_laws_eqRegionS : PTL C_laws_eqRegionS.ps → Nat → Option Ann := fun x kk_ => let a : List (Region) := x.1; let b : List (Region) := x.2.1; if kk_ = 4 then some (.all (Int) fun i => .giv (0 ≤ i ∧ i ≤ a.length ∧ a.length = b.length ∧ a.take i.toNat = b.take i.toNat) (.mk [(5, ai i), (0, al (.st .region) a), (1, al (.st .region) b)] [] ((a.length - i.toNat)))) else none
set_option maxRecDepth 200000 in
theorem vc_laws_eqRegionS (a : List (Region)) (b : List (Region)) : (keeps Try.prog G_laws_eqRegionS (an_laws_eqRegionS (a, b, ())) (Try.f47.body.getD .skip) Try.f47.results.toList C_laws_eqRegionS (a, b, ())) = ((((List.length a) ≤ 9223372036854775807) →
 (((List.length b) ≤ 9223372036854775807) →
 ((((decide ((LN a) ≠ (LN b))) = true) →
 ((false = (decide (@Eq (List Region) a b))) ∧
 True)) ∧
 (((decide ((LN a) ≠ (LN b))) = false) →
 ((∃ (x_1 : Int), ((0 = x_1) ∧
 ((@Eq (List Region) a a) ∧
 ((@Eq (List Region) b b) ∧
 (((0 ≤ x_1) ∧
 ((x_1 ≤ (LN a)) ∧
 (((List.length a) = (List.length b)) ∧
 (@Eq (List Region) (List.take (Int.toNat x_1) a) (List.take (Int.toNat x_1) b))))) ∧
 True))))) ∧
 (∀ (x_2 : Int), (((0 ≤ x_2) ∧
 ((x_2 ≤ (LN a)) ∧
 (((List.length a) = (List.length b)) ∧
 (@Eq (List Region) (List.take (Int.toNat x_2) a) (List.take (Int.toNat x_2) b))))) →
 (((List.length a) ≤ 9223372036854775807) →
 ((((decide (x_2 < (LN a))) = true) →
 (((0 ≤ x_2) ∧
 (x_2 < (LN a))) ∧
 (∀ (x_3 : Region), ((@Eq (Option Region) (a)[(Int.toNat x_2)]? (some x_3)) →
 ((Ok (Ty.st SN.region) x_3) →
 (((0 ≤ x_2) ∧
 (x_2 < (LN b))) ∧
 (∀ (x_4 : Region), ((@Eq (Option Region) (b)[(Int.toNat x_2)]? (some x_4)) →
 ((Ok (Ty.st SN.region) x_4) →
 ((((Bool.not (decide (@Eq Region x_3 x_4))) = true) →
 ((false = (decide (@Eq (List Region) a b))) ∧
 True)) ∧
 (((Bool.not (decide (@Eq Region x_3 x_4))) = false) →
 ((i64 (x_2 + (1 : Int))) ∧
 (∃ (x_5 : Int), (((x_2 + (1 : Int)) = x_5) ∧
 ((@Eq (List Region) a a) ∧
 ((@Eq (List Region) b b) ∧
 (((0 ≤ x_5) ∧
 ((x_5 ≤ (LN a)) ∧
 (((List.length a) = (List.length b)) ∧
 (@Eq (List Region) (List.take (Int.toNat x_5) a) (List.take (Int.toNat x_5) b))))) ∧
 (((List.length a) - (Int.toNat x_5)) < ((List.length a) - (Int.toNat x_2)))))))))))))))))))) ∧
 (((decide (x_2 < (LN a))) = false) →
 ((true = (decide (@Eq (List Region) a b))) ∧
 True)))))))))))) := by kernel_rfl
theorem det_laws_eqRegionS : C_laws_eqRegionS.det = true → ∀ x, (C_laws_eqRegionS.out x).Det := fun _ _ => Det.vc'
set_option maxRecDepth 200000 in
set_option maxHeartbeats 4000000 in
theorem ok_laws_eqRegionS : ConOK Try.prog 47 C_laws_eqRegionS := by
  refine con_mk (wr := false) (ty := tyL tys_) (l := L_laws_eqRegionS) ⟨⟨ok_laws_eqRegion, det_laws_eqRegion⟩, trivial⟩ Try.checked.mixed (fn := Try.f47) (body := Try.f47.body.getD .skip) Try.func47 rfl (by decide) (by kernel_rfl) rfl an_laws_eqRegionS fun x ho hx => ?_
  obtain ⟨a, b, ⟨⟩⟩ := x
  refine Keeps.of (vc_laws_eqRegionS a b) ?_
  revert a b ho hx
  show ∀ (a : List (Region)) (b : List (Region)), _
  intro a b ho hx
  dsimp only [C_laws_eqRegionS, okPTL, okPT, Ok, Ty.cells, SN.cells, OkL, OkC, okI, ci, cb, cs, cl] at ho
  dsimp only [C_laws_eqRegionS, vc, v1, decB, SR.pre] at hx
  (try delta i64 LN); simp only [VBt]; (repeat' first | intro _ | apply And.intro); all_goals (try omega); all_goals first | grind [take_all', take_next, take_diff] | exact take_next2 (by omega) (by assumption) (by assumption) (by assumption) (by assumption) | exact take_diff2 (by assumption) (by assumption) (by assumption)
def C_laws_markRegionS : Con := { ps := [.row none (.st .region), .ro .i], out := fun x => let a : List (Region) := x.1; let k : Int := x.2.1; .req (0 ≤ k ∧ k + sumI c4 a ≤ 1000000000000) (turnL (.st .region) (mkL mkRg c4 a k) (k + sumI c4 a)), det := true }
abbrev L_laws_markRegionS : List (Nat × Con) := []
def G_laws_markRegionS : Cfg := mkG (tyL tys_) L_laws_markRegionS false
def an_laws_markRegionS : PTL C_laws_markRegionS.ps → Nat → Option Ann := fun x kk_ => let a : List (Region) := x.1; let k : Int := x.2.1; if kk_ = 2 then some (.all (Int) fun i => .giv (0 ≤ i ∧ i ≤ a.length) (.mk [(5, ai i), (1, ai (k + sumI c4 (a.take i.toNat))), (0, asl 0)] [(0, .row none (.st .region) (mkd mkRg c4 a k i.toNat) true)] ((a.length - i.toNat)))) else none
set_option maxRecDepth 200000 in
theorem vc_laws_markRegionS (a : List (Region)) (k : Int) : (keeps Try.prog G_laws_markRegionS (an_laws_markRegionS (a, k, ())) (Try.f48.body.getD .skip) Try.f48.results.toList C_laws_markRegionS (a, k, ())) = (((∃ (x_1 : Int), ((0 = x_1) ∧
 ((k = (k + (@sumI Region (@c4 Region) (List.take (Int.toNat x_1) a)))) ∧
 ((@Eq (List Region) a (@mkd Region mkRg (@c4 Region) a k (Int.toNat x_1))) ∧
 (((0 ≤ x_1) ∧
 (x_1 ≤ (LN a))) ∧
 True))))) ∧
 (∀ (x_2 : Int), (((0 ≤ x_2) ∧
 (x_2 ≤ (LN a))) →
 (((List.length (@mkd Region mkRg (@c4 Region) a k (Int.toNat x_2))) ≤ 9223372036854775807) →
 ((((decide (x_2 < (LN (@mkd Region mkRg (@c4 Region) a k (Int.toNat x_2))))) = true) →
 (((0 ≤ x_2) ∧
 (x_2 < (LN (@mkd Region mkRg (@c4 Region) a k (Int.toNat x_2))))) ∧
 (∀ (x_3 : Region), ((@Eq (Option Region) ((@mkd Region mkRg (@c4 Region) a k (Int.toNat x_2)))[(Int.toNat x_2)]? (some x_3)) →
 ((i64 ((k + (@sumI Region (@c4 Region) (List.take (Int.toNat x_2) a))) + 1)) ∧
 (((0 ≤ x_2) ∧
 (x_2 < (LN (List.set (@mkd Region mkRg (@c4 Region) a k (Int.toNat x_2)) (Int.toNat x_2) (Region.mk (k + (@sumI Region (@c4 Region) (List.take (Int.toNat x_2) a))) (Region.to x_3) (Region.write x_3) (Region.run x_3)))))) ∧
 (∀ (x_4 : Region), ((@Eq (Option Region) ((List.set (@mkd Region mkRg (@c4 Region) a k (Int.toNat x_2)) (Int.toNat x_2) (Region.mk (k + (@sumI Region (@c4 Region) (List.take (Int.toNat x_2) a))) (Region.to x_3) (Region.write x_3) (Region.run x_3))))[(Int.toNat x_2)]? (some x_4)) →
 ((i64 (((k + (@sumI Region (@c4 Region) (List.take (Int.toNat x_2) a))) + 1) + 1)) ∧
 (((0 ≤ (((k + (@sumI Region (@c4 Region) (List.take (Int.toNat x_2) a))) + 1) + 1)) ∧
 ((0 : Int) < (3 : Int))) ∧
 (((0 ≤ x_2) ∧
 (x_2 < (LN (List.set (List.set (@mkd Region mkRg (@c4 Region) a k (Int.toNat x_2)) (Int.toNat x_2) (Region.mk (k + (@sumI Region (@c4 Region) (List.take (Int.toNat x_2) a))) (Region.to x_3) (Region.write x_3) (Region.run x_3))) (Int.toNat x_2) (Region.mk (Region.from_ x_4) ((k + (@sumI Region (@c4 Region) (List.take (Int.toNat x_2) a))) + 1) (Region.write x_4) (Region.run x_4)))))) ∧
 (∀ (x_5 : Region), ((@Eq (Option Region) ((List.set (List.set (@mkd Region mkRg (@c4 Region) a k (Int.toNat x_2)) (Int.toNat x_2) (Region.mk (k + (@sumI Region (@c4 Region) (List.take (Int.toNat x_2) a))) (Region.to x_3) (Region.write x_3) (Region.run x_3))) (Int.toNat x_2) (Region.mk (Region.from_ x_4) ((k + (@sumI Region (@c4 Region) (List.take (Int.toNat x_2) a))) + 1) (Region.write x_4) (Region.run x_4))))[(Int.toNat x_2)]? (some x_5)) →
 ((i64 ((((k + (@sumI Region (@c4 Region) (List.take (Int.toNat x_2) a))) + 1) + 1) + 1)) ∧
 (((0 ≤ ((((k + (@sumI Region (@c4 Region) (List.take (Int.toNat x_2) a))) + 1) + 1) + 1)) ∧
 ((0 : Int) < (3 : Int))) ∧
 (((0 ≤ x_2) ∧
 (x_2 < (LN (List.set (List.set (List.set (@mkd Region mkRg (@c4 Region) a k (Int.toNat x_2)) (Int.toNat x_2) (Region.mk (k + (@sumI Region (@c4 Region) (List.take (Int.toNat x_2) a))) (Region.to x_3) (Region.write x_3) (Region.run x_3))) (Int.toNat x_2) (Region.mk (Region.from_ x_4) ((k + (@sumI Region (@c4 Region) (List.take (Int.toNat x_2) a))) + 1) (Region.write x_4) (Region.run x_4))) (Int.toNat x_2) (Region.mk (Region.from_ x_5) (Region.to x_5) (decide (((((k + (@sumI Region (@c4 Region) (List.take (Int.toNat x_2) a))) + 1) + 1) % 3) = 0)) (Region.run x_5)))))) ∧
 (∀ (x_6 : Region), ((@Eq (Option Region) ((List.set (List.set (List.set (@mkd Region mkRg (@c4 Region) a k (Int.toNat x_2)) (Int.toNat x_2) (Region.mk (k + (@sumI Region (@c4 Region) (List.take (Int.toNat x_2) a))) (Region.to x_3) (Region.write x_3) (Region.run x_3))) (Int.toNat x_2) (Region.mk (Region.from_ x_4) ((k + (@sumI Region (@c4 Region) (List.take (Int.toNat x_2) a))) + 1) (Region.write x_4) (Region.run x_4))) (Int.toNat x_2) (Region.mk (Region.from_ x_5) (Region.to x_5) (decide (((((k + (@sumI Region (@c4 Region) (List.take (Int.toNat x_2) a))) + 1) + 1) % 3) = 0)) (Region.run x_5))))[(Int.toNat x_2)]? (some x_6)) →
 ((i64 (((((k + (@sumI Region (@c4 Region) (List.take (Int.toNat x_2) a))) + 1) + 1) + 1) + 1)) ∧
 ((i64 (x_2 + (1 : Int))) ∧
 (∃ (x_7 : Int), (((x_2 + (1 : Int)) = x_7) ∧
 (((((((k + (@sumI Region (@c4 Region) (List.take (Int.toNat x_2) a))) + 1) + 1) + 1) + 1) = (k + (@sumI Region (@c4 Region) (List.take (Int.toNat x_7) a)))) ∧
 ((@Eq (List Region) (List.set (List.set (List.set (List.set (@mkd Region mkRg (@c4 Region) a k (Int.toNat x_2)) (Int.toNat x_2) (Region.mk (k + (@sumI Region (@c4 Region) (List.take (Int.toNat x_2) a))) (Region.to x_3) (Region.write x_3) (Region.run x_3))) (Int.toNat x_2) (Region.mk (Region.from_ x_4) ((k + (@sumI Region (@c4 Region) (List.take (Int.toNat x_2) a))) + 1) (Region.write x_4) (Region.run x_4))) (Int.toNat x_2) (Region.mk (Region.from_ x_5) (Region.to x_5) (decide (((((k + (@sumI Region (@c4 Region) (List.take (Int.toNat x_2) a))) + 1) + 1) % 3) = 0)) (Region.run x_5))) (Int.toNat x_2) (Region.mk (Region.from_ x_6) (Region.to x_6) (Region.write x_6) (decide ((((((k + (@sumI Region (@c4 Region) (List.take (Int.toNat x_2) a))) + 1) + 1) + 1) % 3) = 0)))) (@mkd Region mkRg (@c4 Region) a k (Int.toNat x_7))) ∧
 (((0 ≤ x_7) ∧
 (x_7 ≤ (LN a))) ∧
 (((List.length a) - (Int.toNat x_7)) < ((List.length a) - (Int.toNat x_2)))))))))))))))))))))))))))) ∧
 (((decide (x_2 < (LN (@mkd Region mkRg (@c4 Region) a k (Int.toNat x_2))))) = false) →
 (((k + (@sumI Region (@c4 Region) (List.take (Int.toNat x_2) a))) = (k + (@sumI Region (@c4 Region) a))) ∧
 ((@Eq (List Region) (@mkd Region mkRg (@c4 Region) a k (Int.toNat x_2)) (@mkL Region mkRg (@c4 Region) a k)) ∧
 True))))))))) := by kernel_rfl
theorem det_laws_markRegionS : C_laws_markRegionS.det = true → ∀ x, (C_laws_markRegionS.out x).Det := fun _ x => by simp only [C_laws_markRegionS]; repeat (first | exact Det.ret _ | exact Det.vc' | apply Det.req)
set_option maxRecDepth 200000 in
set_option maxHeartbeats 4000000 in
theorem ok_laws_markRegionS : ConOK Try.prog 48 C_laws_markRegionS := by
  refine con_mk (wr := false) (ty := tyL tys_) (l := L_laws_markRegionS) trivial Try.checked.mixed (fn := Try.f48) (body := Try.f48.body.getD .skip) Try.func48 rfl (by decide) (by kernel_rfl) rfl an_laws_markRegionS fun x ho hx => ?_
  obtain ⟨a, k, ⟨⟩⟩ := x
  refine Keeps.of (vc_laws_markRegionS a k) ?_
  revert a k ho hx
  show ∀ (a : List (Region)) (k : Int), _
  intro a k ho hx
  dsimp only [C_laws_markRegionS, okPTL, okPT, Ok, Ty.cells, SN.cells, OkL, OkC, okI, ci, cb, cs, cl] at ho
  dsimp only [C_laws_markRegionS, vc, v1, decB, SR.pre] at hx
  have cn : ∀ x : Region, 0 ≤ c4 x := c4_nn
  have cl := sumI_le cn a
  have cs := sumI_nn cn
  (try delta i64 LN); simp only [VBt]; (repeat' first | intro _ | apply And.intro); all_goals (try omega); all_goals first | (simp only [List.length_take, List.length_replicate, mkd_len, List.length_set, List.length_append]; omega) | exact mkd_full' (by omega) | exact (mkd_zero _ _).symm | exact mkd_set' (by assumption) (by omega) (by subst_vars; simp [mkRg, mkFx, mkSy, mkPa, mkSe, mkMb, mkOb, mkIL, Int.add_assoc]) | (try grind [mkd_len, mkd_get, mkd_zero, sumI_next, sumI_all, cOne, c4, cPa, cSe, cOb, cMb, cIL, sumI])
def C_laws_heldRegionS : Con := { ps := [.ro (.list (.st .region)), .ro .i], out := fun x => let a : List (Region) := x.1; let k : Int := x.2.1; .req (0 ≤ k ∧ k + sumI c4 a ≤ 1000000000000) (vc .i (hdL hRg a k)), det := true }
abbrev L_laws_heldRegionS : List (Nat × Con) := []
def G_laws_heldRegionS : Cfg := mkG (tyL tys_) L_laws_heldRegionS false
def an_laws_heldRegionS : PTL C_laws_heldRegionS.ps → Nat → Option Ann := fun x kk_ => let a : List (Region) := x.1; let k : Int := x.2.1; if kk_ = 2 then some (.all (Int) fun i => .all (Int) fun m => .giv (0 ≤ i ∧ i ≤ a.length ∧ 0 ≤ m ∧ m + sumI c4 (a.drop i.toNat) ≤ 1000000000000 ∧ hdL hRg a k = hdL hRg (a.drop i.toNat) m) (.mk [(5, ai i), (1, ai m), (0, al (.st .region) a)] [] ((a.length - i.toNat)))) else none
set_option maxRecDepth 200000 in
theorem vc_laws_heldRegionS (a : List (Region)) (k : Int) : (keeps Try.prog G_laws_heldRegionS (an_laws_heldRegionS (a, k, ())) (Try.f49.body.getD .skip) Try.f49.results.toList C_laws_heldRegionS (a, k, ())) = (((∃ (x_1 : Int), (∃ (x_2 : Int), ((0 = x_1) ∧
 ((k = x_2) ∧
 ((@Eq (List Region) a a) ∧
 (((0 ≤ x_1) ∧
 ((x_1 ≤ (LN a)) ∧
 ((0 ≤ x_2) ∧
 (((x_2 + (@sumI Region (@c4 Region) (List.drop (Int.toNat x_1) a))) ≤ 1000000000000) ∧
 ((@hdL Region hRg a k) = (@hdL Region hRg (List.drop (Int.toNat x_1) a) x_2)))))) ∧
 True)))))) ∧
 (∀ (x_3 : Int), (∀ (x_4 : Int), (((0 ≤ x_3) ∧
 ((x_3 ≤ (LN a)) ∧
 ((0 ≤ x_4) ∧
 (((x_4 + (@sumI Region (@c4 Region) (List.drop (Int.toNat x_3) a))) ≤ 1000000000000) ∧
 ((@hdL Region hRg a k) = (@hdL Region hRg (List.drop (Int.toNat x_3) a) x_4)))))) →
 (((List.length a) ≤ 9223372036854775807) →
 ((((decide (x_3 < (LN a))) = true) →
 (((0 ≤ x_3) ∧
 (x_3 < (LN a))) ∧
 (∀ (x_5 : Region), ((@Eq (Option Region) (a)[(Int.toNat x_3)]? (some x_5)) →
 ((Ok (Ty.st SN.region) x_5) →
 ((((decide ((Region.from_ x_5) ≠ x_4)) = true) →
 (((- (1 : Int)) = (@hdL Region hRg a k)) ∧
 True)) ∧
 (((decide ((Region.from_ x_5) ≠ x_4)) = false) →
 ((i64 (x_4 + (1 : Int))) ∧
 (((0 ≤ x_3) ∧
 (x_3 < (LN a))) ∧
 (∀ (x_6 : Region), ((@Eq (Option Region) (a)[(Int.toNat x_3)]? (some x_6)) →
 ((Ok (Ty.st SN.region) x_6) →
 ((((decide ((Region.to x_6) ≠ (x_4 + (1 : Int)))) = true) →
 (((- (1 : Int)) = (@hdL Region hRg a k)) ∧
 True)) ∧
 (((decide ((Region.to x_6) ≠ (x_4 + (1 : Int)))) = false) →
 ((i64 ((x_4 + (1 : Int)) + 1)) ∧
 (((0 ≤ x_3) ∧
 (x_3 < (LN a))) ∧
 (∀ (x_7 : Region), ((@Eq (Option Region) (a)[(Int.toNat x_3)]? (some x_7)) →
 ((Ok (Ty.st SN.region) x_7) →
 (((0 ≤ ((x_4 + (1 : Int)) + 1)) ∧
 ((0 : Int) < (3 : Int))) ∧
 ((((decide ((Region.write x_7) ≠ (decide ((((x_4 + (1 : Int)) + 1) % 3) = 0)))) = true) →
 (((- (1 : Int)) = (@hdL Region hRg a k)) ∧
 True)) ∧
 (((decide ((Region.write x_7) ≠ (decide ((((x_4 + (1 : Int)) + 1) % 3) = 0)))) = false) →
 ((i64 (((x_4 + (1 : Int)) + 1) + 1)) ∧
 (((0 ≤ x_3) ∧
 (x_3 < (LN a))) ∧
 (∀ (x_8 : Region), ((@Eq (Option Region) (a)[(Int.toNat x_3)]? (some x_8)) →
 ((Ok (Ty.st SN.region) x_8) →
 (((0 ≤ (((x_4 + (1 : Int)) + 1) + 1)) ∧
 ((0 : Int) < (3 : Int))) ∧
 ((((decide ((Region.run x_8) ≠ (decide (((((x_4 + (1 : Int)) + 1) + 1) % 3) = 0)))) = true) →
 (((- (1 : Int)) = (@hdL Region hRg a k)) ∧
 True)) ∧
 (((decide ((Region.run x_8) ≠ (decide (((((x_4 + (1 : Int)) + 1) + 1) % 3) = 0)))) = false) →
 ((i64 ((((x_4 + (1 : Int)) + 1) + 1) + 1)) ∧
 ((i64 (x_3 + (1 : Int))) ∧
 (∃ (x_9 : Int), (∃ (x_10 : Int), (((x_3 + (1 : Int)) = x_9) ∧
 ((((((x_4 + (1 : Int)) + 1) + 1) + 1) = x_10) ∧
 ((@Eq (List Region) a a) ∧
 (((0 ≤ x_9) ∧
 ((x_9 ≤ (LN a)) ∧
 ((0 ≤ x_10) ∧
 (((x_10 + (@sumI Region (@c4 Region) (List.drop (Int.toNat x_9) a))) ≤ 1000000000000) ∧
 ((@hdL Region hRg a k) = (@hdL Region hRg (List.drop (Int.toNat x_9) a) x_10)))))) ∧
 (((List.length a) - (Int.toNat x_9)) < ((List.length a) - (Int.toNat x_3))))))))))))))))))))))))))))))))))))))))) ∧
 (((decide (x_3 < (LN a))) = false) →
 ((x_4 = (@hdL Region hRg a k)) ∧
 True))))))))) := by kernel_rfl
theorem det_laws_heldRegionS : C_laws_heldRegionS.det = true → ∀ x, (C_laws_heldRegionS.out x).Det := fun _ x => by simp only [C_laws_heldRegionS]; repeat (first | exact Det.ret _ | exact Det.vc' | apply Det.req)
set_option maxRecDepth 200000 in
set_option maxHeartbeats 4000000 in
theorem ok_laws_heldRegionS : ConOK Try.prog 49 C_laws_heldRegionS := by
  refine con_mk (wr := false) (ty := tyL tys_) (l := L_laws_heldRegionS) trivial Try.checked.mixed (fn := Try.f49) (body := Try.f49.body.getD .skip) Try.func49 rfl (by decide) (by kernel_rfl) rfl an_laws_heldRegionS fun x ho hx => ?_
  obtain ⟨a, k, ⟨⟩⟩ := x
  refine Keeps.of (vc_laws_heldRegionS a k) ?_
  revert a k ho hx
  show ∀ (a : List (Region)) (k : Int), _
  intro a k ho hx
  dsimp only [C_laws_heldRegionS, okPTL, okPT, Ok, Ty.cells, SN.cells, OkL, OkC, okI, ci, cb, cs, cl] at ho
  dsimp only [C_laws_heldRegionS, vc, v1, decB, SR.pre] at hx
  have cn : ∀ x : Region, 0 ≤ c4 x := c4_nn
  have cs := sumI_nn cn
  (try delta i64 LN); simp +contextual only [VBt]; (repeat' first | intro _ | apply And.intro); all_goals (try omega); all_goals first | (simp only [List.length_take, List.length_replicate, mkd_len, List.length_set, List.length_append]; omega) | (try grind [hdL_drop, sumI_drop, drop_end, hdL, sumI, cOne, c4, cPa, cSe, cOb, cMb, cIL, hRg, hFx, hSy, hPa, hSe, hOb, hMb, hIL])
end Go.Proofs.Ytignicccfjdiiaa
