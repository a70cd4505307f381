/- The laws that say layouts are the reference's: ends of kinds, regions. -/
import Derived.Test.YtignicccfjdiiaaFamP
import Derived.Test.YtignicccfjdiiaaFamC
import Derived.Test.YtignicccfjdiiaaFamQ
import Derived.Test.YtignicccfjdiiaaLay
import Derived.Test.YtignicccfjdiiaaHead
set_option linter.unusedVariables false
set_option linter.unusedSimpArgs false
namespace Go.Proofs.Ytignicccfjdiiaa
open Go Go.RowKit Go.ChangeShapes Go.WideShapes Go.Deep


theorem ends_c (l : List Objt) (b : Int) : sumI cIL (layout l b).ends ≤ 6 := by
  obtain ⟨h1, h2⟩ := lay_ends2 l b
  have h3 : ∀ x ∈ (layout l b).ends, cIL x ≤ 2 := fun x hx => by
    obtain ⟨k, hk⟩ := List.getElem?_of_mem hx
    have := h2 k x hk
    unfold cIL
    rw [cOne_len]; omega
  have := sumI_le3 h3
  omega
theorem regs_c (l : List Objt) (b : Int) : sumI c4 (regs (layout l b).ends 0) ≤ 12 := by
  obtain ⟨h1, _⟩ := lay_ends2 l b
  have := regs_len (layout l b).ends 0
  rw [c4_len]; omega
theorem plcs_c (l : List Objt) (b : Int) : sumI cIL (layout l b).places ≤ 32 := by
  cases h : layOk l b with
  | false => rw [layout_no h]; simp [sumI]
  | true =>
    have hb := lay_all h
    rw [layout_yes h]
    show sumI cIL (places l b) ≤ 32
    have h3 : ∀ x ∈ places l b, cIL x ≤ 8 := fun x hx => by
      obtain ⟨k, hk⟩ := List.getElem?_of_mem hx
      have hkl := lt_of_some hk
      rw [places_len] at hkl
      have ho := List.getElem?_eq_getElem hkl
      have := (places_row hk ho).1
      have := (objB_lens (all_get hb.1 ho)).1
      unfold cIL
      rw [cOne_len]; omega
    have := sumI_le3 h3
    rw [places_len] at this
    have := (objsB_all (layOk_iff.1 h).1).2
    omega
def C_laws_FnExactKindEnds : Con := { ps := [.ro (.list (.st .obj)), .ro .i], out := fun x => let l : List (Objt) := x.1; let b : Int := x.2.1; vc .bool true, det := true }
abbrev L_laws_FnExactKindEnds : List (Nat × Con) := [(40, C_laws_szObjectS), (41, C_laws_toObjectS), (29, C_spec_KindEnds), (28, C_impl_KindEnds), (43, C_laws_eqIntSS), (42, C_laws_eqObjectS), (44, C_laws_markObjectS), (45, C_laws_markIntSS), (46, C_laws_heldIntSS)]
def G_laws_FnExactKindEnds : Cfg := mkG (tyL tys_) L_laws_FnExactKindEnds false
def an_laws_FnExactKindEnds : PTL C_laws_FnExactKindEnds.ps → Nat → Option Ann := fun _ _ => none
set_option maxRecDepth 200000 in
theorem vc_laws_FnExactKindEnds (l : List (Objt)) (b : Int) : (keeps Try.prog G_laws_FnExactKindEnds (an_laws_FnExactKindEnds (l, b, ())) (Try.f12.body.getD .skip) Try.f12.results.toList C_laws_FnExactKindEnds (l, b, ())) = ((((0 : Int) ≤ (1048576 : Int) ∧ (1048576 : Int) ≤ (1048576 : Int)) ∧ (decide (szR (LN l + @sumI Objt szOb l) 1048576 < 0) = true →
 true = true ∧ True) ∧ (decide (szR (LN l + @sumI Objt szOb l) 1048576 < 0) = false →
 LN l + @sumI Objt szOb l ≤ 1048576 ∧ LN l + @sumI Objt szOb l ≤ 1048576 ∧ LN l + @sumI Objt szOb l ≤ 1048576 ∧ (Bool.not (decide (@Eq (List (List Int)) (Layout.ends (layout l b)) (Layout.ends (layout l b)))) = true →
 false = true ∧ True) ∧ (Bool.not (decide (@Eq (List (List Int)) (Layout.ends (layout l b)) (Layout.ends (layout l b)))) = false →
 LN l + @sumI Objt szOb l ≤ 1048576 ∧ (Bool.not (decide (@Eq (List Objt) l l)) = true →
 false = true ∧ True) ∧ (Bool.not (decide (@Eq (List Objt) l l)) = false →
 ((0 : Int) ≤ (1 : Int) ∧ 1 + @sumI Objt cOb l ≤ 1000000000000) ∧ (decide (1 + @sumI Objt cOb l < 0) = true →
 false = true ∧ True) ∧ (decide (1 + @sumI Objt cOb l < 0) = false →
 (Bool.not (decide (@Eq (List (List Int)) (Layout.ends (layout l b)) (Layout.ends (layout l b)))) = true →
 false = true ∧ True) ∧ (Bool.not (decide (@Eq (List (List Int)) (Layout.ends (layout l b)) (Layout.ends (layout l b)))) = false →
 ((0 : Int) ≤ (1 : Int) ∧ 1 + @sumI (List Int) cIL (Layout.ends (layout l b)) ≤ 1000000000000) ∧ ((0 : Int) ≤ (1 : Int) ∧ 1 + @sumI (List Int) cIL (@mkL (List Int) mkIL cIL (Layout.ends (layout l b)) (1 : Int)) ≤ 1000000000000) ∧ (decide (@hdL (List Int) hIL (@mkL (List Int) mkIL cIL (Layout.ends (layout l b)) (1 : Int)) (1 : Int) < 0) = true →
 false = true ∧ True) ∧ (decide (@hdL (List Int) hIL (@mkL (List Int) mkIL cIL (Layout.ends (layout l b)) (1 : Int)) (1 : Int) < 0) = false →
 (decide (@hdL (List Int) hIL (@mkL (List Int) mkIL cIL (Layout.ends (layout l b)) (1 : Int)) (1 : Int) ≠ 1 + @sumI (List Int) cIL (Layout.ends (layout l b))) = true →
 false = true ∧ True) ∧ (decide (@hdL (List Int) hIL (@mkL (List Int) mkIL cIL (Layout.ends (layout l b)) (1 : Int)) (1 : Int) ≠ 1 + @sumI (List Int) cIL (Layout.ends (layout l b))) = false →
 LN l + @sumI Objt szOb l ≤ 1048576 ∧ (Bool.not (decide (@Eq (List (List Int)) (Layout.ends (layout l b)) (Layout.ends (layout l b)))) = true →
 false = true ∧ True) ∧ (Bool.not (decide (@Eq (List (List Int)) (Layout.ends (layout l b)) (Layout.ends (layout l b)))) = false →
 ((0 : Int) ≤ (1 : Int) ∧ 1 + @sumI (List Int) cIL (@mkL (List Int) mkIL cIL (Layout.ends (layout l b)) (1 : Int)) ≤ 1000000000000) ∧ (decide (@hdL (List Int) hIL (@mkL (List Int) mkIL cIL (Layout.ends (layout l b)) (1 : Int)) (1 : Int) < 0) = true →
 false = true ∧ True) ∧ (decide (@hdL (List Int) hIL (@mkL (List Int) mkIL cIL (Layout.ends (layout l b)) (1 : Int)) (1 : Int) < 0) = false →
 (decide (@hdL (List Int) hIL (@mkL (List Int) mkIL cIL (Layout.ends (layout l b)) (1 : Int)) (1 : Int) ≠ 1 + @sumI (List Int) cIL (Layout.ends (layout l b))) = true →
 false = true ∧ True) ∧ (decide (@hdL (List Int) hIL (@mkL (List Int) mkIL cIL (Layout.ends (layout l b)) (1 : Int)) (1 : Int) ≠ 1 + @sumI (List Int) cIL (Layout.ends (layout l b))) = false →
 true = true ∧ True)))))))))))) := by kernel_rfl
theorem det_laws_FnExactKindEnds : C_laws_FnExactKindEnds.det = true → ∀ x, (C_laws_FnExactKindEnds.out x).Det := fun _ _ => Det.vc'
set_option maxRecDepth 200000 in
set_option maxHeartbeats 4000000 in
theorem ok_laws_FnExactKindEnds : ConOK Try.prog 12 C_laws_FnExactKindEnds := by
  refine con_mk (wr := false) (ty := tyL tys_) (l := L_laws_FnExactKindEnds) ⟨⟨ok_laws_szObjectS, det_laws_szObjectS⟩, ⟨⟨ok_laws_toObjectS, det_laws_toObjectS⟩, ⟨⟨ok_spec_KindEnds, det_spec_KindEnds⟩, ⟨⟨ok_impl_KindEnds, det_impl_KindEnds⟩, ⟨⟨ok_laws_eqIntSS, det_laws_eqIntSS⟩, ⟨⟨ok_laws_eqObjectS, det_laws_eqObjectS⟩, ⟨⟨ok_laws_markObjectS, det_laws_markObjectS⟩, ⟨⟨ok_laws_markIntSS, det_laws_markIntSS⟩, ⟨⟨ok_laws_heldIntSS, det_laws_heldIntSS⟩, trivial⟩⟩⟩⟩⟩⟩⟩⟩⟩ Try.checked.mixed (fn := Try.f12) (body := Try.f12.body.getD .skip) Try.func12 rfl (by decide) (by kernel_rfl) rfl an_laws_FnExactKindEnds fun x ho hx => ?_
  obtain ⟨l, b, ⟨⟩⟩ := x
  refine Keeps.of (vc_laws_FnExactKindEnds l b) ?_
  revert l b ho hx
  show ∀ (l : List (Objt)) (b : Int), _
  intro l b ho hx
  dsimp only [C_laws_FnExactKindEnds, okPTL, okPT, Ok, Ty.cells, SN.cells, OkL, OkC, okI, ci, cb, cs, cl] at ho
  dsimp only [C_laws_FnExactKindEnds, vc, v1, decB, SR.pre] at hx
  have sn := sumI_nn szOb_nn l
  have q1 := cOb_all l
  have q2 := sumI_nn cOb_nn l
  have q3 := ends_c l b
  have hm := held_mk cIL_nn hIL_mk (layout l b).ends
  have hc := cIL_mk (layout l b).ends 1
  (try delta i64 LN); simp only [VBt]; (repeat' first | intro _ | apply And.intro); all_goals (try omega); all_goals (try have hz := szR_nn (by assumption)); all_goals first | omega | (rw [hc] at *; omega) | (try grind)
def C_laws_FnExactRegionsOf : Con := { ps := [.ro (.list (.st .obj)), .ro .i], out := fun x => let l : List (Objt) := x.1; let b : Int := x.2.1; vc .bool true, det := true }
abbrev L_laws_FnExactRegionsOf : List (Nat × Con) := [(40, C_laws_szObjectS), (41, C_laws_toObjectS), (32, C_spec_RegionsOf), (31, C_impl_RegionsOf), (47, C_laws_eqRegionS), (42, C_laws_eqObjectS), (44, C_laws_markObjectS), (48, C_laws_markRegionS), (49, C_laws_heldRegionS)]
def G_laws_FnExactRegionsOf : Cfg := mkG (tyL tys_) L_laws_FnExactRegionsOf false
def an_laws_FnExactRegionsOf : PTL C_laws_FnExactRegionsOf.ps → Nat → Option Ann := fun _ _ => none
set_option maxRecDepth 200000 in
theorem vc_laws_FnExactRegionsOf (l : List (Objt)) (b : Int) : (keeps Try.prog G_laws_FnExactRegionsOf (an_laws_FnExactRegionsOf (l, b, ())) (Try.f13.body.getD .skip) Try.f13.results.toList C_laws_FnExactRegionsOf (l, b, ())) = ((((0 : Int) ≤ (1048576 : Int) ∧ (1048576 : Int) ≤ (1048576 : Int)) ∧ (decide (szR (LN l + @sumI Objt szOb l) 1048576 < 0) = true →
 true = true ∧ True) ∧ (decide (szR (LN l + @sumI Objt szOb l) 1048576 < 0) = false →
 LN l + @sumI Objt szOb l ≤ 1048576 ∧ LN l + @sumI Objt szOb l ≤ 1048576 ∧ LN l + @sumI Objt szOb l ≤ 1048576 ∧ (Bool.not (decide (@Eq (List Region) (regs (Layout.ends (layout l b)) 0) (regs (Layout.ends (layout l b)) 0))) = true →
 false = true ∧ True) ∧ (Bool.not (decide (@Eq (List Region) (regs (Layout.ends (layout l b)) 0) (regs (Layout.ends (layout l b)) 0))) = false →
 LN l + @sumI Objt szOb l ≤ 1048576 ∧ (Bool.not (decide (@Eq (List Objt) l l)) = true →
 false = true ∧ True) ∧ (Bool.not (decide (@Eq (List Objt) l l)) = false →
 ((0 : Int) ≤ (1 : Int) ∧ 1 + @sumI Objt cOb l ≤ 1000000000000) ∧ (decide (1 + @sumI Objt cOb l < 0) = true →
 false = true ∧ True) ∧ (decide (1 + @sumI Objt cOb l < 0) = false →
 (Bool.not (decide (@Eq (List Region) (regs (Layout.ends (layout l b)) 0) (regs (Layout.ends (layout l b)) 0))) = true →
 false = true ∧ True) ∧ (Bool.not (decide (@Eq (List Region) (regs (Layout.ends (layout l b)) 0) (regs (Layout.ends (layout l b)) 0))) = false →
 ((0 : Int) ≤ (1 : Int) ∧ 1 + @sumI Region (@c4 Region) (regs (Layout.ends (layout l b)) 0) ≤ 1000000000000) ∧ ((0 : Int) ≤ (1 : Int) ∧ 1 + @sumI Region (@c4 Region) (@mkL Region mkRg (@c4 Region) (regs (Layout.ends (layout l b)) 0) (1 : Int)) ≤ 1000000000000) ∧ (decide (@hdL Region hRg (@mkL Region mkRg (@c4 Region) (regs (Layout.ends (layout l b)) 0) (1 : Int)) (1 : Int) < 0) = true →
 false = true ∧ True) ∧ (decide (@hdL Region hRg (@mkL Region mkRg (@c4 Region) (regs (Layout.ends (layout l b)) 0) (1 : Int)) (1 : Int) < 0) = false →
 (decide (@hdL Region hRg (@mkL Region mkRg (@c4 Region) (regs (Layout.ends (layout l b)) 0) (1 : Int)) (1 : Int) ≠ 1 + @sumI Region (@c4 Region) (regs (Layout.ends (layout l b)) 0)) = true →
 false = true ∧ True) ∧ (decide (@hdL Region hRg (@mkL Region mkRg (@c4 Region) (regs (Layout.ends (layout l b)) 0) (1 : Int)) (1 : Int) ≠ 1 + @sumI Region (@c4 Region) (regs (Layout.ends (layout l b)) 0)) = false →
 LN l + @sumI Objt szOb l ≤ 1048576 ∧ (Bool.not (decide (@Eq (List Region) (regs (Layout.ends (layout l b)) 0) (regs (Layout.ends (layout l b)) 0))) = true →
 false = true ∧ True) ∧ (Bool.not (decide (@Eq (List Region) (regs (Layout.ends (layout l b)) 0) (regs (Layout.ends (layout l b)) 0))) = false →
 ((0 : Int) ≤ (1 : Int) ∧ 1 + @sumI Region (@c4 Region) (@mkL Region mkRg (@c4 Region) (regs (Layout.ends (layout l b)) 0) (1 : Int)) ≤ 1000000000000) ∧ (decide (@hdL Region hRg (@mkL Region mkRg (@c4 Region) (regs (Layout.ends (layout l b)) 0) (1 : Int)) (1 : Int) < 0) = true →
 false = true ∧ True) ∧ (decide (@hdL Region hRg (@mkL Region mkRg (@c4 Region) (regs (Layout.ends (layout l b)) 0) (1 : Int)) (1 : Int) < 0) = false →
 (decide (@hdL Region hRg (@mkL Region mkRg (@c4 Region) (regs (Layout.ends (layout l b)) 0) (1 : Int)) (1 : Int) ≠ 1 + @sumI Region (@c4 Region) (regs (Layout.ends (layout l b)) 0)) = true →
 false = true ∧ True) ∧ (decide (@hdL Region hRg (@mkL Region mkRg (@c4 Region) (regs (Layout.ends (layout l b)) 0) (1 : Int)) (1 : Int) ≠ 1 + @sumI Region (@c4 Region) (regs (Layout.ends (layout l b)) 0)) = false →
 true = true ∧ True)))))))))))) := by kernel_rfl
theorem det_laws_FnExactRegionsOf : C_laws_FnExactRegionsOf.det = true → ∀ x, (C_laws_FnExactRegionsOf.out x).Det := fun _ _ => Det.vc'
set_option maxRecDepth 200000 in
set_option maxHeartbeats 4000000 in
theorem ok_laws_FnExactRegionsOf : ConOK Try.prog 13 C_laws_FnExactRegionsOf := by
  refine con_mk (wr := false) (ty := tyL tys_) (l := L_laws_FnExactRegionsOf) ⟨⟨ok_laws_szObjectS, det_laws_szObjectS⟩, ⟨⟨ok_laws_toObjectS, det_laws_toObjectS⟩, ⟨⟨ok_spec_RegionsOf, det_spec_RegionsOf⟩, ⟨⟨ok_impl_RegionsOf, det_impl_RegionsOf⟩, ⟨⟨ok_laws_eqRegionS, det_laws_eqRegionS⟩, ⟨⟨ok_laws_eqObjectS, det_laws_eqObjectS⟩, ⟨⟨ok_laws_markObjectS, det_laws_markObjectS⟩, ⟨⟨ok_laws_markRegionS, det_laws_markRegionS⟩, ⟨⟨ok_laws_heldRegionS, det_laws_heldRegionS⟩, trivial⟩⟩⟩⟩⟩⟩⟩⟩⟩ Try.checked.mixed (fn := Try.f13) (body := Try.f13.body.getD .skip) Try.func13 rfl (by decide) (by kernel_rfl) rfl an_laws_FnExactRegionsOf fun x ho hx => ?_
  obtain ⟨l, b, ⟨⟩⟩ := x
  refine Keeps.of (vc_laws_FnExactRegionsOf l b) ?_
  revert l b ho hx
  show ∀ (l : List (Objt)) (b : Int), _
  intro l b ho hx
  dsimp only [C_laws_FnExactRegionsOf, okPTL, okPT, Ok, Ty.cells, SN.cells, OkL, OkC, okI, ci, cb, cs, cl] at ho
  dsimp only [C_laws_FnExactRegionsOf, vc, v1, decB, SR.pre] at hx
  have sn := sumI_nn szOb_nn l
  have q1 := cOb_all l
  have q2 := sumI_nn cOb_nn l
  have q3 := regs_c l b
  have hm := held_mk c4_nn hRg_mk (regs (layout l b).ends 0)
  have hc := c4_mk (mk := mkRg) (c := c4) (regs (layout l b).ends 0) 1
  (try delta i64 LN); simp only [VBt]; (repeat' first | intro _ | apply And.intro); all_goals (try omega); all_goals (try have hz := szR_nn (by assumption)); all_goals first | omega | (rw [hc] at *; omega) | (try grind)
def C_laws_FnExactPlaceSections : Con := { ps := [.ro (.list (.st .obj)), .ro .i], out := fun x => let l : List (Objt) := x.1; let b : Int := x.2.1; vc .bool true, det := true }
abbrev L_laws_FnExactPlaceSections : List (Nat × Con) := [(40, C_laws_szObjectS), (41, C_laws_toObjectS), (24, C_spec_PlaceSections), (23, C_impl_PlaceSections), (43, C_laws_eqIntSS), (42, C_laws_eqObjectS), (44, C_laws_markObjectS), (45, C_laws_markIntSS), (46, C_laws_heldIntSS)]
def G_laws_FnExactPlaceSections : Cfg := mkG (tyL tys_) L_laws_FnExactPlaceSections false
def an_laws_FnExactPlaceSections : PTL C_laws_FnExactPlaceSections.ps → Nat → Option Ann := fun _ _ => none
set_option maxRecDepth 200000 in
theorem vc_laws_FnExactPlaceSections (l : List (Objt)) (b : Int) : (keeps Try.prog G_laws_FnExactPlaceSections (an_laws_FnExactPlaceSections (l, b, ())) (Try.f11.body.getD .skip) Try.f11.results.toList C_laws_FnExactPlaceSections (l, b, ())) = ((((0 : Int) ≤ (1048576 : Int) ∧ (1048576 : Int) ≤ (1048576 : Int)) ∧ (decide (szR (LN l + @sumI Objt szOb l) 1048576 < 0) = true →
 true = true ∧ True) ∧ (decide (szR (LN l + @sumI Objt szOb l) 1048576 < 0) = false →
 LN l + @sumI Objt szOb l ≤ 1048576 ∧ LN l + @sumI Objt szOb l ≤ 1048576 ∧ LN l + @sumI Objt szOb l ≤ 1048576 ∧ (Bool.not (decide (@Eq (List (List Int)) (Layout.places (layout l b)) (Layout.places (layout l b)))) = true →
 false = true ∧ True) ∧ (Bool.not (decide (@Eq (List (List Int)) (Layout.places (layout l b)) (Layout.places (layout l b)))) = false →
 (decide (endPl l b ≠ endPl l b) = true →
 false = true ∧ True) ∧ (decide (endPl l b ≠ endPl l b) = false →
 (decide (layOk l b ≠ layOk l b) = true →
 false = true ∧ True) ∧ (decide (layOk l b ≠ layOk l b) = false →
 LN l + @sumI Objt szOb l ≤ 1048576 ∧ (Bool.not (decide (@Eq (List Objt) l l)) = true →
 false = true ∧ True) ∧ (Bool.not (decide (@Eq (List Objt) l l)) = false →
 ((0 : Int) ≤ (1 : Int) ∧ 1 + @sumI Objt cOb l ≤ 1000000000000) ∧ (decide (1 + @sumI Objt cOb l < 0) = true →
 false = true ∧ True) ∧ (decide (1 + @sumI Objt cOb l < 0) = false →
 (Bool.not (decide (@Eq (List (List Int)) (Layout.places (layout l b)) (Layout.places (layout l b)))) = true →
 false = true ∧ True) ∧ (Bool.not (decide (@Eq (List (List Int)) (Layout.places (layout l b)) (Layout.places (layout l b)))) = false →
 (decide (endPl l b ≠ endPl l b) = true →
 false = true ∧ True) ∧ (decide (endPl l b ≠ endPl l b) = false →
 (decide (layOk l b ≠ layOk l b) = true →
 false = true ∧ True) ∧ (decide (layOk l b ≠ layOk l b) = false →
 ((0 : Int) ≤ (1 : Int) ∧ 1 + @sumI (List Int) cIL (Layout.places (layout l b)) ≤ 1000000000000) ∧ ((0 : Int) ≤ (1 : Int) ∧ 1 + @sumI (List Int) cIL (@mkL (List Int) mkIL cIL (Layout.places (layout l b)) (1 : Int)) ≤ 1000000000000) ∧ (decide (@hdL (List Int) hIL (@mkL (List Int) mkIL cIL (Layout.places (layout l b)) (1 : Int)) (1 : Int) < 0) = true →
 false = true ∧ True) ∧ (decide (@hdL (List Int) hIL (@mkL (List Int) mkIL cIL (Layout.places (layout l b)) (1 : Int)) (1 : Int) < 0) = false →
 (decide (@hdL (List Int) hIL (@mkL (List Int) mkIL cIL (Layout.places (layout l b)) (1 : Int)) (1 : Int) ≠ 1 + @sumI (List Int) cIL (Layout.places (layout l b))) = true →
 false = true ∧ True) ∧ (decide (@hdL (List Int) hIL (@mkL (List Int) mkIL cIL (Layout.places (layout l b)) (1 : Int)) (1 : Int) ≠ 1 + @sumI (List Int) cIL (Layout.places (layout l b))) = false →
 LN l + @sumI Objt szOb l ≤ 1048576 ∧ (Bool.not (decide (@Eq (List (List Int)) (Layout.places (layout l b)) (Layout.places (layout l b)))) = true →
 false = true ∧ True) ∧ (Bool.not (decide (@Eq (List (List Int)) (Layout.places (layout l b)) (Layout.places (layout l b)))) = false →
 (decide (endPl l b ≠ endPl l b) = true →
 false = true ∧ True) ∧ (decide (endPl l b ≠ endPl l b) = false →
 (decide (layOk l b ≠ layOk l b) = true →
 false = true ∧ True) ∧ (decide (layOk l b ≠ layOk l b) = false →
 ((0 : Int) ≤ (1 : Int) ∧ 1 + @sumI (List Int) cIL (@mkL (List Int) mkIL cIL (Layout.places (layout l b)) (1 : Int)) ≤ 1000000000000) ∧ (decide (@hdL (List Int) hIL (@mkL (List Int) mkIL cIL (Layout.places (layout l b)) (1 : Int)) (1 : Int) < 0) = true →
 false = true ∧ True) ∧ (decide (@hdL (List Int) hIL (@mkL (List Int) mkIL cIL (Layout.places (layout l b)) (1 : Int)) (1 : Int) < 0) = false →
 (decide (@hdL (List Int) hIL (@mkL (List Int) mkIL cIL (Layout.places (layout l b)) (1 : Int)) (1 : Int) ≠ 1 + @sumI (List Int) cIL (Layout.places (layout l b))) = true →
 false = true ∧ True) ∧ (decide (@hdL (List Int) hIL (@mkL (List Int) mkIL cIL (Layout.places (layout l b)) (1 : Int)) (1 : Int) ≠ 1 + @sumI (List Int) cIL (Layout.places (layout l b))) = false →
 true = true ∧ True)))))))))))))))))) := by kernel_rfl
theorem det_laws_FnExactPlaceSections : C_laws_FnExactPlaceSections.det = true → ∀ x, (C_laws_FnExactPlaceSections.out x).Det := fun _ _ => Det.vc'
set_option maxRecDepth 200000 in
set_option maxHeartbeats 4000000 in
theorem ok_laws_FnExactPlaceSections : ConOK Try.prog 11 C_laws_FnExactPlaceSections := by
  refine con_mk (wr := false) (ty := tyL tys_) (l := L_laws_FnExactPlaceSections) ⟨⟨ok_laws_szObjectS, det_laws_szObjectS⟩, ⟨⟨ok_laws_toObjectS, det_laws_toObjectS⟩, ⟨⟨ok_spec_PlaceSections, det_spec_PlaceSections⟩, ⟨⟨ok_impl_PlaceSections, det_impl_PlaceSections⟩, ⟨⟨ok_laws_eqIntSS, det_laws_eqIntSS⟩, ⟨⟨ok_laws_eqObjectS, det_laws_eqObjectS⟩, ⟨⟨ok_laws_markObjectS, det_laws_markObjectS⟩, ⟨⟨ok_laws_markIntSS, det_laws_markIntSS⟩, ⟨⟨ok_laws_heldIntSS, det_laws_heldIntSS⟩, trivial⟩⟩⟩⟩⟩⟩⟩⟩⟩ Try.checked.mixed (fn := Try.f11) (body := Try.f11.body.getD .skip) Try.func11 rfl (by decide) (by kernel_rfl) rfl an_laws_FnExactPlaceSections fun x ho hx => ?_
  obtain ⟨l, b, ⟨⟩⟩ := x
  refine Keeps.of (vc_laws_FnExactPlaceSections l b) ?_
  revert l b ho hx
  show ∀ (l : List (Objt)) (b : Int), _
  intro l b ho hx
  dsimp only [C_laws_FnExactPlaceSections, okPTL, okPT, Ok, Ty.cells, SN.cells, OkL, OkC, okI, ci, cb, cs, cl] at ho
  dsimp only [C_laws_FnExactPlaceSections, vc, v1, decB, SR.pre] at hx
  have sn := sumI_nn szOb_nn l
  have q1 := cOb_all l
  have q2 := sumI_nn cOb_nn l
  have q3 := plcs_c l b
  have hm := held_mk cIL_nn hIL_mk (layout l b).places
  have hc := cIL_mk (layout l b).places 1
  (try delta i64 LN); simp only [VBt]; (repeat' first | intro _ | apply And.intro); all_goals (try omega); all_goals (try have hz := szR_nn (by assumption)); all_goals first | omega | (rw [hc] at *; omega) | (try grind)

theorem rd_s : Reads Try.prog 9 [.str] := reads_string Try.underlying9
theorem rd_i : Reads Try.prog 3 [.i] := reads_int Try.underlying3
theorem rd_u : Reads Try.prog 5 [.u] := reads_u8 Try.underlying5
theorem rd_uL : Reads Try.prog 22 [(.list .u)] := reads_slice (t' := .u) Try.underlying22 (by kernel_rfl) (by decide) rd_u
theorem rd_fixup : Reads Try.prog 177 (SN.sig .fixup) := reads_fs (sig := SN.sig .fixup) Try.underlying177 (by kernel_rfl) (fs_cons (sig := [.i]) rfl (by kernel_rfl) rd_i (fs_cons (sig := [.i]) rfl (by kernel_rfl) rd_i (fs_cons (sig := [.i]) rfl (by kernel_rfl) rd_i (fs_cons (sig := [.i]) rfl (by kernel_rfl) rd_i fs_nil))))
theorem rd_fixupL : Reads Try.prog 159 [(.list (.st .fixup))] := reads_slice (t' := (.st .fixup)) Try.underlying159 (by kernel_rfl) (by decide) rd_fixup
theorem rd_sect : Reads Try.prog 161 (SN.sig .sect) := reads_fs (sig := SN.sig .sect) Try.underlying161 (by kernel_rfl) (fs_cons (sig := [.str]) rfl (by kernel_rfl) rd_s (fs_cons (sig := [.i]) rfl (by kernel_rfl) rd_i (fs_cons (sig := [.i]) rfl (by kernel_rfl) rd_i (fs_cons (sig := [(.list .u)]) rfl (by kernel_rfl) rd_uL (fs_cons (sig := [.i]) rfl (by kernel_rfl) rd_i (fs_cons (sig := [(.list (.st .fixup))]) rfl (by kernel_rfl) rd_fixupL fs_nil))))))
theorem rd_sectL : Reads Try.prog 97 [(.list (.st .sect))] := reads_slice (t' := (.st .sect)) Try.underlying97 (by kernel_rfl) (by decide) rd_sect
theorem rd_sym : Reads Try.prog 163 (SN.sig .sym) := reads_fs (sig := SN.sig .sym) Try.underlying163 (by kernel_rfl) (fs_cons (sig := [.str]) rfl (by kernel_rfl) rd_s (fs_cons (sig := [.i]) rfl (by kernel_rfl) rd_i (fs_cons (sig := [.i]) rfl (by kernel_rfl) rd_i (fs_cons (sig := [.i]) rfl (by kernel_rfl) rd_i fs_nil))))
theorem rd_symL : Reads Try.prog 98 [(.list (.st .sym))] := reads_slice (t' := (.st .sym)) Try.underlying98 (by kernel_rfl) (by decide) rd_sym
theorem rd_obj : Reads Try.prog 100 (SN.sig .obj) := reads_fs (sig := SN.sig .obj) Try.underlying100 (by kernel_rfl) (fs_cons (sig := [(.list (.st .sect))]) rfl (by kernel_rfl) rd_sectL (fs_cons (sig := [(.list (.st .sym))]) rfl (by kernel_rfl) rd_symL fs_nil))
theorem rd_objL : Reads Try.prog 72 [(.list (.st .obj))] := reads_slice (t' := (.st .obj)) Try.underlying72 (by kernel_rfl) (by decide) rd_obj
set_option maxRecDepth 100000 in
theorem lifted_FnExactKindEnds (os : Os) (started : os.Started) (H : Type) (enc : TypeId × Value → H) :
    ReturnsInHanded {} Try.checked os 12 .any (Rows.fnExactKindEndsSpec.pre6 enc Try.prog Try.f12 Rows.fnExactKindEndsRow.domain false) (Rows.fnExactKindEndsSpec.post enc Try.prog Try.f12 false true false false) := by
  refine returnsInHanded_of_change (C := Try.checked) head_own started (by kernel_rfl) Try.func12
    (ChangeSpec.witness6 (enc := enc) (C := Try.checked) false ⟨#[], #[.slice none 0 0, .int .i64 0], []⟩ 8 (by kernel_rfl) (by kernel_rfl) (by kernel_rfl) (by kernel_rfl)) ?_
  intro W base args ds gs before hval0 hW _ _
  have hval : ∀ (j : Nat) t v, Try.f12.params[j]? = some t → args[j]? = some v → Value.okWide Try.prog W .any base t v := hval0
  have hW' := hW
  obtain ⟨p, q, hA0, hV, rfl, hfz, hnd⟩ := hW
  have hA : DataW.TrodAll enc Try.prog W 0 (fun _ => true) true Try.f12.params.toList args.toList ds p := hA0
  rw [Try.params12] at hA hval
  obtain ⟨v0, vs0, d0, ds0, p0, q0, hargs, rfl, rfl, h0, r0⟩ := trodAll_cons hA
  obtain ⟨v1, vs1, d1, ds1, p1, q1, rfl, rfl, rfl, h1, r1⟩ := trodAll_cons r0
  obtain ⟨rfl, rfl, rfl⟩ := trodAll_nil r1
  obtain rfl : args = #[v0, v1] := by cases args; simp_all
  obtain ⟨rfl, rfl⟩ := trodVars_none hV
  have k0 := h0
  obtain ⟨x0, g0⟩ := open_slice1 Try.underlying72 rd_objL (hval 0 72 v0 rfl rfl) h0
  have k1 := h1
  obtain ⟨n1, hn1, _, _, _⟩ := open_int Try.underlying3 (hval 1 3 v1 rfl rfl) h1
  obtain ⟨x1, g1⟩ := open_one (by rw [hn1]; rfl) rd_i h1
  clear hA0 hval0 hval
  refine (law_calls ok_laws_FnExactKindEnds (x0, x1, ()) rfl rfl (W := W) (vals := [v0, v1]) ⟨g0, g1, trivial⟩).mono fun e W' ⟨he, bel⟩ => ?_
  subst he
  exact ⟨_, rfl, _, _, _, [], _, [], hW', trodAll_mk1 (shut_bool Try.underlying4 _), (trodAll_cons_mk (Below.trod head_laid (by kernel_rfl) (of_decide_eq_true (by kernel_rfl)) k0 bel (trod_lt_ k0)) (trodAll_cons_mk (Below.trod head_laid (by kernel_rfl) (of_decide_eq_true (by kernel_rfl)) k1 bel (trod_lt_ k1)) trodAll_mk0)), rfl, bel.frame _, fun h => by cases h⟩

theorem over_FnExactKindEnds : Rows.fnExactKindEndsRow.holds Try.pinned (OpenSpec.ofChange Rows.fnExactKindEndsSpec) :=
  OpenClaim.holds_of_wide 12 Try.f12 rfl rfl rfl rfl rfl rfl rfl ⟨rfl, rfl, rfl, rfl, rfl⟩ rfl rfl rfl rfl rfl (by kernel_rfl) Try.func12 (joined_of head_laid head_rowed head_stops head_stopk head_heard head_enter (show (Rows.fnExactKindEndsRow.lifted == Try.prog.liftsFinal) = true by rw [head_final]; rfl) (show (Try.prog.make == some Rows.fnExactKindEndsRow.make) = true by rw [head_make]; rfl) (by kernel_rfl))
    (of_decide_eq_true (by kernel_rfl)) (by unfold Func.isWrapper; first | (rw [if_pos (by decide +kernel)]; kernel_rfl) | (rw [if_neg (by decide +kernel)]; exact ⟨rfl, rfl⟩))
    (fun os started H enc _ => lifted_FnExactKindEnds os started H enc)

theorem proved_FnExactKindEnds : Rows.FnExactKindEndsSaid := over_FnExactKindEnds
#print axioms proved_FnExactKindEnds


set_option maxRecDepth 100000 in
theorem lifted_FnExactRegionsOf (os : Os) (started : os.Started) (H : Type) (enc : TypeId × Value → H) :
    ReturnsInHanded {} Try.checked os 13 .any (Rows.fnExactRegionsOfSpec.pre6 enc Try.prog Try.f13 Rows.fnExactRegionsOfRow.domain false) (Rows.fnExactRegionsOfSpec.post enc Try.prog Try.f13 false true false false) := by
  refine returnsInHanded_of_change (C := Try.checked) head_own started (by kernel_rfl) Try.func13
    (ChangeSpec.witness6 (enc := enc) (C := Try.checked) false ⟨#[], #[.slice none 0 0, .int .i64 0], []⟩ 8 (by kernel_rfl) (by kernel_rfl) (by kernel_rfl) (by kernel_rfl)) ?_
  intro W base args ds gs before hval0 hW _ _
  have hval : ∀ (j : Nat) t v, Try.f13.params[j]? = some t → args[j]? = some v → Value.okWide Try.prog W .any base t v := hval0
  have hW' := hW
  obtain ⟨p, q, hA0, hV, rfl, hfz, hnd⟩ := hW
  have hA : DataW.TrodAll enc Try.prog W 0 (fun _ => true) true Try.f13.params.toList args.toList ds p := hA0
  rw [Try.params13] at hA hval
  obtain ⟨v0, vs0, d0, ds0, p0, q0, hargs, rfl, rfl, h0, r0⟩ := trodAll_cons hA
  obtain ⟨v1, vs1, d1, ds1, p1, q1, rfl, rfl, rfl, h1, r1⟩ := trodAll_cons r0
  obtain ⟨rfl, rfl, rfl⟩ := trodAll_nil r1
  obtain rfl : args = #[v0, v1] := by cases args; simp_all
  obtain ⟨rfl, rfl⟩ := trodVars_none hV
  have k0 := h0
  obtain ⟨x0, g0⟩ := open_slice1 Try.underlying72 rd_objL (hval 0 72 v0 rfl rfl) h0
  have k1 := h1
  obtain ⟨n1, hn1, _, _, _⟩ := open_int Try.underlying3 (hval 1 3 v1 rfl rfl) h1
  obtain ⟨x1, g1⟩ := open_one (by rw [hn1]; rfl) rd_i h1
  clear hA0 hval0 hval
  refine (law_calls ok_laws_FnExactRegionsOf (x0, x1, ()) rfl rfl (W := W) (vals := [v0, v1]) ⟨g0, g1, trivial⟩).mono fun e W' ⟨he, bel⟩ => ?_
  subst he
  exact ⟨_, rfl, _, _, _, [], _, [], hW', trodAll_mk1 (shut_bool Try.underlying4 _), (trodAll_cons_mk (Below.trod head_laid (by kernel_rfl) (of_decide_eq_true (by kernel_rfl)) k0 bel (trod_lt_ k0)) (trodAll_cons_mk (Below.trod head_laid (by kernel_rfl) (of_decide_eq_true (by kernel_rfl)) k1 bel (trod_lt_ k1)) trodAll_mk0)), rfl, bel.frame _, fun h => by cases h⟩

theorem over_FnExactRegionsOf : Rows.fnExactRegionsOfRow.holds Try.pinned (OpenSpec.ofChange Rows.fnExactRegionsOfSpec) :=
  OpenClaim.holds_of_wide 13 Try.f13 rfl rfl rfl rfl rfl rfl rfl ⟨rfl, rfl, rfl, rfl, rfl⟩ rfl rfl rfl rfl rfl (by kernel_rfl) Try.func13 (joined_of head_laid head_rowed head_stops head_stopk head_heard head_enter (show (Rows.fnExactRegionsOfRow.lifted == Try.prog.liftsFinal) = true by rw [head_final]; rfl) (show (Try.prog.make == some Rows.fnExactRegionsOfRow.make) = true by rw [head_make]; rfl) (by kernel_rfl))
    (of_decide_eq_true (by kernel_rfl)) (by unfold Func.isWrapper; first | (rw [if_pos (by decide +kernel)]; kernel_rfl) | (rw [if_neg (by decide +kernel)]; exact ⟨rfl, rfl⟩))
    (fun os started H enc _ => lifted_FnExactRegionsOf os started H enc)

theorem proved_FnExactRegionsOf : Rows.FnExactRegionsOfSaid := over_FnExactRegionsOf
#print axioms proved_FnExactRegionsOf


set_option maxRecDepth 100000 in
theorem lifted_FnExactPlaceSections (os : Os) (started : os.Started) (H : Type) (enc : TypeId × Value → H) :
    ReturnsInHanded {} Try.checked os 11 .any (Rows.fnExactPlaceSectionsSpec.pre6 enc Try.prog Try.f11 Rows.fnExactPlaceSectionsRow.domain false) (Rows.fnExactPlaceSectionsSpec.post enc Try.prog Try.f11 false true false false) := by
  refine returnsInHanded_of_change (C := Try.checked) head_own started (by kernel_rfl) Try.func11
    (ChangeSpec.witness6 (enc := enc) (C := Try.checked) false ⟨#[], #[.slice none 0 0, .int .i64 0], []⟩ 8 (by kernel_rfl) (by kernel_rfl) (by kernel_rfl) (by kernel_rfl)) ?_
  intro W base args ds gs before hval0 hW _ _
  have hval : ∀ (j : Nat) t v, Try.f11.params[j]? = some t → args[j]? = some v → Value.okWide Try.prog W .any base t v := hval0
  have hW' := hW
  obtain ⟨p, q, hA0, hV, rfl, hfz, hnd⟩ := hW
  have hA : DataW.TrodAll enc Try.prog W 0 (fun _ => true) true Try.f11.params.toList args.toList ds p := hA0
  rw [Try.params11] at hA hval
  obtain ⟨v0, vs0, d0, ds0, p0, q0, hargs, rfl, rfl, h0, r0⟩ := trodAll_cons hA
  obtain ⟨v1, vs1, d1, ds1, p1, q1, rfl, rfl, rfl, h1, r1⟩ := trodAll_cons r0
  obtain ⟨rfl, rfl, rfl⟩ := trodAll_nil r1
  obtain rfl : args = #[v0, v1] := by cases args; simp_all
  obtain ⟨rfl, rfl⟩ := trodVars_none hV
  have k0 := h0
  obtain ⟨x0, g0⟩ := open_slice1 Try.underlying72 rd_objL (hval 0 72 v0 rfl rfl) h0
  have k1 := h1
  obtain ⟨n1, hn1, _, _, _⟩ := open_int Try.underlying3 (hval 1 3 v1 rfl rfl) h1
  obtain ⟨x1, g1⟩ := open_one (by rw [hn1]; rfl) rd_i h1
  clear hA0 hval0 hval
  refine (law_calls ok_laws_FnExactPlaceSections (x0, x1, ()) rfl rfl (W := W) (vals := [v0, v1]) ⟨g0, g1, trivial⟩).mono fun e W' ⟨he, bel⟩ => ?_
  subst he
  exact ⟨_, rfl, _, _, _, [], _, [], hW', trodAll_mk1 (shut_bool Try.underlying4 _), (trodAll_cons_mk (Below.trod head_laid (by kernel_rfl) (of_decide_eq_true (by kernel_rfl)) k0 bel (trod_lt_ k0)) (trodAll_cons_mk (Below.trod head_laid (by kernel_rfl) (of_decide_eq_true (by kernel_rfl)) k1 bel (trod_lt_ k1)) trodAll_mk0)), rfl, bel.frame _, fun h => by cases h⟩

theorem over_FnExactPlaceSections : Rows.fnExactPlaceSectionsRow.holds Try.pinned (OpenSpec.ofChange Rows.fnExactPlaceSectionsSpec) :=
  OpenClaim.holds_of_wide 11 Try.f11 rfl rfl rfl rfl rfl rfl rfl ⟨rfl, rfl, rfl, rfl, rfl⟩ rfl rfl rfl rfl rfl (by kernel_rfl) Try.func11 (joined_of head_laid head_rowed head_stops head_stopk head_heard head_enter (show (Rows.fnExactPlaceSectionsRow.lifted == Try.prog.liftsFinal) = true by rw [head_final]; rfl) (show (Try.prog.make == some Rows.fnExactPlaceSectionsRow.make) = true by rw [head_make]; rfl) (by kernel_rfl))
    (of_decide_eq_true (by kernel_rfl)) (by unfold Func.isWrapper; first | (rw [if_pos (by decide +kernel)]; kernel_rfl) | (rw [if_neg (by decide +kernel)]; exact ⟨rfl, rfl⟩))
    (fun os started H enc _ => lifted_FnExactPlaceSections os started H enc)

theorem proved_FnExactPlaceSections : Rows.FnExactPlaceSectionsSaid := over_FnExactPlaceSections
#print axioms proved_FnExactPlaceSections

end Go.Proofs.Ytignicccfjdiiaa
