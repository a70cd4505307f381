/- Copies of objects: both packages keep the same contracts. -/
import Derived.Test.YtignicccfjdiiaaLib
import Derived.Test.YtignicccfjdiiaaObjD
set_option linter.unusedVariables false
set_option linter.unusedSimpArgs false
namespace Go.Proofs.Ytignicccfjdiiaa
open Go Go.RowKit


def C_spec_l1OwnSection : Con := { ps := [.ro (.st .sect)], out := fun x => let q : Sect := x.1; .req (szSe q ≤ 1048576) (newS .sect q), det := true }
abbrev L_spec_l1OwnSection : List (Nat × Con) := []
def G_spec_l1OwnSection : Cfg := mkG (tyL tys_) L_spec_l1OwnSection false
def an_spec_l1OwnSection : PTL C_spec_l1OwnSection.ps → Nat → Option Ann := fun _ _ => none
set_option maxRecDepth 200000 in
theorem vc_spec_l1OwnSection (q : Sect) : (keeps Try.prog G_spec_l1OwnSection (an_spec_l1OwnSection (q, ())) (Try.f136.body.getD .skip) Try.f136.results.toList C_spec_l1OwnSection (q, ())) = ((((((0 + (List.length (Sect.bytes q))) * 1) ≤ 140737488355328) ∧
 ((0 + (List.length (Sect.bytes q))) ≤ 1000000000000)) ∧
 (((((0 + (List.length (Sect.fixups q))) * 32) ≤ 140737488355328) ∧
 ((0 + (List.length (Sect.fixups q))) ≤ 1000000000000)) ∧
 ((@Eq ByteArray (Sect.name q) (Sect.name q)) ∧
 (((Sect.kind q) = (Sect.kind q)) ∧
 (((Sect.align q) = (Sect.align q)) ∧
 (((Sect.size q) = (Sect.size q)) ∧
 ((@Eq (List Int) (Sect.bytes q) (Sect.bytes q)) ∧
 ((@Eq (List Fixup) (Sect.fixups q) (Sect.fixups q)) ∧
 True))))))))) := by kernel_rfl
theorem det_spec_l1OwnSection : C_spec_l1OwnSection.det = true → ∀ x, (C_spec_l1OwnSection.out x).Det := fun _ x => by simp only [C_spec_l1OwnSection]; repeat (first | exact Det.ret _ | exact Det.vc' | apply Det.req)
set_option maxRecDepth 200000 in
set_option maxHeartbeats 4000000 in
theorem ok_spec_l1OwnSection : ConOK Try.prog 136 C_spec_l1OwnSection := by
  refine con_mk (wr := false) (ty := tyL tys_) (l := L_spec_l1OwnSection) trivial Try.checked.mixed (fn := Try.f136) (body := Try.f136.body.getD .skip) Try.func136 rfl (by decide) (by kernel_rfl) rfl an_spec_l1OwnSection fun x ho hx => ?_
  obtain ⟨q, ⟨⟩⟩ := x
  refine Keeps.of (vc_spec_l1OwnSection q) ?_
  revert q ho hx
  show ∀ (q : Sect), _
  intro q ho hx
  dsimp only [C_spec_l1OwnSection, okPTL, okPT, Ok, Ty.cells, SN.cells, OkL, OkC, okI, ci, cb, cs, cl] at ho
  dsimp only [C_spec_l1OwnSection, vc, v1, decB, SR.pre] at hx
  (try delta i64 LN); simp only [VBt]; (repeat' first | intro _ | apply And.intro); all_goals (try omega); all_goals grind [szSe]
def C_spec_l1OwnSectionList : Con := { ps := [.ro (.list (.st .sect))], out := fun x => let l : List (Sect) := x.1; .req (l.length + sumI szSe l ≤ 1048576) (newL (.st .sect) l), det := true }
abbrev L_spec_l1OwnSectionList : List (Nat × Con) := [(136, C_spec_l1OwnSection)]
def G_spec_l1OwnSectionList : Cfg := mkG (tyL tys_) L_spec_l1OwnSectionList false
def an_spec_l1OwnSectionList : PTL C_spec_l1OwnSectionList.ps → Nat → Option Ann := fun x kk_ => let l : List (Sect) := x.1; if kk_ = 3 then some (.all (Int) fun i => .giv (0 ≤ i ∧ i ≤ l.length) (.mk [(4, ai i), (3, asl 20), (0, al (.st .sect) l)] [(20, .row (some 50) (.st .sect) (l.take i.toNat) true)] ((l.length - i.toNat)))) else none
set_option maxRecDepth 200000 in
theorem vc_spec_l1OwnSectionList (l : List (Sect)) : (keeps Try.prog G_spec_l1OwnSectionList (an_spec_l1OwnSectionList (l, ())) (Try.f126.body.getD .skip) Try.f126.results.toList C_spec_l1OwnSectionList (l, ())) = (((∃ (x_1 : Int), ((0 = x_1) ∧
 ((@Eq (List Sect) l l) ∧
 ((@Eq (List Sect) ([] : List Sect) (List.take (Int.toNat x_1) l)) ∧
 (((0 ≤ x_1) ∧
 (x_1 ≤ (LN l))) ∧
 True))))) ∧
 (∀ (x_2 : Int), (((0 ≤ x_2) ∧
 (x_2 ≤ (LN l))) →
 (((List.length l) ≤ 9223372036854775807) →
 ((((decide (x_2 < (LN l))) = true) →
 (((0 ≤ x_2) ∧
 (x_2 < (LN l))) ∧
 (∀ (x_3 : Sect), ((@Eq (Option Sect) (l)[(Int.toNat x_2)]? (some x_3)) →
 ((Ok (Ty.st SN.sect) x_3) →
 (((szSe x_3) ≤ 1048576) ∧
 ((((((List.length (List.take (Int.toNat x_2) l)) + (List.length [x_3])) * 88) ≤ 140737488355328) ∧
 (((List.length (List.take (Int.toNat x_2) l)) + (List.length [x_3])) ≤ 1000000000000)) ∧
 ((i64 (x_2 + (1 : Int))) ∧
 (∃ (x_4 : Int), (((x_2 + (1 : Int)) = x_4) ∧
 ((@Eq (List Sect) l l) ∧
 ((@Eq (List Sect) ((List.take (Int.toNat x_2) l) ++ [x_3]) (List.take (Int.toNat x_4) l)) ∧
 (((0 ≤ x_4) ∧
 (x_4 ≤ (LN l))) ∧
 (((List.length l) - (Int.toNat x_4)) < ((List.length l) - (Int.toNat x_2)))))))))))))))) ∧
 (((decide (x_2 < (LN l))) = false) →
 ((@Eq (List Sect) (List.take (Int.toNat x_2) l) l) ∧
 True)))))))) := by kernel_rfl
theorem det_spec_l1OwnSectionList : C_spec_l1OwnSectionList.det = true → ∀ x, (C_spec_l1OwnSectionList.out x).Det := fun _ x => by simp only [C_spec_l1OwnSectionList]; repeat (first | exact Det.ret _ | exact Det.vc' | apply Det.req)
set_option maxRecDepth 200000 in
set_option maxHeartbeats 4000000 in
theorem ok_spec_l1OwnSectionList : ConOK Try.prog 126 C_spec_l1OwnSectionList := by
  refine con_mk (wr := false) (ty := tyL tys_) (l := L_spec_l1OwnSectionList) ⟨⟨ok_spec_l1OwnSection, det_spec_l1OwnSection⟩, trivial⟩ Try.checked.mixed (fn := Try.f126) (body := Try.f126.body.getD .skip) Try.func126 rfl (by decide) (by kernel_rfl) rfl an_spec_l1OwnSectionList fun x ho hx => ?_
  obtain ⟨l, ⟨⟩⟩ := x
  refine Keeps.of (vc_spec_l1OwnSectionList l) ?_
  revert l ho hx
  show ∀ (l : List (Sect)), _
  intro l ho hx
  dsimp only [C_spec_l1OwnSectionList, okPTL, okPT, Ok, Ty.cells, SN.cells, OkL, OkC, okI, ci, cb, cs, cl] at ho
  dsimp only [C_spec_l1OwnSectionList, vc, v1, decB, SR.pre] at hx
  have cs := sumI_nn (f := szSe) szSe_nn l
  have ca := fun k x => sumI_at szSe_nn (l := l) (k := k) (x := x)
  (try delta i64 LN); simp only [VBt]; (repeat' first | intro _ | apply And.intro); all_goals (try omega)
  all_goals (try first | exact take_app' (by assumption) (by assumption) | exact take_end' (by assumption) | grind)
def C_spec_l1OwnObject : Con := { ps := [.ro (.st .obj)], out := fun x => let o : Objt := x.1; .req (szOb o ≤ 1048576) (newS .obj o), det := true }
abbrev L_spec_l1OwnObject : List (Nat × Con) := [(126, C_spec_l1OwnSectionList)]
def G_spec_l1OwnObject : Cfg := mkG (tyL tys_) L_spec_l1OwnObject false
def an_spec_l1OwnObject : PTL C_spec_l1OwnObject.ps → Nat → Option Ann := fun _ _ => none
set_option maxRecDepth 200000 in
theorem vc_spec_l1OwnObject (o : Objt) : (keeps Try.prog G_spec_l1OwnObject (an_spec_l1OwnObject (o, ())) (Try.f107.body.getD .skip) Try.f107.results.toList C_spec_l1OwnObject (o, ())) = (((((LN (Objt.sects o)) + (@sumI Sect szSe (Objt.sects o))) ≤ 1048576) ∧
 (((((0 + (List.length (Objt.syms o))) * 40) ≤ 140737488355328) ∧
 ((0 + (List.length (Objt.syms o))) ≤ 1000000000000)) ∧
 ((@Eq (List Sect) (Objt.sects o) (Objt.sects o)) ∧
 ((@Eq (List Sym) (Objt.syms o) (Objt.syms o)) ∧
 True))))) := by kernel_rfl
theorem det_spec_l1OwnObject : C_spec_l1OwnObject.det = true → ∀ x, (C_spec_l1OwnObject.out x).Det := fun _ x => by simp only [C_spec_l1OwnObject]; repeat (first | exact Det.ret _ | exact Det.vc' | apply Det.req)
set_option maxRecDepth 200000 in
set_option maxHeartbeats 4000000 in
theorem ok_spec_l1OwnObject : ConOK Try.prog 107 C_spec_l1OwnObject := by
  refine con_mk (wr := false) (ty := tyL tys_) (l := L_spec_l1OwnObject) ⟨⟨ok_spec_l1OwnSectionList, det_spec_l1OwnSectionList⟩, trivial⟩ Try.checked.mixed (fn := Try.f107) (body := Try.f107.body.getD .skip) Try.func107 rfl (by decide) (by kernel_rfl) rfl an_spec_l1OwnObject fun x ho hx => ?_
  obtain ⟨o, ⟨⟩⟩ := x
  refine Keeps.of (vc_spec_l1OwnObject o) ?_
  revert o ho hx
  show ∀ (o : Objt), _
  intro o ho hx
  dsimp only [C_spec_l1OwnObject, okPTL, okPT, Ok, Ty.cells, SN.cells, OkL, OkC, okI, ci, cb, cs, cl] at ho
  dsimp only [C_spec_l1OwnObject, vc, v1, decB, SR.pre] at hx
  have f0 := sumI_nn szSe_nn o.sects
  have f1 := sumI_nn szSy_nn o.syms
  (try delta i64 LN); simp only [VBt]; (repeat' first | intro _ | apply And.intro); all_goals (try omega); all_goals grind [szOb]
def C_spec_l1OwnObjectList : Con := { ps := [.ro (.list (.st .obj))], out := fun x => let l : List (Objt) := x.1; .req (l.length + sumI szOb l ≤ 1048576) (newL (.st .obj) l), det := true }
abbrev L_spec_l1OwnObjectList : List (Nat × Con) := [(107, C_spec_l1OwnObject)]
def G_spec_l1OwnObjectList : Cfg := mkG (tyL tys_) L_spec_l1OwnObjectList false
def an_spec_l1OwnObjectList : PTL C_spec_l1OwnObjectList.ps → Nat → Option Ann := fun x kk_ => let l : List (Objt) := x.1; if kk_ = 3 then some (.all (Int) fun i => .giv (0 ≤ i ∧ i ≤ l.length) (.mk [(4, ai i), (3, asl 20), (0, al (.st .obj) l)] [(20, .row (some 29) (.st .obj) (l.take i.toNat) true)] ((l.length - i.toNat)))) else none
set_option maxRecDepth 200000 in
theorem vc_spec_l1OwnObjectList (l : List (Objt)) : (keeps Try.prog G_spec_l1OwnObjectList (an_spec_l1OwnObjectList (l, ())) (Try.f73.body.getD .skip) Try.f73.results.toList C_spec_l1OwnObjectList (l, ())) = (((∃ (x_1 : Int), ((0 = x_1) ∧
 ((@Eq (List Objt) l l) ∧
 ((@Eq (List Objt) ([] : List Objt) (List.take (Int.toNat x_1) l)) ∧
 (((0 ≤ x_1) ∧
 (x_1 ≤ (LN l))) ∧
 True))))) ∧
 (∀ (x_2 : Int), (((0 ≤ x_2) ∧
 (x_2 ≤ (LN l))) →
 (((List.length l) ≤ 9223372036854775807) →
 ((((decide (x_2 < (LN l))) = true) →
 (((0 ≤ x_2) ∧
 (x_2 < (LN l))) ∧
 (∀ (x_3 : Objt), ((@Eq (Option Objt) (l)[(Int.toNat x_2)]? (some x_3)) →
 ((Ok (Ty.st SN.obj) x_3) →
 (((szOb x_3) ≤ 1048576) ∧
 ((((((List.length (List.take (Int.toNat x_2) l)) + (List.length [x_3])) * 48) ≤ 140737488355328) ∧
 (((List.length (List.take (Int.toNat x_2) l)) + (List.length [x_3])) ≤ 1000000000000)) ∧
 ((i64 (x_2 + (1 : Int))) ∧
 (∃ (x_4 : Int), (((x_2 + (1 : Int)) = x_4) ∧
 ((@Eq (List Objt) l l) ∧
 ((@Eq (List Objt) ((List.take (Int.toNat x_2) l) ++ [x_3]) (List.take (Int.toNat x_4) l)) ∧
 (((0 ≤ x_4) ∧
 (x_4 ≤ (LN l))) ∧
 (((List.length l) - (Int.toNat x_4)) < ((List.length l) - (Int.toNat x_2)))))))))))))))) ∧
 (((decide (x_2 < (LN l))) = false) →
 ((@Eq (List Objt) (List.take (Int.toNat x_2) l) l) ∧
 True)))))))) := by kernel_rfl
theorem det_spec_l1OwnObjectList : C_spec_l1OwnObjectList.det = true → ∀ x, (C_spec_l1OwnObjectList.out x).Det := fun _ x => by simp only [C_spec_l1OwnObjectList]; repeat (first | exact Det.ret _ | exact Det.vc' | apply Det.req)
set_option maxRecDepth 200000 in
set_option maxHeartbeats 4000000 in
theorem ok_spec_l1OwnObjectList : ConOK Try.prog 73 C_spec_l1OwnObjectList := by
  refine con_mk (wr := false) (ty := tyL tys_) (l := L_spec_l1OwnObjectList) ⟨⟨ok_spec_l1OwnObject, det_spec_l1OwnObject⟩, trivial⟩ Try.checked.mixed (fn := Try.f73) (body := Try.f73.body.getD .skip) Try.func73 rfl (by decide) (by kernel_rfl) rfl an_spec_l1OwnObjectList fun x ho hx => ?_
  obtain ⟨l, ⟨⟩⟩ := x
  refine Keeps.of (vc_spec_l1OwnObjectList l) ?_
  revert l ho hx
  show ∀ (l : List (Objt)), _
  intro l ho hx
  dsimp only [C_spec_l1OwnObjectList, okPTL, okPT, Ok, Ty.cells, SN.cells, OkL, OkC, okI, ci, cb, cs, cl] at ho
  dsimp only [C_spec_l1OwnObjectList, vc, v1, decB, SR.pre] at hx
  have cs := sumI_nn (f := szOb) szOb_nn l
  have ca := fun k x => sumI_at szOb_nn (l := l) (k := k) (x := x)
  (try delta i64 LN); simp only [VBt]; (repeat' first | intro _ | apply And.intro); all_goals (try omega)
  all_goals (try first | exact take_app' (by assumption) (by assumption) | exact take_end' (by assumption) | grind)
end Go.Proofs.Ytignicccfjdiiaa
