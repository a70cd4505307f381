/- The readers that the laws on names draw their data with. -/
import Derived.Test.YthkefakjihafeaaDrawL
set_option linter.unusedVariables false
set_option linter.unusedSimpArgs false
namespace Go.Proofs.Ythkefakjihafeaa
open Go Go.RowKit


def C_spec_DrawNamesGiven : Con := { ps := [.ro (.list .u)], out := fun x => let c : List (Int) := x.1; .all Objt fun o => .giv (objSm o = true) (newS .obj o), det := false }
abbrev L_spec_DrawNamesGiven : List (Nat × Con) := [(35, C_spec_l20Open), (34, C_spec_l20Object)]
def G_spec_DrawNamesGiven : Cfg := mkG (tyL tys_) L_spec_DrawNamesGiven false
def an_spec_DrawNamesGiven : PTL C_spec_DrawNamesGiven.ps → Nat → Option Ann := fun _ _ => none
set_option maxRecDepth 200000 in
theorem vc_spec_DrawNamesGiven (c : List (Int)) : (keeps Try.prog G_spec_DrawNamesGiven (an_spec_DrawNamesGiven (c, ())) (Try.f10.body.getD .skip) Try.f10.results.toList C_spec_DrawNamesGiven (c, ())) = ((((0 : Int) ≤ (0 : Int) ∧ (0 : Int) ≤ (10000000 : Int) ∧ (9 : Int) ≤ (1000000 : Int)) ∧ (∀ (x_1 : Objt), (∀ (x_2 : Int), 0 ≤ x_2 ∧ x_2 ≤ (0 : Int) + (700 : Int) ∧ objSm x_1 = true →
 (∃ (x_3 : Objt), (@Eq (List Sect) (Objt.sects x_1) (Objt.sects x_3) ∧ @Eq (List Sym) (Objt.syms x_1) (Objt.syms x_3) ∧ True) ∧ objSm x_3 = true))))) := by kernel_rfl
theorem det_spec_DrawNamesGiven : C_spec_DrawNamesGiven.det = true → ∀ x, (C_spec_DrawNamesGiven.out x).Det := fun h => absurd h Bool.false_ne_true
set_option maxRecDepth 200000 in
set_option maxHeartbeats 4000000 in
theorem ok_spec_DrawNamesGiven : ConOK Try.prog 10 C_spec_DrawNamesGiven := by
  refine con_mk (wr := false) (ty := tyL tys_) (l := L_spec_DrawNamesGiven) ⟨⟨ok_spec_l20Open, det_spec_l20Open⟩, ⟨⟨ok_spec_l20Object, det_spec_l20Object⟩, trivial⟩⟩ Try.checked.mixed (fn := Try.f10) (body := Try.f10.body.getD .skip) Try.func10 rfl (by decide) (by kernel_rfl) rfl an_spec_DrawNamesGiven fun x ho hx => ?_
  obtain ⟨c, ⟨⟩⟩ := x
  refine Keeps.of (vc_spec_DrawNamesGiven c) ?_
  revert c ho hx
  show ∀ (c : List (Int)), _
  intro c ho hx
  dsimp only [C_spec_DrawNamesGiven, okPTL, okPT, Ok, Ty.cells, SN.cells, OkL, OkC, okI, ci, cb, cs, cl] at ho
  dsimp only [C_spec_DrawNamesGiven, vc, v1, decB, SR.pre] at hx
  (try delta i64 LN); simp only [DRt, ex_sect2]; (repeat' first | apply And.intro | (intro x hq _; replace hq := List.mem_of_getElem? hq; simp only [List.mem_cons, List.not_mem_nil, or_false] at hq) | intro _); all_goals (try omega)
  all_goals (try grind)
def C_spec_DrawNamesTwice : Con := { ps := [.ro (.list .u)], out := fun x => let c : List (Int) := x.1; .all (List Objt) fun l => .giv (l.length ≤ 5 ∧ objsA l = true) (.ret { val := .one (.c (cl (.st .obj) l)) }), det := false }
abbrev L_spec_DrawNamesTwice : List (Nat × Con) := [(35, C_spec_l20Open), (44, C_spec_l20Objects)]
def G_spec_DrawNamesTwice : Cfg := mkG (tyL tys_) L_spec_DrawNamesTwice false
def an_spec_DrawNamesTwice : PTL C_spec_DrawNamesTwice.ps → Nat → Option Ann := fun _ _ => none
set_option maxRecDepth 200000 in
theorem vc_spec_DrawNamesTwice (c : List (Int)) : (keeps Try.prog G_spec_DrawNamesTwice (an_spec_DrawNamesTwice (c, ())) (Try.f16.body.getD .skip) Try.f16.results.toList C_spec_DrawNamesTwice (c, ())) = ((((0 : Int) ≤ (0 : Int) ∧ (0 : Int) ≤ (1000000 : Int) ∧ (0 : Int) ≤ (9 : Int) ∧ (9 : Int) ≤ (100000 : Int)) ∧ (∀ (x_1 : List Objt), (∀ (x_2 : Int), 0 ≤ x_2 ∧ x_2 ≤ (0 : Int) + (5000 : Int) ∧ x_1.length ≤ 5 ∧ objsA x_1 = true →
 (∃ (x_3 : List Objt), (@Eq (List Objt) x_1 x_3 ∧ True) ∧ x_3.length ≤ 5 ∧ objsA x_3 = true))))) := by kernel_rfl
theorem det_spec_DrawNamesTwice : C_spec_DrawNamesTwice.det = true → ∀ x, (C_spec_DrawNamesTwice.out x).Det := fun h => absurd h Bool.false_ne_true
set_option maxRecDepth 200000 in
set_option maxHeartbeats 4000000 in
theorem ok_spec_DrawNamesTwice : ConOK Try.prog 16 C_spec_DrawNamesTwice := by
  refine con_mk (wr := false) (ty := tyL tys_) (l := L_spec_DrawNamesTwice) ⟨⟨ok_spec_l20Open, det_spec_l20Open⟩, ⟨⟨ok_spec_l20Objects, det_spec_l20Objects⟩, trivial⟩⟩ Try.checked.mixed (fn := Try.f16) (body := Try.f16.body.getD .skip) Try.func16 rfl (by decide) (by kernel_rfl) rfl an_spec_DrawNamesTwice fun x ho hx => ?_
  obtain ⟨c, ⟨⟩⟩ := x
  refine Keeps.of (vc_spec_DrawNamesTwice c) ?_
  revert c ho hx
  show ∀ (c : List (Int)), _
  intro c ho hx
  dsimp only [C_spec_DrawNamesTwice, okPTL, okPT, Ok, Ty.cells, SN.cells, OkL, OkC, okI, ci, cb, cs, cl] at ho
  dsimp only [C_spec_DrawNamesTwice, vc, v1, decB, SR.pre] at hx
  (try delta i64 LN); simp only [DRt, ex_sect2]; (repeat' first | apply And.intro | (intro x hq _; replace hq := List.mem_of_getElem? hq; simp only [List.mem_cons, List.not_mem_nil, or_false] at hq) | intro _); all_goals (try omega)
  all_goals (try grind)
def C_spec_DrawNamesMissing : Con := { ps := [.ro (.list .u)], out := fun x => let c : List (Int) := x.1; .all (List Objt) fun l => .giv (l.length ≤ 5 ∧ objsA l = true) (.ret { val := .one (.c (cl (.st .obj) l)) }), det := false }
abbrev L_spec_DrawNamesMissing : List (Nat × Con) := [(35, C_spec_l20Open), (44, C_spec_l20Objects)]
def G_spec_DrawNamesMissing : Cfg := mkG (tyL tys_) L_spec_DrawNamesMissing false
def an_spec_DrawNamesMissing : PTL C_spec_DrawNamesMissing.ps → Nat → Option Ann := fun _ _ => none
set_option maxRecDepth 200000 in
theorem vc_spec_DrawNamesMissing (c : List (Int)) : (keeps Try.prog G_spec_DrawNamesMissing (an_spec_DrawNamesMissing (c, ())) (Try.f19.body.getD .skip) Try.f19.results.toList C_spec_DrawNamesMissing (c, ())) = ((((0 : Int) ≤ (0 : Int) ∧ (0 : Int) ≤ (1000000 : Int) ∧ (0 : Int) ≤ (9 : Int) ∧ (9 : Int) ≤ (100000 : Int)) ∧ (∀ (x_1 : List Objt), (∀ (x_2 : Int), 0 ≤ x_2 ∧ x_2 ≤ (0 : Int) + (5000 : Int) ∧ x_1.length ≤ 5 ∧ objsA x_1 = true →
 (∃ (x_3 : List Objt), (@Eq (List Objt) x_1 x_3 ∧ True) ∧ x_3.length ≤ 5 ∧ objsA x_3 = true))))) := by kernel_rfl
theorem det_spec_DrawNamesMissing : C_spec_DrawNamesMissing.det = true → ∀ x, (C_spec_DrawNamesMissing.out x).Det := fun h => absurd h Bool.false_ne_true
set_option maxRecDepth 200000 in
set_option maxHeartbeats 4000000 in
theorem ok_spec_DrawNamesMissing : ConOK Try.prog 19 C_spec_DrawNamesMissing := by
  refine con_mk (wr := false) (ty := tyL tys_) (l := L_spec_DrawNamesMissing) ⟨⟨ok_spec_l20Open, det_spec_l20Open⟩, ⟨⟨ok_spec_l20Objects, det_spec_l20Objects⟩, trivial⟩⟩ Try.checked.mixed (fn := Try.f19) (body := Try.f19.body.getD .skip) Try.func19 rfl (by decide) (by kernel_rfl) rfl an_spec_DrawNamesMissing fun x ho hx => ?_
  obtain ⟨c, ⟨⟩⟩ := x
  refine Keeps.of (vc_spec_DrawNamesMissing c) ?_
  revert c ho hx
  show ∀ (c : List (Int)), _
  intro c ho hx
  dsimp only [C_spec_DrawNamesMissing, okPTL, okPT, Ok, Ty.cells, SN.cells, OkL, OkC, okI, ci, cb, cs, cl] at ho
  dsimp only [C_spec_DrawNamesMissing, vc, v1, decB, SR.pre] at hx
  (try delta i64 LN); simp only [DRt, ex_sect2]; (repeat' first | apply And.intro | (intro x hq _; replace hq := List.mem_of_getElem? hq; simp only [List.mem_cons, List.not_mem_nil, or_false] at hq) | intro _); all_goals (try omega)
  all_goals (try grind)
def C_spec_DrawTakeMembers : Con := { ps := [.ro (.list .u)], out := fun x => let c : List (Int) := x.1; .all (List Objt) fun l => .all (List Member) fun m => .giv (l.length ≤ 5 ∧ objsA l = true ∧ m.length ≤ 6 ∧ mbsA m = true) (.ret { val := .tup [(false, [.c (cl (.st .obj) l)]), (false, [.c (cl (.st .member) m)])] }), det := false }
abbrev L_spec_DrawTakeMembers : List (Nat × Con) := [(35, C_spec_l20Open), (44, C_spec_l20Objects), (50, C_spec_l20Archive)]
def G_spec_DrawTakeMembers : Cfg := mkG (tyL tys_) L_spec_DrawTakeMembers false
def an_spec_DrawTakeMembers : PTL C_spec_DrawTakeMembers.ps → Nat → Option Ann := fun _ _ => none
set_option maxRecDepth 200000 in
theorem vc_spec_DrawTakeMembers (c : List (Int)) : (keeps Try.prog G_spec_DrawTakeMembers (an_spec_DrawTakeMembers (c, ())) (Try.f23.body.getD .skip) Try.f23.results.toList C_spec_DrawTakeMembers (c, ())) = ((((0 : Int) ≤ (0 : Int) ∧ (0 : Int) ≤ (1000000 : Int) ∧ (0 : Int) ≤ (14 : Int) ∧ (14 : Int) ≤ (100000 : Int)) ∧ (∀ (x_1 : List Objt), (∀ (x_2 : Int), 0 ≤ x_2 ∧ x_2 ≤ (0 : Int) + (5000 : Int) ∧ x_1.length ≤ 5 ∧ objsA x_1 = true →
 (0 ≤ x_2 ∧ x_2 ≤ 500000 ∧ (0 : Int) ≤ (14 : Int) ∧ (14 : Int) ≤ (100000 : Int)) ∧ (∀ (x_3 : List Member), (∀ (x_4 : Int), x_2 ≤ x_4 ∧ x_4 ≤ x_2 + 10000 ∧ x_3.length ≤ 6 ∧ mbsA x_3 = true →
 (∃ (x_5 : List Objt), (∃ (x_6 : List Member), (@Eq (List Objt) x_1 x_5 ∧ @Eq (List Member) x_3 x_6 ∧ True) ∧ x_5.length ≤ 5 ∧ objsA x_5 = true ∧ x_6.length ≤ 6 ∧ mbsA x_6 = true)))))))) := by kernel_rfl
theorem det_spec_DrawTakeMembers : C_spec_DrawTakeMembers.det = true → ∀ x, (C_spec_DrawTakeMembers.out x).Det := fun h => absurd h Bool.false_ne_true
set_option maxRecDepth 200000 in
set_option maxHeartbeats 4000000 in
theorem ok_spec_DrawTakeMembers : ConOK Try.prog 23 C_spec_DrawTakeMembers := by
  refine con_mk (wr := false) (ty := tyL tys_) (l := L_spec_DrawTakeMembers) ⟨⟨ok_spec_l20Open, det_spec_l20Open⟩, ⟨⟨ok_spec_l20Objects, det_spec_l20Objects⟩, ⟨⟨ok_spec_l20Archive, det_spec_l20Archive⟩, trivial⟩⟩⟩ Try.checked.mixed (fn := Try.f23) (body := Try.f23.body.getD .skip) Try.func23 rfl (by decide) (by kernel_rfl) rfl an_spec_DrawTakeMembers fun x ho hx => ?_
  obtain ⟨c, ⟨⟩⟩ := x
  refine Keeps.of (vc_spec_DrawTakeMembers c) ?_
  revert c ho hx
  show ∀ (c : List (Int)), _
  intro c ho hx
  dsimp only [C_spec_DrawTakeMembers, okPTL, okPT, Ok, Ty.cells, SN.cells, OkL, OkC, okI, ci, cb, cs, cl] at ho
  dsimp only [C_spec_DrawTakeMembers, vc, v1, decB, SR.pre] at hx
  (try delta i64 LN); simp only [DRt, ex_sect2]; (repeat' first | apply And.intro | (intro x hq _; replace hq := List.mem_of_getElem? hq; simp only [List.mem_cons, List.not_mem_nil, or_false] at hq) | intro _); all_goals (try omega)
  all_goals (try grind)
end Go.Proofs.Ythkefakjihafeaa
