/- The readers that the laws on names draw their data with. -/
import Derived.Test.YthkefakjihafeaaDrawL
set_option linter.unusedVariables false
set_option linter.unusedSimpArgs false
set_option maxRecDepth 200000
set_option maxHeartbeats 4000000
namespace Go.Proofs.Ythkefakjihafeaa
open Go Go.RowKit


def C_spec_DrawNamesGiven : Con := { ps := [.ro (.list .u)], out := fun x => let c : List (Int) := x.1; .all Objt fun o => .giv (objSm o = true) (newS .obj o), det := false }
abbrev L_spec_DrawNamesGiven : List (Nat × Con) := [(35, C_spec_l20Open), (34, C_spec_l20Object)]
def G_spec_DrawNamesGiven : Cfg := GK L_spec_DrawNamesGiven
def an_spec_DrawNamesGiven : PTL C_spec_DrawNamesGiven.ps → Nat → Option Ann := fun _ _ => none
theorem vc_spec_DrawNamesGiven (c : List (Int)) : (KP Try.f10 G_spec_DrawNamesGiven C_spec_DrawNamesGiven an_spec_DrawNamesGiven (c, ())) = (((0 : Int) ≤ (0 : Int) ∧ (0 : Int) ≤ (10000000 : Int) ∧ (9 : Int) ≤ (1000000 : Int)) ∧ (∀ (a : Objt), (∀ (b : Int), 0 ≤ b ∧ b ≤ (0 : Int) + (700 : Int) ∧ objSm a = true →
 (∃ (d : Objt), (a.sects = d.sects ∧ a.syms = d.syms ∧ True) ∧ objSm d = true)))) := by kernel_rfl
theorem det_spec_DrawNamesGiven : C_spec_DrawNamesGiven.det = true → ∀ x, (C_spec_DrawNamesGiven.out x).Det := fun h => absurd h Bool.false_ne_true
theorem ok_spec_DrawNamesGiven : ConOK Try.prog 10 C_spec_DrawNamesGiven := by
  refine con_q (l := L_spec_DrawNamesGiven) ⟨⟨ok_spec_l20Open, det_spec_l20Open⟩, ⟨⟨ok_spec_l20Object, det_spec_l20Object⟩, trivial⟩⟩ Try.func10 rfl (by decide) (by kernel_rfl) rfl an_spec_DrawNamesGiven fun x ho hx => ?_
  obtain ⟨c, ⟨⟩⟩ := x
  refine Keeps.of (vc_spec_DrawNamesGiven c) ?_
  revert c ho hx
  show ∀ (c : List (Int)), _
  intro c ho hx
  dsimp only [C_spec_DrawNamesGiven, okPTL, okPT, Ok, Ty.cells, SN.cells, OkL, OkC, okI, ci, cb, cs, cl] at ho
  dsimp only [C_spec_DrawNamesGiven, vc, v1, decB, SR.pre] at hx
  (try delta i64 LN); simp only [DRt, ex_sect2]; (repeat' first | apply And.intro | (intro x hq _; replace hq := List.mem_of_getElem? hq; simp only [List.mem_cons, List.not_mem_nil, or_false] at hq) | intro _); all_goals (try omega)
  all_goals (try grind)
def C_spec_DrawNamesTwice : Con := { ps := [.ro (.list .u)], out := fun x => let c : List (Int) := x.1; .all (List Objt) fun l => .giv (l.length ≤ 5 ∧ objsA l = true) (.ret { val := .one (.c (cl (.st .obj) l)) }), det := false }
abbrev L_spec_DrawNamesTwice : List (Nat × Con) := [(35, C_spec_l20Open), (44, C_spec_l20Objects)]
def G_spec_DrawNamesTwice : Cfg := GK L_spec_DrawNamesTwice
def an_spec_DrawNamesTwice : PTL C_spec_DrawNamesTwice.ps → Nat → Option Ann := fun _ _ => none
theorem vc_spec_DrawNamesTwice (c : List (Int)) : (KP Try.f16 G_spec_DrawNamesTwice C_spec_DrawNamesTwice an_spec_DrawNamesTwice (c, ())) = (((0 : Int) ≤ (0 : Int) ∧ (0 : Int) ≤ (1000000 : Int) ∧ (0 : Int) ≤ (9 : Int) ∧ (9 : Int) ≤ (100000 : Int)) ∧ (∀ (a : List Objt), (∀ (b : Int), 0 ≤ b ∧ b ≤ (0 : Int) + (5000 : Int) ∧ a.length ≤ 5 ∧ objsA a = true →
 (∃ (d : List Objt), (a = d ∧ True) ∧ d.length ≤ 5 ∧ objsA d = true)))) := by kernel_rfl
theorem det_spec_DrawNamesTwice : C_spec_DrawNamesTwice.det = true → ∀ x, (C_spec_DrawNamesTwice.out x).Det := fun h => absurd h Bool.false_ne_true
theorem ok_spec_DrawNamesTwice : ConOK Try.prog 16 C_spec_DrawNamesTwice := by
  refine con_q (l := L_spec_DrawNamesTwice) ⟨⟨ok_spec_l20Open, det_spec_l20Open⟩, ⟨⟨ok_spec_l20Objects, det_spec_l20Objects⟩, trivial⟩⟩ Try.func16 rfl (by decide) (by kernel_rfl) rfl an_spec_DrawNamesTwice fun x ho hx => ?_
  obtain ⟨c, ⟨⟩⟩ := x
  refine Keeps.of (vc_spec_DrawNamesTwice c) ?_
  revert c ho hx
  show ∀ (c : List (Int)), _
  intro c ho hx
  dsimp only [C_spec_DrawNamesTwice, okPTL, okPT, Ok, Ty.cells, SN.cells, OkL, OkC, okI, ci, cb, cs, cl] at ho
  dsimp only [C_spec_DrawNamesTwice, vc, v1, decB, SR.pre] at hx
  (try delta i64 LN); simp only [DRt, ex_sect2]; (repeat' first | apply And.intro | (intro x hq _; replace hq := List.mem_of_getElem? hq; simp only [List.mem_cons, List.not_mem_nil, or_false] at hq) | intro _); all_goals (try omega)
  all_goals (try grind)
def C_spec_DrawNamesMissing : Con := { ps := [.ro (.list .u)], out := fun x => let c : List (Int) := x.1; .all (List Objt) fun l => .giv (l.length ≤ 5 ∧ objsA l = true) (.ret { val := .one (.c (cl (.st .obj) l)) }), det := false }
abbrev L_spec_DrawNamesMissing : List (Nat × Con) := [(35, C_spec_l20Open), (44, C_spec_l20Objects)]
def G_spec_DrawNamesMissing : Cfg := GK L_spec_DrawNamesMissing
def an_spec_DrawNamesMissing : PTL C_spec_DrawNamesMissing.ps → Nat → Option Ann := fun _ _ => none
theorem vc_spec_DrawNamesMissing (c : List (Int)) : (KP Try.f19 G_spec_DrawNamesMissing C_spec_DrawNamesMissing an_spec_DrawNamesMissing (c, ())) = (((0 : Int) ≤ (0 : Int) ∧ (0 : Int) ≤ (1000000 : Int) ∧ (0 : Int) ≤ (9 : Int) ∧ (9 : Int) ≤ (100000 : Int)) ∧ (∀ (a : List Objt), (∀ (b : Int), 0 ≤ b ∧ b ≤ (0 : Int) + (5000 : Int) ∧ a.length ≤ 5 ∧ objsA a = true →
 (∃ (d : List Objt), (a = d ∧ True) ∧ d.length ≤ 5 ∧ objsA d = true)))) := by kernel_rfl
theorem det_spec_DrawNamesMissing : C_spec_DrawNamesMissing.det = true → ∀ x, (C_spec_DrawNamesMissing.out x).Det := fun h => absurd h Bool.false_ne_true
theorem ok_spec_DrawNamesMissing : ConOK Try.prog 19 C_spec_DrawNamesMissing := by
  refine con_q (l := L_spec_DrawNamesMissing) ⟨⟨ok_spec_l20Open, det_spec_l20Open⟩, ⟨⟨ok_spec_l20Objects, det_spec_l20Objects⟩, trivial⟩⟩ Try.func19 rfl (by decide) (by kernel_rfl) rfl an_spec_DrawNamesMissing fun x ho hx => ?_
  obtain ⟨c, ⟨⟩⟩ := x
  refine Keeps.of (vc_spec_DrawNamesMissing c) ?_
  revert c ho hx
  show ∀ (c : List (Int)), _
  intro c ho hx
  dsimp only [C_spec_DrawNamesMissing, okPTL, okPT, Ok, Ty.cells, SN.cells, OkL, OkC, okI, ci, cb, cs, cl] at ho
  dsimp only [C_spec_DrawNamesMissing, vc, v1, decB, SR.pre] at hx
  (try delta i64 LN); simp only [DRt, ex_sect2]; (repeat' first | apply And.intro | (intro x hq _; replace hq := List.mem_of_getElem? hq; simp only [List.mem_cons, List.not_mem_nil, or_false] at hq) | intro _); all_goals (try omega)
  all_goals (try grind)
def C_spec_DrawTakeMembers : Con := { ps := [.ro (.list .u)], out := fun x => let c : List (Int) := x.1; .all (List Objt) fun l => .all (List Member) fun m => .giv (l.length ≤ 5 ∧ objsA l = true ∧ m.length ≤ 6 ∧ mbsA m = true) (.ret { val := .tup [(false, [.c (cl (.st .obj) l)]), (false, [.c (cl (.st .member) m)])] }), det := false }
abbrev L_spec_DrawTakeMembers : List (Nat × Con) := [(35, C_spec_l20Open), (44, C_spec_l20Objects), (50, C_spec_l20Archive)]
def G_spec_DrawTakeMembers : Cfg := GK L_spec_DrawTakeMembers
def an_spec_DrawTakeMembers : PTL C_spec_DrawTakeMembers.ps → Nat → Option Ann := fun _ _ => none
theorem vc_spec_DrawTakeMembers (c : List (Int)) : (KP Try.f23 G_spec_DrawTakeMembers C_spec_DrawTakeMembers an_spec_DrawTakeMembers (c, ())) = (((0 : Int) ≤ (0 : Int) ∧ (0 : Int) ≤ (1000000 : Int) ∧ (0 : Int) ≤ (14 : Int) ∧ (14 : Int) ≤ (100000 : Int)) ∧ (∀ (a : List Objt), (∀ (b : Int), 0 ≤ b ∧ b ≤ (0 : Int) + (5000 : Int) ∧ a.length ≤ 5 ∧ objsA a = true →
 (0 ≤ b ∧ b ≤ 500000 ∧ (0 : Int) ≤ (14 : Int) ∧ (14 : Int) ≤ (100000 : Int)) ∧ (∀ (d : List Member), (∀ (e : Int), b ≤ e ∧ e ≤ b + 10000 ∧ d.length ≤ 6 ∧ mbsA d = true →
 (∃ (f : List Objt), (∃ (g : List Member), (a = f ∧ d = g ∧ True) ∧ f.length ≤ 5 ∧ objsA f = true ∧ g.length ≤ 6 ∧ mbsA g = true))))))) := by kernel_rfl
theorem det_spec_DrawTakeMembers : C_spec_DrawTakeMembers.det = true → ∀ x, (C_spec_DrawTakeMembers.out x).Det := fun h => absurd h Bool.false_ne_true
theorem ok_spec_DrawTakeMembers : ConOK Try.prog 23 C_spec_DrawTakeMembers := by
  refine con_q (l := L_spec_DrawTakeMembers) ⟨⟨ok_spec_l20Open, det_spec_l20Open⟩, ⟨⟨ok_spec_l20Objects, det_spec_l20Objects⟩, ⟨⟨ok_spec_l20Archive, det_spec_l20Archive⟩, trivial⟩⟩⟩ Try.func23 rfl (by decide) (by kernel_rfl) rfl an_spec_DrawTakeMembers fun x ho hx => ?_
  obtain ⟨c, ⟨⟩⟩ := x
  refine Keeps.of (vc_spec_DrawTakeMembers c) ?_
  revert c ho hx
  show ∀ (c : List (Int)), _
  intro c ho hx
  dsimp only [C_spec_DrawTakeMembers, okPTL, okPT, Ok, Ty.cells, SN.cells, OkL, OkC, okI, ci, cb, cs, cl] at ho
  dsimp only [C_spec_DrawTakeMembers, vc, v1, decB, SR.pre] at hx
  (try delta i64 LN); simp only [DRt, ex_sect2]; (repeat' first | apply And.intro | (intro x hq _; replace hq := List.mem_of_getElem? hq; simp only [List.mem_cons, List.not_mem_nil, or_false] at hq) | intro _); all_goals (try omega)
  all_goals (try grind)
end Go.Proofs.Ythkefakjihafeaa
