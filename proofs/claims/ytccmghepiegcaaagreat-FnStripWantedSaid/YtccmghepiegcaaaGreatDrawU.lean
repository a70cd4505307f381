/- The readers that the laws on strips draw their data with. -/
import Derived.Test.YtccmghepiegcaaaGreatDrawL
set_option linter.unusedVariables false
set_option linter.unusedSimpArgs false
set_option maxRecDepth 200000
set_option maxHeartbeats 4000000
namespace Go.Proofs.YtccmghepiegcaaaGreat
open Go Go.RowKit


def C_spec_DrawStripLocals : Con := { ps := [.ro (.list .u)], out := fun x => let c : List (Int) := x.1; .all Objt fun o => .giv (objSm o = true) (newS .obj o), det := false }
abbrev L_spec_DrawStripLocals : List (Nat × Con) := [(18, C_spec_l20Open), (17, C_spec_l20Object)]
def G_spec_DrawStripLocals : Cfg := GK L_spec_DrawStripLocals
def an_spec_DrawStripLocals : PTL C_spec_DrawStripLocals.ps → Nat → Option Ann := fun _ _ => none
theorem vc_spec_DrawStripLocals (c : List (Int)) : (KP Tryz.f5 G_spec_DrawStripLocals C_spec_DrawStripLocals an_spec_DrawStripLocals (c, ())) = (((0 : Int) ≤ (0 : Int) ∧ (0 : Int) ≤ (10000000 : Int) ∧ (9 : Int) ≤ (1000000 : Int)) ∧ (∀ (a : Objt), (∀ (b : Int), 0 ≤ b ∧ b ≤ (0 : Int) + (700 : Int) ∧ objSm a = true →
 (∃ (d : Objt), (a.sects = d.sects ∧ a.syms = d.syms ∧ True) ∧ objSm d = true)))) := by kernel_rfl
theorem det_spec_DrawStripLocals : C_spec_DrawStripLocals.det = true → ∀ x, (C_spec_DrawStripLocals.out x).Det := fun h => absurd h Bool.false_ne_true
theorem ok_spec_DrawStripLocals : ConOK Tryz.prog 5 C_spec_DrawStripLocals := by
  refine con_q (l := L_spec_DrawStripLocals) ⟨⟨ok_spec_l20Open, det_spec_l20Open⟩, ⟨⟨ok_spec_l20Object, det_spec_l20Object⟩, trivial⟩⟩ Tryz.func5 rfl (by decide) (by kernel_rfl) rfl an_spec_DrawStripLocals fun x ho hx => ?_
  obtain ⟨c, ⟨⟩⟩ := x
  refine Keeps.of (vc_spec_DrawStripLocals c) ?_
  revert c ho hx
  show ∀ (c : List (Int)), _
  intro c ho hx
  dsimp only [C_spec_DrawStripLocals, okPTL, okPT, Ok, Ty.cells, SN.cells, OkL, OkC, okI, ci, cb, cs, cl] at ho
  dsimp only [C_spec_DrawStripLocals, vc, v1, decB, SR.pre] at hx
  (try delta i64 LN); simp only [DRt, ex_sect2]; (repeat' first | apply And.intro | (intro x hq _; replace hq := List.mem_of_getElem? hq; simp only [List.mem_cons, List.not_mem_nil, or_false] at hq) | intro _); all_goals (try omega)
  all_goals (try grind)
def C_spec_DrawStripWanted : Con := { ps := [.ro (.list .u)], out := fun x => let c : List (Int) := x.1; .all Objt fun o => .giv (objSm o = true) (newS .obj o), det := false }
abbrev L_spec_DrawStripWanted : List (Nat × Con) := [(18, C_spec_l20Open), (17, C_spec_l20Object)]
def G_spec_DrawStripWanted : Cfg := GK L_spec_DrawStripWanted
def an_spec_DrawStripWanted : PTL C_spec_DrawStripWanted.ps → Nat → Option Ann := fun _ _ => none
theorem vc_spec_DrawStripWanted (c : List (Int)) : (KP Tryz.f14 G_spec_DrawStripWanted C_spec_DrawStripWanted an_spec_DrawStripWanted (c, ())) = (((0 : Int) ≤ (0 : Int) ∧ (0 : Int) ≤ (10000000 : Int) ∧ (9 : Int) ≤ (1000000 : Int)) ∧ (∀ (a : Objt), (∀ (b : Int), 0 ≤ b ∧ b ≤ (0 : Int) + (700 : Int) ∧ objSm a = true →
 (∃ (d : Objt), (a.sects = d.sects ∧ a.syms = d.syms ∧ True) ∧ objSm d = true)))) := by kernel_rfl
theorem det_spec_DrawStripWanted : C_spec_DrawStripWanted.det = true → ∀ x, (C_spec_DrawStripWanted.out x).Det := fun h => absurd h Bool.false_ne_true
theorem ok_spec_DrawStripWanted : ConOK Tryz.prog 14 C_spec_DrawStripWanted := by
  refine con_q (l := L_spec_DrawStripWanted) ⟨⟨ok_spec_l20Open, det_spec_l20Open⟩, ⟨⟨ok_spec_l20Object, det_spec_l20Object⟩, trivial⟩⟩ Tryz.func14 rfl (by decide) (by kernel_rfl) rfl an_spec_DrawStripWanted fun x ho hx => ?_
  obtain ⟨c, ⟨⟩⟩ := x
  refine Keeps.of (vc_spec_DrawStripWanted c) ?_
  revert c ho hx
  show ∀ (c : List (Int)), _
  intro c ho hx
  dsimp only [C_spec_DrawStripWanted, okPTL, okPT, Ok, Ty.cells, SN.cells, OkL, OkC, okI, ci, cb, cs, cl] at ho
  dsimp only [C_spec_DrawStripWanted, vc, v1, decB, SR.pre] at hx
  (try delta i64 LN); simp only [DRt, ex_sect2]; (repeat' first | apply And.intro | (intro x hq _; replace hq := List.mem_of_getElem? hq; simp only [List.mem_cons, List.not_mem_nil, or_false] at hq) | intro _); all_goals (try omega)
  all_goals (try grind)
end Go.Proofs.YtccmghepiegcaaaGreat
