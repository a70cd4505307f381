/- The readers that the laws on objects draw their data with. -/
import Derived.Test.YtfdngmkmeeaeeaaGreatDrawOw
set_option linter.unusedVariables false
set_option linter.unusedSimpArgs false
set_option maxRecDepth 200000
set_option maxHeartbeats 4000000
namespace Go.Proofs.YtfdngmkmeeaeeaaGreat
open Go Go.RowKit


theorem sumI_bd {α : Type} {f : α → Int} {p : α → Bool} {c : Int} (hc : 0 ≤ c) (hp : ∀ x, p x = true → f x ≤ c) : ∀ {l : List α}, l.all p = true → sumI f l ≤ c * l.length := by
 intro l
 induction l with
 | nil => intro _; simp [sumI]
 | cons x l ih =>
  intro h
  simp only [List.all_cons, Bool.and_eq_true] at h
  have h1 := hp x h.1
  have h2 := ih h.2
  simp only [sumI, List.length_cons, Int.natCast_add, Int.mul_add]
  simp
  omega
theorem objSm_sz {o : Objt} (h : objSm o = true) : szOb o ≤ 2000 := by
 have h1 := objSm_iff.1 h
 have h2 := sumI_bd (f := szSe) (p := secSm) (c := 100) (by omega) (fun s hs => by have := secSm_iff.1 hs; unfold szSe; omega) h1.2.1
 have h3 := sumI_bd (f := szSy) (p := symSm) (c := 16) (by omega) (fun s hs => by have := symSm_iff.1 hs; unfold szSy; omega) h1.2.2
 unfold szOb
 omega
theorem objsA_sz {l : List Objt} (h : objsA l = true) (hl : l.length ≤ 20) : l.length + sumI szOb l ≤ 100000 := by
 have h2 := sumI_bd (f := szOb) (p := objSm) (c := 2000) (by omega) (fun o ho => objSm_sz ho) h
 omega
def C_spec_DrawPlaceSections : Con := { ps := [.ro (.list .u)], out := fun x => let c : List (Int) := x.1; .all (List Objt) fun l => .all Int fun b => .giv (l.length ≤ 5 ∧ objsA l = true ∧ -8 ≤ b ∧ b ≤ 4104) (.ret { val := .tup [(false, [.c (cl (.st .obj) l)]), (false, [.c (ci b)])] }), det := false }
abbrev L_spec_DrawPlaceSections : List (Nat × Con) := [(91, C_spec_l20Open), (111, C_spec_l20Objects), (113, C_spec_l20Base)]
def G_spec_DrawPlaceSections : Cfg := GK L_spec_DrawPlaceSections
def an_spec_DrawPlaceSections : PTL C_spec_DrawPlaceSections.ps → Nat → Option Ann := fun _ _ => none
theorem vc_spec_DrawPlaceSections (c : List (Int)) : (KP Tryz.f107 G_spec_DrawPlaceSections C_spec_DrawPlaceSections an_spec_DrawPlaceSections (c, ())) = (((0 : Int) ≤ (0 : Int) ∧ (0 : Int) ≤ (1000000 : Int) ∧ (0 : Int) ≤ (9 : Int) ∧ (9 : Int) ≤ (100000 : Int)) ∧ (∀ (a : List Objt), (∀ (b : Int), 0 ≤ b ∧ b ≤ (0 : Int) + (5000 : Int) ∧ a.length ≤ 5 ∧ objsA a = true →
 (0 ≤ b ∧ b ≤ 100000000 ∧ (9 : Int) ≤ (1000000 : Int)) ∧ (∀ (d : Int), (∀ (e : Int), b ≤ e ∧ e ≤ b + 5 ∧ (- (8 : Int)) ≤ d ∧ d ≤ 4104 →
 (∃ (f : List Objt), (∃ (g : Int), (a = f ∧ d = g ∧ True) ∧ f.length ≤ 5 ∧ objsA f = true ∧ (- (8 : Int)) ≤ g ∧ g ≤ 4104))))))) := by kernel_rfl
theorem det_spec_DrawPlaceSections : C_spec_DrawPlaceSections.det = true → ∀ x, (C_spec_DrawPlaceSections.out x).Det := fun h => absurd h Bool.false_ne_true
theorem ok_spec_DrawPlaceSections : ConOK Tryz.prog 107 C_spec_DrawPlaceSections := by
 refine con_q (l := L_spec_DrawPlaceSections) ⟨⟨ok_spec_l20Open, det_spec_l20Open⟩, ⟨⟨ok_spec_l20Objects, det_spec_l20Objects⟩, ⟨⟨ok_spec_l20Base, det_spec_l20Base⟩, trivial⟩⟩⟩ Tryz.func107 rfl (by decide) (by kernel_rfl) rfl an_spec_DrawPlaceSections fun x ho hx => ?_
 obtain ⟨c, ⟨⟩⟩ := x
 refine Keeps.of (vc_spec_DrawPlaceSections c) ?_
 revert c ho hx
 show ∀ (c : List (Int)), _
 intro c ho hx
 dsimp only [C_spec_DrawPlaceSections, okPTL, okPT, Ok, Ty.cells, SN.cells, OkL, OkC, okI, ci, cb, cs, cl] at ho
 dsimp only [C_spec_DrawPlaceSections, vc, v1, decB, SR.pre] at hx
 (try delta i64 LN); simp only [DRt, ex_sect2]; (repeat' first | apply And.intro | (intro x hq _; replace hq := List.mem_of_getElem? hq; simp only [List.mem_cons, List.not_mem_nil, or_false] at hq) | intro _); all_goals (try omega)
 all_goals (try grind)
def C_spec_DrawLink : Con := { ps := [.ro (.list .u)], out := fun x => let c : List (Int) := x.1; .all (List Objt) fun l => .all Int fun b => .giv (l.length ≤ 5 ∧ objsA l = true ∧ -8 ≤ b ∧ b ≤ 4104) (.ret { val := .tup [(false, [.c (cl (.st .obj) l)]), (false, [.c (ci b)])] }), det := false }
abbrev L_spec_DrawLink : List (Nat × Con) := [(107, C_spec_DrawPlaceSections)]
def G_spec_DrawLink : Cfg := GK L_spec_DrawLink
def an_spec_DrawLink : PTL C_spec_DrawLink.ps → Nat → Option Ann := fun _ _ => none
theorem vc_spec_DrawLink (c : List (Int)) : (KP Tryz.f43 G_spec_DrawLink C_spec_DrawLink an_spec_DrawLink (c, ())) = ((∀ (a : List Objt), (∀ (b : Int), a.length ≤ 5 ∧ objsA a = true ∧ (- (8 : Int)) ≤ b ∧ b ≤ 4104 →
 (∃ (d : List Objt), (∃ (e : Int), (a = d ∧ b = e ∧ True) ∧ d.length ≤ 5 ∧ objsA d = true ∧ (- (8 : Int)) ≤ e ∧ e ≤ 4104))))) := by kernel_rfl
theorem det_spec_DrawLink : C_spec_DrawLink.det = true → ∀ x, (C_spec_DrawLink.out x).Det := fun h => absurd h Bool.false_ne_true
theorem ok_spec_DrawLink : ConOK Tryz.prog 43 C_spec_DrawLink := by
 refine con_q (l := L_spec_DrawLink) ⟨⟨ok_spec_DrawPlaceSections, det_spec_DrawPlaceSections⟩, trivial⟩ Tryz.func43 rfl (by decide) (by kernel_rfl) rfl an_spec_DrawLink fun x ho hx => ?_
 obtain ⟨c, ⟨⟩⟩ := x
 refine Keeps.of (vc_spec_DrawLink c) ?_
 revert c ho hx
 show ∀ (c : List (Int)), _
 intro c ho hx
 dsimp only [C_spec_DrawLink, okPTL, okPT, Ok, Ty.cells, SN.cells, OkL, OkC, okI, ci, cb, cs, cl] at ho
 dsimp only [C_spec_DrawLink, vc, v1, decB, SR.pre] at hx
 (try delta i64 LN); simp only [DRt, ex_sect2]; (repeat' first | apply And.intro | (intro x hq _; replace hq := List.mem_of_getElem? hq; simp only [List.mem_cons, List.not_mem_nil, or_false] at hq) | intro _); all_goals (try omega)
 all_goals (try grind)
end Go.Proofs.YtfdngmkmeeaeeaaGreat
