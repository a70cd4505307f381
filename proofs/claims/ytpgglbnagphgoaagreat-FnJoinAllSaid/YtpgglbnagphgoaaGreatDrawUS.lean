/- The readers that the laws on strips draw their data with. -/
import Derived.Test.YtpgglbnagphgoaaGreatDrawLS
set_option linter.unusedVariables false
set_option linter.unusedSimpArgs false
set_option maxRecDepth 200000
set_option maxHeartbeats 4000000
namespace Go.Proofs.YtpgglbnagphgoaaGreat
open Go Go.RowKit


def C_spec_DrawJoinObjects : Con := { ps := [.ro (.list .u)], out := fun x => let c : List (Int) := x.1; .all Objt fun a => .all Objt fun b => .giv (objSm a = true ∧ objSm b = true) (.ret { val := .tup [(true, (SN.cells .obj a).map .c), (true, (SN.cells .obj b).map .c)] }), det := false }
abbrev L_spec_DrawJoinObjects : List (Nat × Con) := [(26, C_spec_l20Open), (27, C_spec_l20Objects), (28, C_spec_l20Object)]
def G_spec_DrawJoinObjects : Cfg := GK L_spec_DrawJoinObjects
def an_spec_DrawJoinObjects : PTL C_spec_DrawJoinObjects.ps → Nat → Option Ann := fun x kk_ => let c : List (Int) := x.1; if kk_ = 3 then some (.all (List Objt) fun l => .all (Int) fun p => .giv (l.length ≤ 5 ∧ objsA l = true ∧ 0 ≤ p ∧ p ≤ 5000 + 1000 * l.length) (.mk [(5, asl 20), (4, aref 60), (2, aref 30), (3, aref 31)] [(30, .box false [.nil, .nil]), (31, .box false [.nil, .nil]), (60, .box false [.c (cl .u (c.take 2000)), .c (ci p)]), (20, .row (some 26) (.st .obj) l true)] ((2 - l.length)))) else if kk_ = 1005 then some (.all (List Objt) fun l => .giv (l.length ≤ 5 ∧ objsA l = true ∧ 2 ≤ l.length) (.mk [(5, al (.st .obj) l), (2, aref 30), (3, aref 31)] [(30, .box false [.nil, .nil]), (31, .box false [.nil, .nil])] (0))) else none
theorem vc_spec_DrawJoinObjects (c : List (Int)) : (KP Tryz.f6 G_spec_DrawJoinObjects C_spec_DrawJoinObjects an_spec_DrawJoinObjects (c, ())) = (((0 : Int) ≤ (0 : Int) ∧ (0 : Int) ≤ (1000000 : Int) ∧ (0 : Int) ≤ (0 : Int) ∧ (0 : Int) ≤ (100000 : Int)) ∧ (∀ (a : List Objt), (∀ (b : Int), 0 ≤ b ∧ b ≤ (0 : Int) + (5000 : Int) ∧ a.length ≤ 5 ∧ objsA a = true →
 (∃ (d : List Objt), (∃ (e : Int), c.take 2000 = c.take 2000 ∧ b = e ∧ a = d ∧ (d.length ≤ 5 ∧ objsA d = true ∧ 0 ≤ e ∧ e ≤ 5000 + 1000 * LN d) ∧ True)) ∧ (∀ (f : List Objt), (∀ (g : Int), f.length ≤ 5 ∧ objsA f = true ∧ 0 ≤ g ∧ g ≤ 5000 + 1000 * LN f →
 f.length ≤ 9223372036854775807 →
 (decide (LN f < 2) = true →
 (0 ≤ g ∧ g ≤ 10000000 ∧ (9 : Int) ≤ (1000000 : Int)) ∧ (∀ (h : Objt), (∀ (i : Int), g ≤ i ∧ i ≤ g + 700 ∧ objSm h = true →
 ((f.length + [h].length) * 48 ≤ 140737488355328 ∧ f.length + [h].length ≤ 1000000000000) ∧ (∃ (j : List Objt), (∃ (k : Int), c.take 2000 = c.take 2000 ∧ i = k ∧ f ++ [h] = j ∧ (j.length ≤ 5 ∧ objsA j = true ∧ 0 ≤ k ∧ k ≤ 5000 + 1000 * LN j) ∧ 2 - j.length < 2 - f.length))))) ∧ (decide (LN f < 2) = false →
 (∃ (l : List Objt), f = l ∧ (l.length ≤ 5 ∧ objsA l = true ∧ 2 ≤ l.length) ∧ (∀ (m : List Objt), m.length ≤ 5 ∧ objsA m = true ∧ 2 ≤ m.length →
 (0 : Nat) = (0 : Nat) →
 ((0 : Int) ≤ (0 : Int) ∧ 0 < LN m) ∧ (∀ (n : Objt), m[(0 : Nat)]? = some n →
 Ok (Ty.st SN.obj) n →
 ((0 : Int) ≤ (1 : Int) ∧ 1 < LN m) ∧ (∀ (o : Objt), m[(1 : Nat)]? = some o →
 Ok (Ty.st SN.obj) o →
 (∃ (p : Objt), (∃ (q : Objt), (n.sects = p.sects ∧ n.syms = p.syms ∧ o.sects = q.sects ∧ o.syms = q.syms ∧ True) ∧ objSm p = true ∧ objSm q = true)))))))))))) := by kernel_rfl
theorem det_spec_DrawJoinObjects : C_spec_DrawJoinObjects.det = true → ∀ x, (C_spec_DrawJoinObjects.out x).Det := fun h => absurd h Bool.false_ne_true
theorem ok_spec_DrawJoinObjects : ConOK Tryz.prog 6 C_spec_DrawJoinObjects := by
 refine con_q (l := L_spec_DrawJoinObjects) ⟨⟨ok_spec_l20Open, det_spec_l20Open⟩, ⟨⟨ok_spec_l20Objects, det_spec_l20Objects⟩, ⟨⟨ok_spec_l20Object, det_spec_l20Object⟩, trivial⟩⟩⟩ Tryz.func6 rfl (by decide) (by kernel_rfl) rfl an_spec_DrawJoinObjects fun x ho hx => ?_
 obtain ⟨c, ⟨⟩⟩ := x
 refine Keeps.of (vc_spec_DrawJoinObjects c) ?_
 revert c ho hx
 show ∀ (c : List (Int)), _
 intro c ho hx
 dsimp only [C_spec_DrawJoinObjects, okPTL, okPT, Ok, Ty.cells, SN.cells, OkL, OkC, okI, ci, cb, cs, cl] at ho
 dsimp only [C_spec_DrawJoinObjects, vc, v1, decB, SR.pre] at hx
 (try delta i64 LN); simp only [DRt, ex_sect2]; (repeat' first | apply And.intro | (intro x hq _; replace hq := List.mem_of_getElem? hq; simp only [List.mem_cons, List.not_mem_nil, or_false] at hq) | intro _); all_goals (try omega)
 all_goals first | exact objsA_app (by assumption) (by assumption) | exact objsA_get (by assumption) (by assumption) | (try grind)
def C_spec_DrawJoinAll : Con := { ps := [.ro (.list .u)], out := fun x => let c : List (Int) := x.1; .all (List Objt) fun l => .giv (l.length ≤ 5 ∧ objsA l = true) (.ret { val := .one (.c (cl (.st .obj) l)) }), det := false }
abbrev L_spec_DrawJoinAll : List (Nat × Con) := [(26, C_spec_l20Open), (27, C_spec_l20Objects)]
def G_spec_DrawJoinAll : Cfg := GK L_spec_DrawJoinAll
def an_spec_DrawJoinAll : PTL C_spec_DrawJoinAll.ps → Nat → Option Ann := fun _ _ => none
theorem vc_spec_DrawJoinAll (c : List (Int)) : (KP Tryz.f16 G_spec_DrawJoinAll C_spec_DrawJoinAll an_spec_DrawJoinAll (c, ())) = (((0 : Int) ≤ (0 : Int) ∧ (0 : Int) ≤ (1000000 : Int) ∧ (0 : Int) ≤ (12 : Int) ∧ (12 : Int) ≤ (100000 : Int)) ∧ (∀ (a : List Objt), (∀ (b : Int), 0 ≤ b ∧ b ≤ (0 : Int) + (5000 : Int) ∧ a.length ≤ 5 ∧ objsA a = true →
 (∃ (d : List Objt), (a = d ∧ True) ∧ d.length ≤ 5 ∧ objsA d = true)))) := by kernel_rfl
theorem det_spec_DrawJoinAll : C_spec_DrawJoinAll.det = true → ∀ x, (C_spec_DrawJoinAll.out x).Det := fun h => absurd h Bool.false_ne_true
theorem ok_spec_DrawJoinAll : ConOK Tryz.prog 16 C_spec_DrawJoinAll := by
 refine con_q (l := L_spec_DrawJoinAll) ⟨⟨ok_spec_l20Open, det_spec_l20Open⟩, ⟨⟨ok_spec_l20Objects, det_spec_l20Objects⟩, trivial⟩⟩ Tryz.func16 rfl (by decide) (by kernel_rfl) rfl an_spec_DrawJoinAll fun x ho hx => ?_
 obtain ⟨c, ⟨⟩⟩ := x
 refine Keeps.of (vc_spec_DrawJoinAll c) ?_
 revert c ho hx
 show ∀ (c : List (Int)), _
 intro c ho hx
 dsimp only [C_spec_DrawJoinAll, okPTL, okPT, Ok, Ty.cells, SN.cells, OkL, OkC, okI, ci, cb, cs, cl] at ho
 dsimp only [C_spec_DrawJoinAll, vc, v1, decB, SR.pre] at hx
 (try delta i64 LN); simp only [DRt, ex_sect2]; (repeat' first | apply And.intro | (intro x hq _; replace hq := List.mem_of_getElem? hq; simp only [List.mem_cons, List.not_mem_nil, or_false] at hq) | intro _); all_goals (try omega)
 all_goals (try grind)
end Go.Proofs.YtpgglbnagphgoaaGreat
