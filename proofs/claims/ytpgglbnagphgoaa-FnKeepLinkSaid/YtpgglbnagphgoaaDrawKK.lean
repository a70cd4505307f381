/- The reader that the law on kept sections draws its data with. -/
import Derived.Test.YtpgglbnagphgoaaDrawLK
set_option linter.unusedVariables false
set_option linter.unusedSimpArgs false
set_option maxRecDepth 200000
set_option maxHeartbeats 4000000
namespace Go.Proofs.Ytpgglbnagphgoaa
open Go Go.RowKit


def C_spec_l20Names : Con := { ps := [.box (.ty (.st .reader)), .ro .i], out := fun x => let r : Reader := x.1; let n : Int := x.2.1; .req (0 ≤ r.p ∧ r.p ≤ 100000000 ∧ n ≤ 1000000) (.all (List ByteArray) fun l => .all Int fun p => .giv (r.p ≤ p ∧ p ≤ r.p + 30 ∧ l.length ≤ 7) (rdE 9 .str l p)), det := false }
abbrev L_spec_l20Names : List (Nat × Con) := [(63, C_spec_l20Rd_pick), (107, C_spec_l20Name)]
def G_spec_l20Names : Cfg := GK L_spec_l20Names
def an_spec_l20Names : PTL C_spec_l20Names.ps → Nat → Option Ann := fun x kk_ => let r : Reader := x.1; let n : Int := x.2.1; if kk_ = 3 then some (.all (List ByteArray) fun o => .all (Int) fun k => .all (Int) fun p => .giv (0 ≤ k ∧ k + o.length ≤ 7 ∧ r.p ≤ p ∧ p + 3 * k ≤ r.p + 23) (.mk [(5, asl 20), (6, ai k), (0, aref 0), (1, ai n)] [(0, lent (.st .reader) ⟨r.b, p⟩), (20, .row (some 9) .str o true)] (k.toNat))) else none
theorem vc_spec_l20Names (r : Reader) (n : Int) : (KP Try.f87 G_spec_l20Names C_spec_l20Names an_spec_l20Names (r, n, ())) = ((0 ≤ r.p ∧ r.p ≤ 1000000000000) ∧ (∃ (a : List ByteArray), (∃ (c : Int), (∃ (d : Int), pickF r.b r.p 8 = c ∧ n = n ∧ r.b = r.b ∧ r.p + 1 = d ∧ ([] : List ByteArray) = a ∧ (0 ≤ c ∧ c + LN a ≤ 7 ∧ r.p ≤ d ∧ d + 3 * c ≤ r.p + 23) ∧ True))) ∧ (∀ (e : List ByteArray), (∀ (f : Int), (∀ (g : Int), 0 ≤ f ∧ f + LN e ≤ 7 ∧ r.p ≤ g ∧ g + 3 * f ≤ r.p + 23 →
 (decide (0 < f) = true →
 (0 ≤ g ∧ g ≤ 1000000000 ∧ n ≤ 1000000) ∧ (∀ (h : ByteArray), (∀ (i : Int), g ≤ i ∧ i ≤ g + 3 ∧ ByteArray.size h ≤ 16 ∧ (n ≤ 0 →
 nameB h = true) →
 ((e.length + [h].length) * 16 ≤ 140737488355328 ∧ e.length + [h].length ≤ 1000000000000) ∧ i64 (f - 1) ∧ (∃ (j : List ByteArray), (∃ (k : Int), (∃ (l : Int), f - 1 = k ∧ n = n ∧ r.b = r.b ∧ i = l ∧ e ++ [h] = j ∧ (0 ≤ k ∧ k + LN j ≤ 7 ∧ r.p ≤ l ∧ l + 3 * k ≤ r.p + 23) ∧ k.toNat < f.toNat)))))) ∧ (decide (0 < f) = false →
 (∃ (m : List ByteArray), (∃ (o : Int), (e = m ∧ r.b = r.b ∧ g = o ∧ True) ∧ r.p ≤ o ∧ o ≤ r.p + 30 ∧ m.length ≤ 7))))))) := by kernel_rfl
theorem det_spec_l20Names : C_spec_l20Names.det = true → ∀ x, (C_spec_l20Names.out x).Det := fun h => absurd h Bool.false_ne_true
theorem ok_spec_l20Names : ConOK Try.prog 87 C_spec_l20Names := by
 refine con_q (l := L_spec_l20Names) ⟨⟨ok_spec_l20Rd_pick, det_spec_l20Rd_pick⟩, ⟨⟨ok_spec_l20Name, det_spec_l20Name⟩, trivial⟩⟩ Try.func87 rfl (by decide) (by kernel_rfl) rfl an_spec_l20Names fun x ho hx => ?_
 obtain ⟨r, n, ⟨⟩⟩ := x
 refine Keeps.of (vc_spec_l20Names r n) ?_
 revert r n ho hx
 show ∀ (r : Reader) (n : Int), _
 intro r n ho hx
 dsimp only [C_spec_l20Names, okPTL, okPT, Ok, Ty.cells, SN.cells, OkL, OkC, okI, ci, cb, cs, cl] at ho
 dsimp only [C_spec_l20Names, vc, v1, decB, SR.pre] at hx
 have hb := pickF_bd r.b
 (try delta i64 LN); simp only [DRt]; (repeat' first | apply And.intro | (intro x hq _; replace hq := List.mem_of_getElem? hq; simp only [List.mem_cons, List.not_mem_nil, or_false] at hq) | intro _); all_goals (try omega)
 all_goals (try grind)
def C_spec_DrawHideNames : Con := { ps := [.ro (.list .u)], out := fun x => let c : List (Int) := x.1; .all Objt fun o => .all (List ByteArray) fun l => .giv (objSm o = true ∧ l.length ≤ 7) (.ret { val := .tup [(true, (SN.cells .obj o).map .c), (false, [.c (cl .str l)])] }), det := false }
abbrev L_spec_DrawHideNames : List (Nat × Con) := [(23, C_spec_l20Open), (25, C_spec_l20Object), (87, C_spec_l20Names)]
def G_spec_DrawHideNames : Cfg := GK L_spec_DrawHideNames
def an_spec_DrawHideNames : PTL C_spec_DrawHideNames.ps → Nat → Option Ann := fun _ _ => none
theorem vc_spec_DrawHideNames (c : List (Int)) : (KP Try.f39 G_spec_DrawHideNames C_spec_DrawHideNames an_spec_DrawHideNames (c, ())) = (((0 : Int) ≤ (0 : Int) ∧ (0 : Int) ≤ (10000000 : Int) ∧ (9 : Int) ≤ (1000000 : Int)) ∧ (∀ (a : Objt), (∀ (b : Int), 0 ≤ b ∧ b ≤ (0 : Int) + (700 : Int) ∧ objSm a = true →
 (0 ≤ b ∧ b ≤ 100000000 ∧ (9 : Int) ≤ (1000000 : Int)) ∧ (∀ (d : List ByteArray), (∀ (e : Int), b ≤ e ∧ e ≤ b + 30 ∧ d.length ≤ 7 →
 (∃ (f : Objt), (∃ (g : List ByteArray), (a.sects = f.sects ∧ a.syms = f.syms ∧ d = g ∧ True) ∧ objSm f = true ∧ g.length ≤ 7))))))) := by kernel_rfl
theorem det_spec_DrawHideNames : C_spec_DrawHideNames.det = true → ∀ x, (C_spec_DrawHideNames.out x).Det := fun h => absurd h Bool.false_ne_true
theorem ok_spec_DrawHideNames : ConOK Try.prog 39 C_spec_DrawHideNames := by
 refine con_q (l := L_spec_DrawHideNames) ⟨⟨ok_spec_l20Open, det_spec_l20Open⟩, ⟨⟨ok_spec_l20Object, det_spec_l20Object⟩, ⟨⟨ok_spec_l20Names, det_spec_l20Names⟩, trivial⟩⟩⟩ Try.func39 rfl (by decide) (by kernel_rfl) rfl an_spec_DrawHideNames fun x ho hx => ?_
 obtain ⟨c, ⟨⟩⟩ := x
 refine Keeps.of (vc_spec_DrawHideNames c) ?_
 revert c ho hx
 show ∀ (c : List (Int)), _
 intro c ho hx
 dsimp only [C_spec_DrawHideNames, okPTL, okPT, Ok, Ty.cells, SN.cells, OkL, OkC, okI, ci, cb, cs, cl] at ho
 dsimp only [C_spec_DrawHideNames, vc, v1, decB, SR.pre] at hx
 (try delta i64 LN); simp only [DRt, ex_sect2]; (repeat' first | apply And.intro | (intro x hq _; replace hq := List.mem_of_getElem? hq; simp only [List.mem_cons, List.not_mem_nil, or_false] at hq) | intro _); all_goals (try omega)
 all_goals (try grind)
def C_spec_DrawReachSections : Con := { ps := [.ro (.list .u)], out := fun x => let c : List (Int) := x.1; .all Objt fun o => .all (List ByteArray) fun l => .giv (objSm o = true ∧ l.length ≤ 7) (.ret { val := .tup [(true, (SN.cells .obj o).map .c), (false, [.c (cl .str l)])] }), det := false }
abbrev L_spec_DrawReachSections : List (Nat × Con) := [(39, C_spec_DrawHideNames)]
def G_spec_DrawReachSections : Cfg := GK L_spec_DrawReachSections
def an_spec_DrawReachSections : PTL C_spec_DrawReachSections.ps → Nat → Option Ann := fun _ _ => none
theorem vc_spec_DrawReachSections (c : List (Int)) : (KP Try.f12 G_spec_DrawReachSections C_spec_DrawReachSections an_spec_DrawReachSections (c, ())) = ((∀ (a : Objt), (∀ (b : List ByteArray), objSm a = true ∧ b.length ≤ 7 →
 (∃ (d : Objt), (∃ (e : List ByteArray), (a.sects = d.sects ∧ a.syms = d.syms ∧ b = e ∧ True) ∧ objSm d = true ∧ e.length ≤ 7))))) := by kernel_rfl
theorem det_spec_DrawReachSections : C_spec_DrawReachSections.det = true → ∀ x, (C_spec_DrawReachSections.out x).Det := fun h => absurd h Bool.false_ne_true
theorem ok_spec_DrawReachSections : ConOK Try.prog 12 C_spec_DrawReachSections := by
 refine con_q (l := L_spec_DrawReachSections) ⟨⟨ok_spec_DrawHideNames, det_spec_DrawHideNames⟩, trivial⟩ Try.func12 rfl (by decide) (by kernel_rfl) rfl an_spec_DrawReachSections fun x ho hx => ?_
 obtain ⟨c, ⟨⟩⟩ := x
 refine Keeps.of (vc_spec_DrawReachSections c) ?_
 revert c ho hx
 show ∀ (c : List (Int)), _
 intro c ho hx
 dsimp only [C_spec_DrawReachSections, okPTL, okPT, Ok, Ty.cells, SN.cells, OkL, OkC, okI, ci, cb, cs, cl] at ho
 dsimp only [C_spec_DrawReachSections, vc, v1, decB, SR.pre] at hx
 (try delta i64 LN); simp only [DRt, ex_sect2]; (repeat' first | apply And.intro | (intro x hq _; replace hq := List.mem_of_getElem? hq; simp only [List.mem_cons, List.not_mem_nil, or_false] at hq) | intro _); all_goals (try omega)
 all_goals (try grind)
end Go.Proofs.Ytpgglbnagphgoaa
