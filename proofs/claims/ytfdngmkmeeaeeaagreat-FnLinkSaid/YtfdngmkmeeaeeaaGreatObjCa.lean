/- Copies of objects: both packages keep the same contracts. -/
import Derived.Test.YtfdngmkmeeaeeaaGreatLiba
import Derived.Test.YtfdngmkmeeaeeaaGreatObjDa
set_option linter.unusedVariables false
set_option linter.unusedSimpArgs false
set_option maxRecDepth 200000
set_option maxHeartbeats 4000000
namespace Go.Proofs.YtfdngmkmeeaeeaaGreat
open Go Go.RowKit


def C_spec_l1OwnSection : Con := { ps := [.ro (.st .sect)], out := fun x => let q : Sect := x.1; .req (szSe q ≤ 1048576) (newS .sect q), det := true }
abbrev L_spec_l1OwnSection : List (Nat × Con) := []
def G_spec_l1OwnSection : Cfg := GK L_spec_l1OwnSection
def an_spec_l1OwnSection : PTL C_spec_l1OwnSection.ps → Nat → Option Ann := fun _ _ => none
theorem vc_spec_l1OwnSection (q : Sect) : (KP Tryz.f194 G_spec_l1OwnSection C_spec_l1OwnSection an_spec_l1OwnSection (q, ())) = (((0 + q.bytes.length) * 1 ≤ 140737488355328 ∧ 0 + q.bytes.length ≤ 1000000000000) ∧ ((0 + q.fixups.length) * 32 ≤ 140737488355328 ∧ 0 + q.fixups.length ≤ 1000000000000) ∧ q.name = q.name ∧ q.kind = q.kind ∧ q.align = q.align ∧ q.size = q.size ∧ q.bytes = q.bytes ∧ q.fixups = q.fixups ∧ True) := by kernel_rfl
theorem det_spec_l1OwnSection : C_spec_l1OwnSection.det = true → ∀ x, (C_spec_l1OwnSection.out x).Det := fun _ x => by simp only [C_spec_l1OwnSection]; repeat (first | exact Det.ret _ | exact Det.vc' | apply Det.req)
theorem ok_spec_l1OwnSection : ConOK Tryz.prog 194 C_spec_l1OwnSection := by
 refine con_q (l := L_spec_l1OwnSection) trivial Tryz.func194 rfl (by decide) (by kernel_rfl) rfl an_spec_l1OwnSection fun x ho hx => ?_
 obtain ⟨q, ⟨⟩⟩ := x
 refine Keeps.of (vc_spec_l1OwnSection q) ?_
 revert q ho hx
 show ∀ (q : Sect), _
 intro q ho hx
 dsimp only [C_spec_l1OwnSection, okPTL, okPT, Ok, Ty.cells, SN.cells, OkL, OkC, okI, ci, cb, cs, cl] at ho
 dsimp only [C_spec_l1OwnSection, vc, v1, decB, SR.pre] at hx
 (try delta i64 LN); simp only [VBt]; (repeat' first | intro _ | apply And.intro); all_goals (try omega); all_goals grind [szSe]
def C_spec_l1OwnSectionList : Con := { ps := [.ro (.list (.st .sect))], out := fun x => let l : List (Sect) := x.1; .req (l.length + sumI szSe l ≤ 1048576) (newL (.st .sect) l), det := true }
abbrev L_spec_l1OwnSectionList : List (Nat × Con) := [(194, C_spec_l1OwnSection)]
def G_spec_l1OwnSectionList : Cfg := GK L_spec_l1OwnSectionList
def an_spec_l1OwnSectionList : PTL C_spec_l1OwnSectionList.ps → Nat → Option Ann := fun x kk_ => let l : List (Sect) := x.1; if kk_ = 3 then some (.all (Int) fun i => .giv (0 ≤ i ∧ i ≤ l.length) (.mk [(4, ai i), (3, asl 20), (0, al (.st .sect) l)] [(20, .row (some 72) (.st .sect) (l.take i.toNat) true)] ((l.length - i.toNat)))) else none
theorem vc_spec_l1OwnSectionList (l : List (Sect)) : (KP Tryz.f163 G_spec_l1OwnSectionList C_spec_l1OwnSectionList an_spec_l1OwnSectionList (l, ())) = ((∃ (a : Int), 0 = a ∧ l = l ∧ ([] : List Sect) = l.take a.toNat ∧ (0 ≤ a ∧ a ≤ LN l) ∧ True) ∧ (∀ (b : Int), 0 ≤ b ∧ b ≤ LN l →
 l.length ≤ 9223372036854775807 →
 (decide (b < LN l) = true →
 (0 ≤ b ∧ b < LN l) ∧ (∀ (c : Sect), l[b.toNat]? = some c →
 Ok (Ty.st SN.sect) c →
 szSe c ≤ 1048576 ∧ (((l.take b.toNat).length + [c].length) * 88 ≤ 140737488355328 ∧ (l.take b.toNat).length + [c].length ≤ 1000000000000) ∧ i64 (b + 1) ∧ (∃ (d : Int), b + 1 = d ∧ l = l ∧ l.take b.toNat ++ [c] = l.take d.toNat ∧ (0 ≤ d ∧ d ≤ LN l) ∧ l.length - d.toNat < l.length - b.toNat))) ∧ (decide (b < LN l) = false →
 l.take b.toNat = l ∧ True))) := by kernel_rfl
theorem det_spec_l1OwnSectionList : C_spec_l1OwnSectionList.det = true → ∀ x, (C_spec_l1OwnSectionList.out x).Det := fun _ x => by simp only [C_spec_l1OwnSectionList]; repeat (first | exact Det.ret _ | exact Det.vc' | apply Det.req)
theorem ok_spec_l1OwnSectionList : ConOK Tryz.prog 163 C_spec_l1OwnSectionList := by
 refine con_q (l := L_spec_l1OwnSectionList) ⟨⟨ok_spec_l1OwnSection, det_spec_l1OwnSection⟩, trivial⟩ Tryz.func163 rfl (by decide) (by kernel_rfl) rfl an_spec_l1OwnSectionList fun x ho hx => ?_
 obtain ⟨l, ⟨⟩⟩ := x
 refine Keeps.of (vc_spec_l1OwnSectionList l) ?_
 revert l ho hx
 show ∀ (l : List (Sect)), _
 intro l ho hx
 dsimp only [C_spec_l1OwnSectionList, okPTL, okPT, Ok, Ty.cells, SN.cells, OkL, OkC, okI, ci, cb, cs, cl] at ho
 dsimp only [C_spec_l1OwnSectionList, vc, v1, decB, SR.pre] at hx
 have cs := sumI_nn (f := szSe) szSe_nn l
 have ca := fun k x => sumI_at szSe_nn (l := l) (k := k) (x := x)
 (try delta i64 LN); simp only [VBt]; (repeat' first | intro _ | apply And.intro); all_goals (try omega)
 all_goals (try first | exact take_app' (by assumption) (by assumption) | exact take_end' (by assumption) | grind)
def C_spec_l1OwnObject : Con := { ps := [.ro (.st .obj)], out := fun x => let o : Objt := x.1; .req (szOb o ≤ 1048576) (newS .obj o), det := true }
abbrev L_spec_l1OwnObject : List (Nat × Con) := [(163, C_spec_l1OwnSectionList)]
def G_spec_l1OwnObject : Cfg := GK L_spec_l1OwnObject
def an_spec_l1OwnObject : PTL C_spec_l1OwnObject.ps → Nat → Option Ann := fun _ _ => none
theorem vc_spec_l1OwnObject (o : Objt) : (KP Tryz.f96 G_spec_l1OwnObject C_spec_l1OwnObject an_spec_l1OwnObject (o, ())) = (LN o.sects + @sumI Sect szSe o.sects ≤ 1048576 ∧ ((0 + o.syms.length) * 40 ≤ 140737488355328 ∧ 0 + o.syms.length ≤ 1000000000000) ∧ o.sects = o.sects ∧ o.syms = o.syms ∧ True) := by kernel_rfl
theorem det_spec_l1OwnObject : C_spec_l1OwnObject.det = true → ∀ x, (C_spec_l1OwnObject.out x).Det := fun _ x => by simp only [C_spec_l1OwnObject]; repeat (first | exact Det.ret _ | exact Det.vc' | apply Det.req)
theorem ok_spec_l1OwnObject : ConOK Tryz.prog 96 C_spec_l1OwnObject := by
 refine con_q (l := L_spec_l1OwnObject) ⟨⟨ok_spec_l1OwnSectionList, det_spec_l1OwnSectionList⟩, trivial⟩ Tryz.func96 rfl (by decide) (by kernel_rfl) rfl an_spec_l1OwnObject fun x ho hx => ?_
 obtain ⟨o, ⟨⟩⟩ := x
 refine Keeps.of (vc_spec_l1OwnObject o) ?_
 revert o ho hx
 show ∀ (o : Objt), _
 intro o ho hx
 dsimp only [C_spec_l1OwnObject, okPTL, okPT, Ok, Ty.cells, SN.cells, OkL, OkC, okI, ci, cb, cs, cl] at ho
 dsimp only [C_spec_l1OwnObject, vc, v1, decB, SR.pre] at hx
 have f0 := sumI_nn szSe_nn o.sects
 have f1 := sumI_nn szSy_nn o.syms
 (try delta i64 LN); simp only [VBt]; (repeat' first | intro _ | apply And.intro); all_goals (try omega); all_goals grind [szOb]
def C_spec_l1OwnObjectList : Con := { ps := [.ro (.list (.st .obj))], out := fun x => let l : List (Objt) := x.1; .req (l.length + sumI szOb l ≤ 1048576) (newL (.st .obj) l), det := true }
abbrev L_spec_l1OwnObjectList : List (Nat × Con) := [(96, C_spec_l1OwnObject)]
def G_spec_l1OwnObjectList : Cfg := GK L_spec_l1OwnObjectList
def an_spec_l1OwnObjectList : PTL C_spec_l1OwnObjectList.ps → Nat → Option Ann := fun x kk_ => let l : List (Objt) := x.1; if kk_ = 3 then some (.all (Int) fun i => .giv (0 ≤ i ∧ i ≤ l.length) (.mk [(4, ai i), (3, asl 20), (0, al (.st .obj) l)] [(20, .row (some 54) (.st .obj) (l.take i.toNat) true)] ((l.length - i.toNat)))) else none
theorem vc_spec_l1OwnObjectList (l : List (Objt)) : (KP Tryz.f58 G_spec_l1OwnObjectList C_spec_l1OwnObjectList an_spec_l1OwnObjectList (l, ())) = ((∃ (a : Int), 0 = a ∧ l = l ∧ ([] : List Objt) = l.take a.toNat ∧ (0 ≤ a ∧ a ≤ LN l) ∧ True) ∧ (∀ (b : Int), 0 ≤ b ∧ b ≤ LN l →
 l.length ≤ 9223372036854775807 →
 (decide (b < LN l) = true →
 (0 ≤ b ∧ b < LN l) ∧ (∀ (c : Objt), l[b.toNat]? = some c →
 Ok (Ty.st SN.obj) c →
 szOb c ≤ 1048576 ∧ (((l.take b.toNat).length + [c].length) * 48 ≤ 140737488355328 ∧ (l.take b.toNat).length + [c].length ≤ 1000000000000) ∧ i64 (b + 1) ∧ (∃ (d : Int), b + 1 = d ∧ l = l ∧ l.take b.toNat ++ [c] = l.take d.toNat ∧ (0 ≤ d ∧ d ≤ LN l) ∧ l.length - d.toNat < l.length - b.toNat))) ∧ (decide (b < LN l) = false →
 l.take b.toNat = l ∧ True))) := by kernel_rfl
theorem det_spec_l1OwnObjectList : C_spec_l1OwnObjectList.det = true → ∀ x, (C_spec_l1OwnObjectList.out x).Det := fun _ x => by simp only [C_spec_l1OwnObjectList]; repeat (first | exact Det.ret _ | exact Det.vc' | apply Det.req)
theorem ok_spec_l1OwnObjectList : ConOK Tryz.prog 58 C_spec_l1OwnObjectList := by
 refine con_q (l := L_spec_l1OwnObjectList) ⟨⟨ok_spec_l1OwnObject, det_spec_l1OwnObject⟩, trivial⟩ Tryz.func58 rfl (by decide) (by kernel_rfl) rfl an_spec_l1OwnObjectList fun x ho hx => ?_
 obtain ⟨l, ⟨⟩⟩ := x
 refine Keeps.of (vc_spec_l1OwnObjectList l) ?_
 revert l ho hx
 show ∀ (l : List (Objt)), _
 intro l ho hx
 dsimp only [C_spec_l1OwnObjectList, okPTL, okPT, Ok, Ty.cells, SN.cells, OkL, OkC, okI, ci, cb, cs, cl] at ho
 dsimp only [C_spec_l1OwnObjectList, vc, v1, decB, SR.pre] at hx
 have cs := sumI_nn (f := szOb) szOb_nn l
 have ca := fun k x => sumI_at szOb_nn (l := l) (k := k) (x := x)
 (try delta i64 LN); simp only [VBt]; (repeat' first | intro _ | apply And.intro); all_goals (try omega)
 all_goals (try first | exact take_app' (by assumption) (by assumption) | exact take_end' (by assumption) | grind)
def C_spec_l1OwnMember : Con := { ps := [.ro (.st .member)], out := fun x => let m : Member := x.1; .req (szMb m ≤ 1048576) (newS .member m), det := true }
abbrev L_spec_l1OwnMember : List (Nat × Con) := [(96, C_spec_l1OwnObject)]
def G_spec_l1OwnMember : Cfg := GK L_spec_l1OwnMember
def an_spec_l1OwnMember : PTL C_spec_l1OwnMember.ps → Nat → Option Ann := fun _ _ => none
theorem vc_spec_l1OwnMember (m : Member) : (KP Tryz.f144 G_spec_l1OwnMember C_spec_l1OwnMember an_spec_l1OwnMember (m, ())) = (szOb m.what ≤ 1048576 ∧ m.name = m.name ∧ m.what.sects = m.what.sects ∧ m.what.syms = m.what.syms ∧ True) := by kernel_rfl
theorem det_spec_l1OwnMember : C_spec_l1OwnMember.det = true → ∀ x, (C_spec_l1OwnMember.out x).Det := fun _ x => by simp only [C_spec_l1OwnMember]; repeat (first | exact Det.ret _ | exact Det.vc' | apply Det.req)
theorem ok_spec_l1OwnMember : ConOK Tryz.prog 144 C_spec_l1OwnMember := by
 refine con_q (l := L_spec_l1OwnMember) ⟨⟨ok_spec_l1OwnObject, det_spec_l1OwnObject⟩, trivial⟩ Tryz.func144 rfl (by decide) (by kernel_rfl) rfl an_spec_l1OwnMember fun x ho hx => ?_
 obtain ⟨m, ⟨⟩⟩ := x
 refine Keeps.of (vc_spec_l1OwnMember m) ?_
 revert m ho hx
 show ∀ (m : Member), _
 intro m ho hx
 dsimp only [C_spec_l1OwnMember, okPTL, okPT, Ok, Ty.cells, SN.cells, OkL, OkC, okI, ci, cb, cs, cl] at ho
 dsimp only [C_spec_l1OwnMember, vc, v1, decB, SR.pre] at hx
 (try delta i64 LN); simp only [VBt]; (repeat' first | intro _ | apply And.intro); all_goals (try omega); all_goals grind [szMb]
def C_spec_l1OwnMemberList : Con := { ps := [.ro (.list (.st .member))], out := fun x => let l : List (Member) := x.1; .req (l.length + sumI szMb l ≤ 1048576) (newL (.st .member) l), det := true }
abbrev L_spec_l1OwnMemberList : List (Nat × Con) := [(144, C_spec_l1OwnMember)]
def G_spec_l1OwnMemberList : Cfg := GK L_spec_l1OwnMemberList
def an_spec_l1OwnMemberList : PTL C_spec_l1OwnMemberList.ps → Nat → Option Ann := fun x kk_ => let l : List (Member) := x.1; if kk_ = 3 then some (.all (Int) fun i => .giv (0 ≤ i ∧ i ≤ l.length) (.mk [(4, ai i), (3, asl 20), (0, al (.st .member) l)] [(20, .row (some 111) (.st .member) (l.take i.toNat) true)] ((l.length - i.toNat)))) else none
theorem vc_spec_l1OwnMemberList (l : List (Member)) : (KP Tryz.f83 G_spec_l1OwnMemberList C_spec_l1OwnMemberList an_spec_l1OwnMemberList (l, ())) = ((∃ (a : Int), 0 = a ∧ l = l ∧ ([] : List Member) = l.take a.toNat ∧ (0 ≤ a ∧ a ≤ LN l) ∧ True) ∧ (∀ (b : Int), 0 ≤ b ∧ b ≤ LN l →
 l.length ≤ 9223372036854775807 →
 (decide (b < LN l) = true →
 (0 ≤ b ∧ b < LN l) ∧ (∀ (c : Member), l[b.toNat]? = some c →
 Ok (Ty.st SN.member) c →
 szMb c ≤ 1048576 ∧ (((l.take b.toNat).length + [c].length) * 64 ≤ 140737488355328 ∧ (l.take b.toNat).length + [c].length ≤ 1000000000000) ∧ i64 (b + 1) ∧ (∃ (d : Int), b + 1 = d ∧ l = l ∧ l.take b.toNat ++ [c] = l.take d.toNat ∧ (0 ≤ d ∧ d ≤ LN l) ∧ l.length - d.toNat < l.length - b.toNat))) ∧ (decide (b < LN l) = false →
 l.take b.toNat = l ∧ True))) := by kernel_rfl
theorem det_spec_l1OwnMemberList : C_spec_l1OwnMemberList.det = true → ∀ x, (C_spec_l1OwnMemberList.out x).Det := fun _ x => by simp only [C_spec_l1OwnMemberList]; repeat (first | exact Det.ret _ | exact Det.vc' | apply Det.req)
theorem ok_spec_l1OwnMemberList : ConOK Tryz.prog 83 C_spec_l1OwnMemberList := by
 refine con_q (l := L_spec_l1OwnMemberList) ⟨⟨ok_spec_l1OwnMember, det_spec_l1OwnMember⟩, trivial⟩ Tryz.func83 rfl (by decide) (by kernel_rfl) rfl an_spec_l1OwnMemberList fun x ho hx => ?_
 obtain ⟨l, ⟨⟩⟩ := x
 refine Keeps.of (vc_spec_l1OwnMemberList l) ?_
 revert l ho hx
 show ∀ (l : List (Member)), _
 intro l ho hx
 dsimp only [C_spec_l1OwnMemberList, okPTL, okPT, Ok, Ty.cells, SN.cells, OkL, OkC, okI, ci, cb, cs, cl] at ho
 dsimp only [C_spec_l1OwnMemberList, vc, v1, decB, SR.pre] at hx
 have cs := sumI_nn (f := szMb) szMb_nn l
 have ca := fun k x => sumI_at szMb_nn (l := l) (k := k) (x := x)
 (try delta i64 LN); simp only [VBt]; (repeat' first | intro _ | apply And.intro); all_goals (try omega)
 all_goals (try first | exact take_app' (by assumption) (by assumption) | exact take_end' (by assumption) | grind)
end Go.Proofs.YtfdngmkmeeaeeaaGreat
