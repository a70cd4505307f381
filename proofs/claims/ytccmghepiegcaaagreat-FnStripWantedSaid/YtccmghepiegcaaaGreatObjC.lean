/- Copies of objects: both packages keep the same contracts. -/
import Derived.Test.YtccmghepiegcaaaGreatLib
import Derived.Test.YtccmghepiegcaaaGreatObjD
set_option linter.unusedVariables false
set_option linter.unusedSimpArgs false
set_option maxRecDepth 200000
set_option maxHeartbeats 4000000
namespace Go.Proofs.YtccmghepiegcaaaGreat
open Go Go.RowKit


def C_slices_Clone_impl_Symbol_impl_Symbol : Con := { ps := [.ro (.list (.st .sym))], out := fun x => let a : List (Sym) := x.1; .req (a.length ≤ 1048576) (newL (.st .sym) a), det := true }
abbrev L_slices_Clone_impl_Symbol_impl_Symbol : List (Nat × Con) := []
def G_slices_Clone_impl_Symbol_impl_Symbol : Cfg := GK L_slices_Clone_impl_Symbol_impl_Symbol
def an_slices_Clone_impl_Symbol_impl_Symbol : PTL C_slices_Clone_impl_Symbol_impl_Symbol.ps → Nat → Option Ann := fun _ _ => none
theorem vc_slices_Clone_impl_Symbol_impl_Symbol (a : List (Sym)) : (KP Tryz.f76 G_slices_Clone_impl_Symbol_impl_Symbol C_slices_Clone_impl_Symbol_impl_Symbol an_slices_Clone_impl_Symbol_impl_Symbol (a, ())) = ((∀ (b : Bool), (b = true →
 a = ([] : List Sym)) →
 (b = true →
 ([] : List Sym) = a ∧ True) ∧ (b = false →
 ((0 + a.length) * 40 ≤ 140737488355328 ∧ 0 + a.length ≤ 1000000000000) ∧ a = a ∧ True))) := by kernel_rfl
theorem det_slices_Clone_impl_Symbol_impl_Symbol : C_slices_Clone_impl_Symbol_impl_Symbol.det = true → ∀ x, (C_slices_Clone_impl_Symbol_impl_Symbol.out x).Det := fun _ x => by simp only [C_slices_Clone_impl_Symbol_impl_Symbol]; repeat (first | exact Det.ret _ | exact Det.vc' | apply Det.req)
theorem ok_slices_Clone_impl_Symbol_impl_Symbol : ConOK Tryz.prog 76 C_slices_Clone_impl_Symbol_impl_Symbol := by
  refine con_q (l := L_slices_Clone_impl_Symbol_impl_Symbol) trivial Tryz.func76 rfl (by decide) (by kernel_rfl) rfl an_slices_Clone_impl_Symbol_impl_Symbol fun x ho hx => ?_
  obtain ⟨a, ⟨⟩⟩ := x
  refine Keeps.of (vc_slices_Clone_impl_Symbol_impl_Symbol a) ?_
  revert a ho hx
  show ∀ (a : List (Sym)), _
  intro a ho hx
  dsimp only [C_slices_Clone_impl_Symbol_impl_Symbol, okPTL, okPT, Ok, Ty.cells, SN.cells, OkL, OkC, okI, ci, cb, cs, cl] at ho
  dsimp only [C_slices_Clone_impl_Symbol_impl_Symbol, vc, v1, decB, SR.pre] at hx
  (try delta i64 LN); simp only [VBt]; (repeat' first | intro _ | apply And.intro); all_goals (try omega); all_goals grind
def C_slices_Clone_impl_Fixup_impl_Fixup : Con := { ps := [.ro (.list (.st .fixup))], out := fun x => let a : List (Fixup) := x.1; .req (a.length ≤ 1048576) (newL (.st .fixup) a), det := true }
abbrev L_slices_Clone_impl_Fixup_impl_Fixup : List (Nat × Con) := []
def G_slices_Clone_impl_Fixup_impl_Fixup : Cfg := GK L_slices_Clone_impl_Fixup_impl_Fixup
def an_slices_Clone_impl_Fixup_impl_Fixup : PTL C_slices_Clone_impl_Fixup_impl_Fixup.ps → Nat → Option Ann := fun _ _ => none
theorem vc_slices_Clone_impl_Fixup_impl_Fixup (a : List (Fixup)) : (KP Tryz.f77 G_slices_Clone_impl_Fixup_impl_Fixup C_slices_Clone_impl_Fixup_impl_Fixup an_slices_Clone_impl_Fixup_impl_Fixup (a, ())) = ((∀ (b : Bool), (b = true →
 a = ([] : List Fixup)) →
 (b = true →
 ([] : List Fixup) = a ∧ True) ∧ (b = false →
 ((0 + a.length) * 32 ≤ 140737488355328 ∧ 0 + a.length ≤ 1000000000000) ∧ a = a ∧ True))) := by kernel_rfl
theorem det_slices_Clone_impl_Fixup_impl_Fixup : C_slices_Clone_impl_Fixup_impl_Fixup.det = true → ∀ x, (C_slices_Clone_impl_Fixup_impl_Fixup.out x).Det := fun _ x => by simp only [C_slices_Clone_impl_Fixup_impl_Fixup]; repeat (first | exact Det.ret _ | exact Det.vc' | apply Det.req)
theorem ok_slices_Clone_impl_Fixup_impl_Fixup : ConOK Tryz.prog 77 C_slices_Clone_impl_Fixup_impl_Fixup := by
  refine con_q (l := L_slices_Clone_impl_Fixup_impl_Fixup) trivial Tryz.func77 rfl (by decide) (by kernel_rfl) rfl an_slices_Clone_impl_Fixup_impl_Fixup fun x ho hx => ?_
  obtain ⟨a, ⟨⟩⟩ := x
  refine Keeps.of (vc_slices_Clone_impl_Fixup_impl_Fixup a) ?_
  revert a ho hx
  show ∀ (a : List (Fixup)), _
  intro a ho hx
  dsimp only [C_slices_Clone_impl_Fixup_impl_Fixup, okPTL, okPT, Ok, Ty.cells, SN.cells, OkL, OkC, okI, ci, cb, cs, cl] at ho
  dsimp only [C_slices_Clone_impl_Fixup_impl_Fixup, vc, v1, decB, SR.pre] at hx
  (try delta i64 LN); simp only [VBt]; (repeat' first | intro _ | apply And.intro); all_goals (try omega); all_goals grind
def C_impl_copyObject : Con := { ps := [.ro (.st .obj)], out := fun x => let o : Objt := x.1; .req (szOb o ≤ 1048576) (newS .obj o), det := true }
abbrev L_impl_copyObject : List (Nat × Con) := [(76, C_slices_Clone_impl_Symbol_impl_Symbol), (66, C_slices_Clone_byte_byte), (77, C_slices_Clone_impl_Fixup_impl_Fixup)]
def G_impl_copyObject : Cfg := GK L_impl_copyObject
def an_impl_copyObject : PTL C_impl_copyObject.ps → Nat → Option Ann := fun x kk_ => let o : Objt := x.1; if kk_ = 3 then some (.all (Int) fun i => .giv (0 ≤ i ∧ i ≤ o.sects.length) (.mk [(3, aref 31), (13, ai i), (11, al (.st .sect) o.sects), (12, ai o.sects.length), (2, aref 30)] [(30, .box false [.nil, .nil]), (31, .box false [.sl 32 [], .sl 33 []]), (32, .row (some 50) (.st .sect) (o.sects.take i.toNat) true), (33, .row none (.st .sym) o.syms true)] ((o.sects.length - i.toNat)))) else none
theorem vc_impl_copyObject (o : Objt) : (KP Tryz.f44 G_impl_copyObject C_impl_copyObject an_impl_copyObject (o, ())) = (o.syms.length ≤ 1048576 ∧ (o.sects.length ≤ 9223372036854775807 →
 (∃ (a : Int), 0 = a ∧ o.sects = o.sects ∧ LN o.sects = LN o.sects ∧ ([] : List Sect) = o.sects.take a.toNat ∧ o.syms = o.syms ∧ (0 ≤ a ∧ a ≤ LN o.sects) ∧ True) ∧ (∀ (b : Int), 0 ≤ b ∧ b ≤ LN o.sects →
 (decide (b < LN o.sects) = true →
 (0 ≤ b ∧ b < LN o.sects) ∧ (∀ (c : Sect), o.sects[b.toNat]? = some c →
 Ok (Ty.st SN.sect) c →
 c.bytes.length ≤ 1048576 ∧ c.fixups.length ≤ 1048576 ∧ (((o.sects.take b.toNat).length + [c].length) * 88 ≤ 140737488355328 ∧ (o.sects.take b.toNat).length + [c].length ≤ 1000000000000) ∧ i64 (b + 1) ∧ (∃ (d : Int), b + 1 = d ∧ o.sects = o.sects ∧ LN o.sects = LN o.sects ∧ o.sects.take b.toNat ++ [c] = o.sects.take d.toNat ∧ o.syms = o.syms ∧ (0 ≤ d ∧ d ≤ LN o.sects) ∧ o.sects.length - d.toNat < o.sects.length - b.toNat))) ∧ (decide (b < LN o.sects) = false →
 o.sects.take b.toNat = o.sects ∧ o.syms = o.syms ∧ True)))) := by kernel_rfl
theorem det_impl_copyObject : C_impl_copyObject.det = true → ∀ x, (C_impl_copyObject.out x).Det := fun _ x => by simp only [C_impl_copyObject]; repeat (first | exact Det.ret _ | exact Det.vc' | apply Det.req)
theorem ok_impl_copyObject : ConOK Tryz.prog 44 C_impl_copyObject := by
  refine con_q (l := L_impl_copyObject) ⟨⟨ok_slices_Clone_impl_Symbol_impl_Symbol, det_slices_Clone_impl_Symbol_impl_Symbol⟩, ⟨⟨ok_slices_Clone_byte_byte, det_slices_Clone_byte_byte⟩, ⟨⟨ok_slices_Clone_impl_Fixup_impl_Fixup, det_slices_Clone_impl_Fixup_impl_Fixup⟩, trivial⟩⟩⟩ Tryz.func44 rfl (by decide) (by kernel_rfl) rfl an_impl_copyObject fun x ho hx => ?_
  obtain ⟨o, ⟨⟩⟩ := x
  refine Keeps.of (vc_impl_copyObject o) ?_
  revert o ho hx
  show ∀ (o : Objt), _
  intro o ho hx
  dsimp only [C_impl_copyObject, okPTL, okPT, Ok, Ty.cells, SN.cells, OkL, OkC, okI, ci, cb, cs, cl] at ho
  dsimp only [C_impl_copyObject, vc, v1, decB, SR.pre] at hx
  have f0 := sumI_nn szSe_nn o.sects
  have f1 := sumI_nn szSy_nn o.syms
  have ca := fun k x => sumI_at szSe_nn (l := o.sects) (k := k) (x := x)
  (try delta i64 LN); simp only [VBt]; (repeat' first | intro _ | apply And.intro); all_goals (try omega)
  all_goals (try first | exact take_app' (by assumption) (by assumption) | exact take_end' (by assumption) | grind [szOb, szSe])
def C_spec_l4Copy : Con := { ps := [.ro (.st .obj)], out := fun x => let o : Objt := x.1; .req (szOb o ≤ 1048576) (newS .obj o), det := true }
abbrev L_spec_l4Copy : List (Nat × Con) := []
def G_spec_l4Copy : Cfg := GK L_spec_l4Copy
def an_spec_l4Copy : PTL C_spec_l4Copy.ps → Nat → Option Ann := fun x kk_ => let o : Objt := x.1; if kk_ = 3 then some (.all (Int) fun i => .giv (0 ≤ i ∧ i ≤ o.sects.length) (.mk [(3, aref 31), (4, ai i), (2, aref 30), (1, aref 61)] [(30, .box false [.nil, .nil]), (31, .box false [.sl 32 [], .sl 33 []]), (32, .row (some 50) (.st .sect) (o.sects.take i.toNat) true), (33, .row none (.st .sym) o.syms true), (61, bx (ast .obj o))] ((o.sects.length - i.toNat)))) else none
theorem vc_spec_l4Copy (o : Objt) : (KP Tryz.f50 G_spec_l4Copy C_spec_l4Copy an_spec_l4Copy (o, ())) = (((0 + o.syms.length) * 40 ≤ 140737488355328 ∧ 0 + o.syms.length ≤ 1000000000000) ∧ (∃ (a : Int), 0 = a ∧ ([] : List Sect) = o.sects.take a.toNat ∧ o.syms = o.syms ∧ o.sects = o.sects ∧ o.syms = o.syms ∧ (0 ≤ a ∧ a ≤ LN o.sects) ∧ True) ∧ (∀ (b : Int), 0 ≤ b ∧ b ≤ LN o.sects →
 o.sects.length ≤ 9223372036854775807 →
 (decide (b < LN o.sects) = true →
 (0 ≤ b ∧ b < LN o.sects) ∧ (∀ (c : Sect), o.sects[b.toNat]? = some c →
 Ok (Ty.st SN.sect) c →
 ((0 + c.bytes.length) * 1 ≤ 140737488355328 ∧ 0 + c.bytes.length ≤ 1000000000000) ∧ ((0 + c.fixups.length) * 32 ≤ 140737488355328 ∧ 0 + c.fixups.length ≤ 1000000000000) ∧ (((o.sects.take b.toNat).length + [c].length) * 88 ≤ 140737488355328 ∧ (o.sects.take b.toNat).length + [c].length ≤ 1000000000000) ∧ i64 (b + 1) ∧ (∃ (d : Int), b + 1 = d ∧ o.sects.take b.toNat ++ [c] = o.sects.take d.toNat ∧ o.syms = o.syms ∧ o.sects = o.sects ∧ o.syms = o.syms ∧ (0 ≤ d ∧ d ≤ LN o.sects) ∧ o.sects.length - d.toNat < o.sects.length - b.toNat))) ∧ (decide (b < LN o.sects) = false →
 o.sects.take b.toNat = o.sects ∧ o.syms = o.syms ∧ True))) := by kernel_rfl
theorem det_spec_l4Copy : C_spec_l4Copy.det = true → ∀ x, (C_spec_l4Copy.out x).Det := fun _ x => by simp only [C_spec_l4Copy]; repeat (first | exact Det.ret _ | exact Det.vc' | apply Det.req)
theorem ok_spec_l4Copy : ConOK Tryz.prog 50 C_spec_l4Copy := by
  refine con_q (l := L_spec_l4Copy) trivial Tryz.func50 rfl (by decide) (by kernel_rfl) rfl an_spec_l4Copy fun x ho hx => ?_
  obtain ⟨o, ⟨⟩⟩ := x
  refine Keeps.of (vc_spec_l4Copy o) ?_
  revert o ho hx
  show ∀ (o : Objt), _
  intro o ho hx
  dsimp only [C_spec_l4Copy, okPTL, okPT, Ok, Ty.cells, SN.cells, OkL, OkC, okI, ci, cb, cs, cl] at ho
  dsimp only [C_spec_l4Copy, vc, v1, decB, SR.pre] at hx
  have f0 := sumI_nn szSe_nn o.sects
  have f1 := sumI_nn szSy_nn o.syms
  have ca := fun k x => sumI_at szSe_nn (l := o.sects) (k := k) (x := x)
  (try delta i64 LN); simp only [VBt]; (repeat' first | intro _ | apply And.intro); all_goals (try omega)
  all_goals (try first | exact take_app' (by assumption) (by assumption) | exact take_end' (by assumption) | grind [szOb, szSe])
def C_spec_l1OwnSection : Con := { ps := [.ro (.st .sect)], out := fun x => let q : Sect := x.1; .req (szSe q ≤ 1048576) (newS .sect q), det := true }
abbrev L_spec_l1OwnSection : List (Nat × Con) := []
def G_spec_l1OwnSection : Cfg := GK L_spec_l1OwnSection
def an_spec_l1OwnSection : PTL C_spec_l1OwnSection.ps → Nat → Option Ann := fun _ _ => none
theorem vc_spec_l1OwnSection (q : Sect) : (KP Tryz.f80 G_spec_l1OwnSection C_spec_l1OwnSection an_spec_l1OwnSection (q, ())) = (((0 + q.bytes.length) * 1 ≤ 140737488355328 ∧ 0 + q.bytes.length ≤ 1000000000000) ∧ ((0 + q.fixups.length) * 32 ≤ 140737488355328 ∧ 0 + q.fixups.length ≤ 1000000000000) ∧ q.name = q.name ∧ q.kind = q.kind ∧ q.align = q.align ∧ q.size = q.size ∧ q.bytes = q.bytes ∧ q.fixups = q.fixups ∧ True) := by kernel_rfl
theorem det_spec_l1OwnSection : C_spec_l1OwnSection.det = true → ∀ x, (C_spec_l1OwnSection.out x).Det := fun _ x => by simp only [C_spec_l1OwnSection]; repeat (first | exact Det.ret _ | exact Det.vc' | apply Det.req)
theorem ok_spec_l1OwnSection : ConOK Tryz.prog 80 C_spec_l1OwnSection := by
  refine con_q (l := L_spec_l1OwnSection) trivial Tryz.func80 rfl (by decide) (by kernel_rfl) rfl an_spec_l1OwnSection fun x ho hx => ?_
  obtain ⟨q, ⟨⟩⟩ := x
  refine Keeps.of (vc_spec_l1OwnSection q) ?_
  revert q ho hx
  show ∀ (q : Sect), _
  intro q ho hx
  dsimp only [C_spec_l1OwnSection, okPTL, okPT, Ok, Ty.cells, SN.cells, OkL, OkC, okI, ci, cb, cs, cl] at ho
  dsimp only [C_spec_l1OwnSection, vc, v1, decB, SR.pre] at hx
  (try delta i64 LN); simp only [VBt]; (repeat' first | intro _ | apply And.intro); all_goals (try omega); all_goals grind [szSe]
def C_spec_l1OwnSectionList : Con := { ps := [.ro (.list (.st .sect))], out := fun x => let l : List (Sect) := x.1; .req (l.length + sumI szSe l ≤ 1048576) (newL (.st .sect) l), det := true }
abbrev L_spec_l1OwnSectionList : List (Nat × Con) := [(80, C_spec_l1OwnSection)]
def G_spec_l1OwnSectionList : Cfg := GK L_spec_l1OwnSectionList
def an_spec_l1OwnSectionList : PTL C_spec_l1OwnSectionList.ps → Nat → Option Ann := fun x kk_ => let l : List (Sect) := x.1; if kk_ = 3 then some (.all (Int) fun i => .giv (0 ≤ i ∧ i ≤ l.length) (.mk [(4, ai i), (3, asl 20), (0, al (.st .sect) l)] [(20, .row (some 50) (.st .sect) (l.take i.toNat) true)] ((l.length - i.toNat)))) else none
theorem vc_spec_l1OwnSectionList (l : List (Sect)) : (KP Tryz.f49 G_spec_l1OwnSectionList C_spec_l1OwnSectionList an_spec_l1OwnSectionList (l, ())) = ((∃ (a : Int), 0 = a ∧ l = l ∧ ([] : List Sect) = l.take a.toNat ∧ (0 ≤ a ∧ a ≤ LN l) ∧ True) ∧ (∀ (b : Int), 0 ≤ b ∧ b ≤ LN l →
 l.length ≤ 9223372036854775807 →
 (decide (b < LN l) = true →
 (0 ≤ b ∧ b < LN l) ∧ (∀ (c : Sect), l[b.toNat]? = some c →
 Ok (Ty.st SN.sect) c →
 szSe c ≤ 1048576 ∧ (((l.take b.toNat).length + [c].length) * 88 ≤ 140737488355328 ∧ (l.take b.toNat).length + [c].length ≤ 1000000000000) ∧ i64 (b + 1) ∧ (∃ (d : Int), b + 1 = d ∧ l = l ∧ l.take b.toNat ++ [c] = l.take d.toNat ∧ (0 ≤ d ∧ d ≤ LN l) ∧ l.length - d.toNat < l.length - b.toNat))) ∧ (decide (b < LN l) = false →
 l.take b.toNat = l ∧ True))) := by kernel_rfl
theorem det_spec_l1OwnSectionList : C_spec_l1OwnSectionList.det = true → ∀ x, (C_spec_l1OwnSectionList.out x).Det := fun _ x => by simp only [C_spec_l1OwnSectionList]; repeat (first | exact Det.ret _ | exact Det.vc' | apply Det.req)
theorem ok_spec_l1OwnSectionList : ConOK Tryz.prog 49 C_spec_l1OwnSectionList := by
  refine con_q (l := L_spec_l1OwnSectionList) ⟨⟨ok_spec_l1OwnSection, det_spec_l1OwnSection⟩, trivial⟩ Tryz.func49 rfl (by decide) (by kernel_rfl) rfl an_spec_l1OwnSectionList fun x ho hx => ?_
  obtain ⟨l, ⟨⟩⟩ := x
  refine Keeps.of (vc_spec_l1OwnSectionList l) ?_
  revert l ho hx
  show ∀ (l : List (Sect)), _
  intro l ho hx
  dsimp only [C_spec_l1OwnSectionList, okPTL, okPT, Ok, Ty.cells, SN.cells, OkL, OkC, okI, ci, cb, cs, cl] at ho
  dsimp only [C_spec_l1OwnSectionList, vc, v1, decB, SR.pre] at hx
  have cs := sumI_nn (f := szSe) szSe_nn l
  have ca := fun k x => sumI_at szSe_nn (l := l) (k := k) (x := x)
  (try delta i64 LN); simp only [VBt]; (repeat' first | intro _ | apply And.intro); all_goals (try omega)
  all_goals (try first | exact take_app' (by assumption) (by assumption) | exact take_end' (by assumption) | grind)
def C_spec_l1OwnObject : Con := { ps := [.ro (.st .obj)], out := fun x => let o : Objt := x.1; .req (szOb o ≤ 1048576) (newS .obj o), det := true }
abbrev L_spec_l1OwnObject : List (Nat × Con) := [(49, C_spec_l1OwnSectionList)]
def G_spec_l1OwnObject : Cfg := GK L_spec_l1OwnObject
def an_spec_l1OwnObject : PTL C_spec_l1OwnObject.ps → Nat → Option Ann := fun _ _ => none
theorem vc_spec_l1OwnObject (o : Objt) : (KP Tryz.f23 G_spec_l1OwnObject C_spec_l1OwnObject an_spec_l1OwnObject (o, ())) = (LN o.sects + @sumI Sect szSe o.sects ≤ 1048576 ∧ ((0 + o.syms.length) * 40 ≤ 140737488355328 ∧ 0 + o.syms.length ≤ 1000000000000) ∧ o.sects = o.sects ∧ o.syms = o.syms ∧ True) := by kernel_rfl
theorem det_spec_l1OwnObject : C_spec_l1OwnObject.det = true → ∀ x, (C_spec_l1OwnObject.out x).Det := fun _ x => by simp only [C_spec_l1OwnObject]; repeat (first | exact Det.ret _ | exact Det.vc' | apply Det.req)
theorem ok_spec_l1OwnObject : ConOK Tryz.prog 23 C_spec_l1OwnObject := by
  refine con_q (l := L_spec_l1OwnObject) ⟨⟨ok_spec_l1OwnSectionList, det_spec_l1OwnSectionList⟩, trivial⟩ Tryz.func23 rfl (by decide) (by kernel_rfl) rfl an_spec_l1OwnObject fun x ho hx => ?_
  obtain ⟨o, ⟨⟩⟩ := x
  refine Keeps.of (vc_spec_l1OwnObject o) ?_
  revert o ho hx
  show ∀ (o : Objt), _
  intro o ho hx
  dsimp only [C_spec_l1OwnObject, okPTL, okPT, Ok, Ty.cells, SN.cells, OkL, OkC, okI, ci, cb, cs, cl] at ho
  dsimp only [C_spec_l1OwnObject, vc, v1, decB, SR.pre] at hx
  have f0 := sumI_nn szSe_nn o.sects
  have f1 := sumI_nn szSy_nn o.syms
  (try delta i64 LN); simp only [VBt]; (repeat' first | intro _ | apply And.intro); all_goals (try omega); all_goals grind [szOb]
end Go.Proofs.YtccmghepiegcaaaGreat
