/- Copies of objects: both packages keep the same contracts. -/
import Derived.Test.YtpgglbnagphgoaaGreatLibQ
import Derived.Test.YtpgglbnagphgoaaGreatObjDQ
set_option linter.unusedVariables false
set_option linter.unusedSimpArgs false
set_option maxRecDepth 200000
set_option maxHeartbeats 4000000
namespace Go.Proofs.YtpgglbnagphgoaaGreat
open Go Go.RowKit


def C_slices_Clone_impl_Symbol_impl_Symbol : Con := { ps := [.ro (.list (.st .sym))], out := fun x => let a : List (Sym) := x.1; .req (a.length ≤ 1048576) (newL (.st .sym) a), det := true }
abbrev L_slices_Clone_impl_Symbol_impl_Symbol : List (Nat × Con) := []
def G_slices_Clone_impl_Symbol_impl_Symbol : Cfg := GK L_slices_Clone_impl_Symbol_impl_Symbol
def an_slices_Clone_impl_Symbol_impl_Symbol : PTL C_slices_Clone_impl_Symbol_impl_Symbol.ps → Nat → Option Ann := fun _ _ => none
theorem vc_slices_Clone_impl_Symbol_impl_Symbol (a : List (Sym)) : (KP Tryz.f68 G_slices_Clone_impl_Symbol_impl_Symbol C_slices_Clone_impl_Symbol_impl_Symbol an_slices_Clone_impl_Symbol_impl_Symbol (a, ())) = ((∀ (b : Bool), (b = true →
 a = ([] : List Sym)) →
 (b = true →
 ([] : List Sym) = a ∧ True) ∧ (b = false →
 ((0 + a.length) * 40 ≤ 140737488355328 ∧ 0 + a.length ≤ 1000000000000) ∧ a = a ∧ True))) := by kernel_rfl
theorem det_slices_Clone_impl_Symbol_impl_Symbol : C_slices_Clone_impl_Symbol_impl_Symbol.det = true → ∀ x, (C_slices_Clone_impl_Symbol_impl_Symbol.out x).Det := fun _ x => by simp only [C_slices_Clone_impl_Symbol_impl_Symbol]; repeat (first | exact Det.ret _ | exact Det.vc' | apply Det.req)
theorem ok_slices_Clone_impl_Symbol_impl_Symbol : ConOK Tryz.prog 68 C_slices_Clone_impl_Symbol_impl_Symbol := by
 refine con_q (l := L_slices_Clone_impl_Symbol_impl_Symbol) trivial Tryz.func68 rfl (by decide) (by kernel_rfl) rfl an_slices_Clone_impl_Symbol_impl_Symbol fun x ho hx => ?_
 obtain ⟨a, ⟨⟩⟩ := x
 refine Keeps.of (vc_slices_Clone_impl_Symbol_impl_Symbol a) ?_
 revert a ho hx
 show ∀ (a : List (Sym)), _
 intro a ho hx
 dsimp only [C_slices_Clone_impl_Symbol_impl_Symbol, okPTL, okPT, Ok, Ty.cells, SN.cells, OkL, OkC, okI, ci, cb, cs, cl] at ho
 dsimp only [C_slices_Clone_impl_Symbol_impl_Symbol, vc, v1, decB, SR.pre] at hx
 (try delta i64 LN); simp only [VBt]; (repeat' first | intro _ | apply And.intro); all_goals (try omega); all_goals grind
def C_slices_Clone_impl_Fixup_impl_Fixup : Con := { ps := [.ro (.list (.st .fixup))], out := fun x => let a : List (Fixup) := x.1; .req (a.length ≤ 1048576) (newL (.st .fixup) a), det := true }
abbrev L_slices_Clone_impl_Fixup_impl_Fixup : List (Nat × Con) := []
def G_slices_Clone_impl_Fixup_impl_Fixup : Cfg := GK L_slices_Clone_impl_Fixup_impl_Fixup
def an_slices_Clone_impl_Fixup_impl_Fixup : PTL C_slices_Clone_impl_Fixup_impl_Fixup.ps → Nat → Option Ann := fun _ _ => none
theorem vc_slices_Clone_impl_Fixup_impl_Fixup (a : List (Fixup)) : (KP Tryz.f70 G_slices_Clone_impl_Fixup_impl_Fixup C_slices_Clone_impl_Fixup_impl_Fixup an_slices_Clone_impl_Fixup_impl_Fixup (a, ())) = ((∀ (b : Bool), (b = true →
 a = ([] : List Fixup)) →
 (b = true →
 ([] : List Fixup) = a ∧ True) ∧ (b = false →
 ((0 + a.length) * 32 ≤ 140737488355328 ∧ 0 + a.length ≤ 1000000000000) ∧ a = a ∧ True))) := by kernel_rfl
theorem det_slices_Clone_impl_Fixup_impl_Fixup : C_slices_Clone_impl_Fixup_impl_Fixup.det = true → ∀ x, (C_slices_Clone_impl_Fixup_impl_Fixup.out x).Det := fun _ x => by simp only [C_slices_Clone_impl_Fixup_impl_Fixup]; repeat (first | exact Det.ret _ | exact Det.vc' | apply Det.req)
theorem ok_slices_Clone_impl_Fixup_impl_Fixup : ConOK Tryz.prog 70 C_slices_Clone_impl_Fixup_impl_Fixup := by
 refine con_q (l := L_slices_Clone_impl_Fixup_impl_Fixup) trivial Tryz.func70 rfl (by decide) (by kernel_rfl) rfl an_slices_Clone_impl_Fixup_impl_Fixup fun x ho hx => ?_
 obtain ⟨a, ⟨⟩⟩ := x
 refine Keeps.of (vc_slices_Clone_impl_Fixup_impl_Fixup a) ?_
 revert a ho hx
 show ∀ (a : List (Fixup)), _
 intro a ho hx
 dsimp only [C_slices_Clone_impl_Fixup_impl_Fixup, okPTL, okPT, Ok, Ty.cells, SN.cells, OkL, OkC, okI, ci, cb, cs, cl] at ho
 dsimp only [C_slices_Clone_impl_Fixup_impl_Fixup, vc, v1, decB, SR.pre] at hx
 (try delta i64 LN); simp only [VBt]; (repeat' first | intro _ | apply And.intro); all_goals (try omega); all_goals grind
def C_impl_copyObject : Con := { ps := [.ro (.st .obj)], out := fun x => let o : Objt := x.1; .req (szOb o ≤ 1048576) (newS .obj o), det := true }
abbrev L_impl_copyObject : List (Nat × Con) := [(68, C_slices_Clone_impl_Symbol_impl_Symbol), (69, C_slices_Clone_byte_byte), (70, C_slices_Clone_impl_Fixup_impl_Fixup)]
def G_impl_copyObject : Cfg := GK L_impl_copyObject
def an_impl_copyObject : PTL C_impl_copyObject.ps → Nat → Option Ann := fun x kk_ => let o : Objt := x.1; if kk_ = 3 then some (.all (Int) fun i => .giv (0 ≤ i ∧ i ≤ o.sects.length) (.mk [(3, aref 31), (13, ai i), (11, al (.st .sect) o.sects), (12, ai o.sects.length), (2, aref 30)] [(30, .box false [.nil, .nil]), (31, .box false [.sl 32 [], .sl 33 []]), (32, .row (some 69) (.st .sect) (o.sects.take i.toNat) true), (33, .row none (.st .sym) o.syms true)] ((o.sects.length - i.toNat)))) else none
theorem vc_impl_copyObject (o : Objt) : (KP Tryz.f30 G_impl_copyObject C_impl_copyObject an_impl_copyObject (o, ())) = (o.syms.length ≤ 1048576 ∧ (o.sects.length ≤ 9223372036854775807 →
 (∃ (a : Int), 0 = a ∧ o.sects = o.sects ∧ LN o.sects = LN o.sects ∧ ([] : List Sect) = o.sects.take a.toNat ∧ o.syms = o.syms ∧ (0 ≤ a ∧ a ≤ LN o.sects) ∧ True) ∧ (∀ (b : Int), 0 ≤ b ∧ b ≤ LN o.sects →
 (decide (b < LN o.sects) = true →
 (0 ≤ b ∧ b < LN o.sects) ∧ (∀ (c : Sect), o.sects[b.toNat]? = some c →
 Ok (Ty.st SN.sect) c →
 c.bytes.length ≤ 1048576 ∧ c.fixups.length ≤ 1048576 ∧ (((o.sects.take b.toNat).length + [c].length) * 88 ≤ 140737488355328 ∧ (o.sects.take b.toNat).length + [c].length ≤ 1000000000000) ∧ i64 (b + 1) ∧ (∃ (d : Int), b + 1 = d ∧ o.sects = o.sects ∧ LN o.sects = LN o.sects ∧ o.sects.take b.toNat ++ [c] = o.sects.take d.toNat ∧ o.syms = o.syms ∧ (0 ≤ d ∧ d ≤ LN o.sects) ∧ o.sects.length - d.toNat < o.sects.length - b.toNat))) ∧ (decide (b < LN o.sects) = false →
 o.sects.take b.toNat = o.sects ∧ o.syms = o.syms ∧ True)))) := by kernel_rfl
theorem det_impl_copyObject : C_impl_copyObject.det = true → ∀ x, (C_impl_copyObject.out x).Det := fun _ x => by simp only [C_impl_copyObject]; repeat (first | exact Det.ret _ | exact Det.vc' | apply Det.req)
theorem ok_impl_copyObject : ConOK Tryz.prog 30 C_impl_copyObject := by
 refine con_q (l := L_impl_copyObject) ⟨⟨ok_slices_Clone_impl_Symbol_impl_Symbol, det_slices_Clone_impl_Symbol_impl_Symbol⟩, ⟨⟨ok_slices_Clone_byte_byte, det_slices_Clone_byte_byte⟩, ⟨⟨ok_slices_Clone_impl_Fixup_impl_Fixup, det_slices_Clone_impl_Fixup_impl_Fixup⟩, trivial⟩⟩⟩ Tryz.func30 rfl (by decide) (by kernel_rfl) rfl an_impl_copyObject fun x ho hx => ?_
 obtain ⟨o, ⟨⟩⟩ := x
 refine Keeps.of (vc_impl_copyObject o) ?_
 revert o ho hx
 show ∀ (o : Objt), _
 intro o ho hx
 dsimp only [C_impl_copyObject, okPTL, okPT, Ok, Ty.cells, SN.cells, OkL, OkC, okI, ci, cb, cs, cl] at ho
 dsimp only [C_impl_copyObject, vc, v1, decB, SR.pre] at hx
 have f0 := sumI_nn szSe_nn o.sects
 have f1 := sumI_nn szSy_nn o.syms
 have ca := fun k x => sumI_at szSe_nn (l := o.sects) (k := k) (x := x)
 (try delta i64 LN); simp only [VBt]; (repeat' first | intro _ | apply And.intro); all_goals (try omega)
 all_goals (try first | exact take_app' (by assumption) (by assumption) | exact take_end' (by assumption) | grind [szOb, szSe])
def C_spec_l4Copy : Con := { ps := [.ro (.st .obj)], out := fun x => let o : Objt := x.1; .req (szOb o ≤ 1048576) (newS .obj o), det := true }
abbrev L_spec_l4Copy : List (Nat × Con) := []
def G_spec_l4Copy : Cfg := GK L_spec_l4Copy
def an_spec_l4Copy : PTL C_spec_l4Copy.ps → Nat → Option Ann := fun x kk_ => let o : Objt := x.1; if kk_ = 3 then some (.all (Int) fun i => .giv (0 ≤ i ∧ i ≤ o.sects.length) (.mk [(3, aref 31), (4, ai i), (2, aref 30), (1, aref 61)] [(30, .box false [.nil, .nil]), (31, .box false [.sl 32 [], .sl 33 []]), (32, .row (some 69) (.st .sect) (o.sects.take i.toNat) true), (33, .row none (.st .sym) o.syms true), (61, bx (ast .obj o))] ((o.sects.length - i.toNat)))) else none
theorem vc_spec_l4Copy (o : Objt) : (KP Tryz.f35 G_spec_l4Copy C_spec_l4Copy an_spec_l4Copy (o, ())) = (((0 + o.syms.length) * 40 ≤ 140737488355328 ∧ 0 + o.syms.length ≤ 1000000000000) ∧ (∃ (a : Int), 0 = a ∧ ([] : List Sect) = o.sects.take a.toNat ∧ o.syms = o.syms ∧ o.sects = o.sects ∧ o.syms = o.syms ∧ (0 ≤ a ∧ a ≤ LN o.sects) ∧ True) ∧ (∀ (b : Int), 0 ≤ b ∧ b ≤ LN o.sects →
 o.sects.length ≤ 9223372036854775807 →
 (decide (b < LN o.sects) = true →
 (0 ≤ b ∧ b < LN o.sects) ∧ (∀ (c : Sect), o.sects[b.toNat]? = some c →
 Ok (Ty.st SN.sect) c →
 ((0 + c.bytes.length) * 1 ≤ 140737488355328 ∧ 0 + c.bytes.length ≤ 1000000000000) ∧ ((0 + c.fixups.length) * 32 ≤ 140737488355328 ∧ 0 + c.fixups.length ≤ 1000000000000) ∧ (((o.sects.take b.toNat).length + [c].length) * 88 ≤ 140737488355328 ∧ (o.sects.take b.toNat).length + [c].length ≤ 1000000000000) ∧ i64 (b + 1) ∧ (∃ (d : Int), b + 1 = d ∧ o.sects.take b.toNat ++ [c] = o.sects.take d.toNat ∧ o.syms = o.syms ∧ o.sects = o.sects ∧ o.syms = o.syms ∧ (0 ≤ d ∧ d ≤ LN o.sects) ∧ o.sects.length - d.toNat < o.sects.length - b.toNat))) ∧ (decide (b < LN o.sects) = false →
 o.sects.take b.toNat = o.sects ∧ o.syms = o.syms ∧ True))) := by kernel_rfl
theorem det_spec_l4Copy : C_spec_l4Copy.det = true → ∀ x, (C_spec_l4Copy.out x).Det := fun _ x => by simp only [C_spec_l4Copy]; repeat (first | exact Det.ret _ | exact Det.vc' | apply Det.req)
theorem ok_spec_l4Copy : ConOK Tryz.prog 35 C_spec_l4Copy := by
 refine con_q (l := L_spec_l4Copy) trivial Tryz.func35 rfl (by decide) (by kernel_rfl) rfl an_spec_l4Copy fun x ho hx => ?_
 obtain ⟨o, ⟨⟩⟩ := x
 refine Keeps.of (vc_spec_l4Copy o) ?_
 revert o ho hx
 show ∀ (o : Objt), _
 intro o ho hx
 dsimp only [C_spec_l4Copy, okPTL, okPT, Ok, Ty.cells, SN.cells, OkL, OkC, okI, ci, cb, cs, cl] at ho
 dsimp only [C_spec_l4Copy, vc, v1, decB, SR.pre] at hx
 have f0 := sumI_nn szSe_nn o.sects
 have f1 := sumI_nn szSy_nn o.syms
 have ca := fun k x => sumI_at szSe_nn (l := o.sects) (k := k) (x := x)
 (try delta i64 LN); simp only [VBt]; (repeat' first | intro _ | apply And.intro); all_goals (try omega)
 all_goals (try first | exact take_app' (by assumption) (by assumption) | exact take_end' (by assumption) | grind [szOb, szSe])
end Go.Proofs.YtpgglbnagphgoaaGreat
