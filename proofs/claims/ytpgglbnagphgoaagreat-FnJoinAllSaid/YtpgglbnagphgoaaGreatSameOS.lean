/- The laws' comparisons of objects. -/
import Derived.Test.YtpgglbnagphgoaaGreatSameS
import Derived.Test.YtpgglbnagphgoaaGreatObjDS
set_option linter.unusedVariables false
set_option linter.unusedSimpArgs false
set_option maxRecDepth 200000
set_option maxHeartbeats 4000000
namespace Go.Proofs.YtpgglbnagphgoaaGreat
open Go Go.RowKit


theorem sect_ext {a b : Sect} (h : a.name = b.name) (h1 : a.kind = b.kind) (h2 : a.align = b.align) (h3 : a.size = b.size) (h4 : a.bytes = b.bytes) (h5 : a.fixups = b.fixups) : a = b := by cases a; cases b; simp_all
theorem obj_ext {a b : Objt} (h : a.sects = b.sects) (h1 : a.syms = b.syms) : a = b := by cases a; cases b; simp_all
theorem fixup_ext {a b : Fixup} (h : a.at_ = b.at_) (h1 : a.kind = b.kind) (h2 : a.to = b.to) (h3 : a.add = b.add) : a = b := by cases a; cases b; simp_all
theorem sym_ext {a b : Sym} (h : a.name = b.name) (h1 : a.bind = b.bind) (h2 : a.wher = b.wher) (h3 : a.value = b.value) : a = b := by cases a; cases b; simp_all
def C_laws_sameSection : Con := { ps := [.ro (.st .sect), .ro (.st .sect)], out := fun x => let a : Sect := x.1; let b : Sect := x.2.1; vc .bool (decide (a = b)), det := true }
abbrev L_laws_sameSection : List (Nat × Con) := [(51, C_laws_sameBytes)]
def G_laws_sameSection : Cfg := GK L_laws_sameSection
def an_laws_sameSection : PTL C_laws_sameSection.ps → Nat → Option Ann := fun x kk_ => let a : Sect := x.1; let b : Sect := x.2.1; if kk_ = 4 then some (.all (Int) fun i => .giv (0 ≤ i ∧ i ≤ a.fixups.length ∧ a.name = b.name ∧ a.kind = b.kind ∧ a.align = b.align ∧ a.size = b.size ∧ a.bytes = b.bytes ∧ a.fixups.length = b.fixups.length ∧ a.fixups.take i.toNat = b.fixups.take i.toNat) (.mk [(5, ai i), (2, aref 62), (3, aref 63)] [(62, bx (ast .sect a)), (63, bx (ast .sect b))] ((a.fixups.length - i.toNat)))) else none
theorem vc_laws_sameSection (a : Sect) (b : Sect) : (KP Tryz.f38 G_laws_sameSection C_laws_sameSection an_laws_sameSection (a, b, ())) = ((decide (a.name ≠ b.name) = true →
 false = decide (a = b) ∧ True) ∧ (decide (a.name ≠ b.name) = false →
 (decide (a.kind ≠ b.kind) = true →
 false = decide (a = b) ∧ True) ∧ (decide (a.kind ≠ b.kind) = false →
 (decide (a.align ≠ b.align) = true →
 false = decide (a = b) ∧ True) ∧ (decide (a.align ≠ b.align) = false →
 (decide (a.size ≠ b.size) = true →
 false = decide (a = b) ∧ True) ∧ (decide (a.size ≠ b.size) = false →
 (Bool.not (decide (a.bytes = b.bytes)) = true →
 false = decide (a = b) ∧ True) ∧ (Bool.not (decide (a.bytes = b.bytes)) = false →
 a.fixups.length ≤ 9223372036854775807 →
 b.fixups.length ≤ 9223372036854775807 →
 (decide (LN a.fixups ≠ LN b.fixups) = true →
 false = decide (a = b) ∧ True) ∧ (decide (LN a.fixups ≠ LN b.fixups) = false →
 (∃ (c : Int), 0 = c ∧ a.name = a.name ∧ a.kind = a.kind ∧ a.align = a.align ∧ a.bytes = a.bytes ∧ a.size = a.size ∧ a.fixups = a.fixups ∧ b.name = b.name ∧ b.kind = b.kind ∧ b.align = b.align ∧ b.bytes = b.bytes ∧ b.size = b.size ∧ b.fixups = b.fixups ∧ (0 ≤ c ∧ c ≤ LN a.fixups ∧ a.name = b.name ∧ a.kind = b.kind ∧ a.align = b.align ∧ a.size = b.size ∧ a.bytes = b.bytes ∧ a.fixups.length = b.fixups.length ∧ a.fixups.take c.toNat = b.fixups.take c.toNat) ∧ True) ∧ (∀ (d : Int), 0 ≤ d ∧ d ≤ LN a.fixups ∧ a.name = b.name ∧ a.kind = b.kind ∧ a.align = b.align ∧ a.size = b.size ∧ a.bytes = b.bytes ∧ a.fixups.length = b.fixups.length ∧ a.fixups.take d.toNat = b.fixups.take d.toNat →
 a.fixups.length ≤ 9223372036854775807 →
 (decide (d < LN a.fixups) = true →
 (0 ≤ d ∧ d < LN a.fixups) ∧ (∀ (e : Fixup), a.fixups[d.toNat]? = some e →
 Ok (Ty.st SN.fixup) e →
 (0 ≤ d ∧ d < LN b.fixups) ∧ (∀ (f : Fixup), b.fixups[d.toNat]? = some f →
 Ok (Ty.st SN.fixup) f →
 (Bool.not (Bool.and (decide (e.at_ = f.at_)) (Bool.and (decide (e.kind = f.kind)) (Bool.and (decide (e.to = f.to)) (Bool.and (decide (e.add = f.add)) true)))) = true →
 false = decide (a = b) ∧ True) ∧ (Bool.not (Bool.and (decide (e.at_ = f.at_)) (Bool.and (decide (e.kind = f.kind)) (Bool.and (decide (e.to = f.to)) (Bool.and (decide (e.add = f.add)) true)))) = false →
 i64 (d + 1) ∧ (∃ (g : Int), d + 1 = g ∧ a.name = a.name ∧ a.kind = a.kind ∧ a.align = a.align ∧ a.bytes = a.bytes ∧ a.size = a.size ∧ a.fixups = a.fixups ∧ b.name = b.name ∧ b.kind = b.kind ∧ b.align = b.align ∧ b.bytes = b.bytes ∧ b.size = b.size ∧ b.fixups = b.fixups ∧ (0 ≤ g ∧ g ≤ LN a.fixups ∧ a.name = b.name ∧ a.kind = b.kind ∧ a.align = b.align ∧ a.size = b.size ∧ a.bytes = b.bytes ∧ a.fixups.length = b.fixups.length ∧ a.fixups.take g.toNat = b.fixups.take g.toNat) ∧ a.fixups.length - g.toNat < a.fixups.length - d.toNat))))) ∧ (decide (d < LN a.fixups) = false →
 true = decide (a = b) ∧ True))))))))) := by kernel_rfl
theorem det_laws_sameSection : C_laws_sameSection.det = true → ∀ x, (C_laws_sameSection.out x).Det := fun _ _ => Det.vc'
theorem ok_laws_sameSection : ConOK Tryz.prog 38 C_laws_sameSection := by
 refine con_q (l := L_laws_sameSection) ⟨⟨ok_laws_sameBytes, det_laws_sameBytes⟩, trivial⟩ Tryz.func38 rfl (by decide) (by kernel_rfl) rfl an_laws_sameSection fun x ho hx => ?_
 obtain ⟨a, b, ⟨⟩⟩ := x
 refine Keeps.of (vc_laws_sameSection a b) ?_
 revert a b ho hx
 show ∀ (a : Sect) (b : Sect), _
 intro a b ho hx
 dsimp only [C_laws_sameSection, okPTL, okPT, Ok, Ty.cells, SN.cells, OkL, OkC, okI, ci, cb, cs, cl] at ho
 dsimp only [C_laws_sameSection, vc, v1, decB, SR.pre] at hx
 (try delta i64 LN); simp only [VBt]; (repeat' first | intro _ | apply And.intro); all_goals (try omega); all_goals (try grind [sect_ext, take_all', take_next, take_next2, take_diff, take_diff2, fixup_ext])
def C_laws_sameObject : Con := { ps := [.ro (.st .obj), .ro (.st .obj)], out := fun x => let a : Objt := x.1; let b : Objt := x.2.1; vc .bool (decide (a = b)), det := true }
abbrev L_laws_sameObject : List (Nat × Con) := [(38, C_laws_sameSection)]
def G_laws_sameObject : Cfg := GK L_laws_sameObject
def an_laws_sameObject : PTL C_laws_sameObject.ps → Nat → Option Ann := fun x kk_ => let a : Objt := x.1; let b : Objt := x.2.1; if kk_ = 4 then some (.all (Int) fun i => .giv (0 ≤ i ∧ i ≤ a.sects.length ∧ a.sects.length = b.sects.length ∧ a.syms.length = b.syms.length ∧ a.sects.take i.toNat = b.sects.take i.toNat) (.mk [(5, ai i), (2, aref 62), (3, aref 63)] [(62, bx (ast .obj a)), (63, bx (ast .obj b))] ((a.sects.length - i.toNat)))) else if kk_ = 9 then some (.all (Int) fun i => .giv (0 ≤ i ∧ i ≤ a.syms.length ∧ a.sects = b.sects ∧ a.syms.length = b.syms.length ∧ a.syms.take i.toNat = b.syms.take i.toNat) (.mk [(6, ai i), (2, aref 62), (3, aref 63)] [(62, bx (ast .obj a)), (63, bx (ast .obj b))] ((a.syms.length - i.toNat)))) else none
theorem vc_laws_sameObject (a : Objt) (b : Objt) : (KP Tryz.f9 G_laws_sameObject C_laws_sameObject an_laws_sameObject (a, b, ())) = (a.sects.length ≤ 9223372036854775807 →
 b.sects.length ≤ 9223372036854775807 →
 (decide (LN a.sects ≠ LN b.sects) = true →
 false = decide (a = b) ∧ True) ∧ (decide (LN a.sects ≠ LN b.sects) = false →
 a.syms.length ≤ 9223372036854775807 →
 b.syms.length ≤ 9223372036854775807 →
 (decide (LN a.syms ≠ LN b.syms) = true →
 false = decide (a = b) ∧ True) ∧ (decide (LN a.syms ≠ LN b.syms) = false →
 (∃ (c : Int), 0 = c ∧ a.sects = a.sects ∧ a.syms = a.syms ∧ b.sects = b.sects ∧ b.syms = b.syms ∧ (0 ≤ c ∧ c ≤ LN a.sects ∧ a.sects.length = b.sects.length ∧ a.syms.length = b.syms.length ∧ a.sects.take c.toNat = b.sects.take c.toNat) ∧ True) ∧ (∀ (d : Int), 0 ≤ d ∧ d ≤ LN a.sects ∧ a.sects.length = b.sects.length ∧ a.syms.length = b.syms.length ∧ a.sects.take d.toNat = b.sects.take d.toNat →
 a.sects.length ≤ 9223372036854775807 →
 (decide (d < LN a.sects) = true →
 (0 ≤ d ∧ d < LN a.sects) ∧ (∀ (e : Sect), a.sects[d.toNat]? = some e →
 Ok (Ty.st SN.sect) e →
 (0 ≤ d ∧ d < LN b.sects) ∧ (∀ (f : Sect), b.sects[d.toNat]? = some f →
 Ok (Ty.st SN.sect) f →
 (Bool.not (decide (e = f)) = true →
 false = decide (a = b) ∧ True) ∧ (Bool.not (decide (e = f)) = false →
 i64 (d + 1) ∧ (∃ (g : Int), d + 1 = g ∧ a.sects = a.sects ∧ a.syms = a.syms ∧ b.sects = b.sects ∧ b.syms = b.syms ∧ (0 ≤ g ∧ g ≤ LN a.sects ∧ a.sects.length = b.sects.length ∧ a.syms.length = b.syms.length ∧ a.sects.take g.toNat = b.sects.take g.toNat) ∧ a.sects.length - g.toNat < a.sects.length - d.toNat))))) ∧ (decide (d < LN a.sects) = false →
 (∃ (h : Int), 0 = h ∧ a.sects = a.sects ∧ a.syms = a.syms ∧ b.sects = b.sects ∧ b.syms = b.syms ∧ (0 ≤ h ∧ h ≤ LN a.syms ∧ a.sects = b.sects ∧ a.syms.length = b.syms.length ∧ a.syms.take h.toNat = b.syms.take h.toNat) ∧ True) ∧ (∀ (i : Int), 0 ≤ i ∧ i ≤ LN a.syms ∧ a.sects = b.sects ∧ a.syms.length = b.syms.length ∧ a.syms.take i.toNat = b.syms.take i.toNat →
 a.syms.length ≤ 9223372036854775807 →
 (decide (i < LN a.syms) = true →
 (0 ≤ i ∧ i < LN a.syms) ∧ (∀ (j : Sym), a.syms[i.toNat]? = some j →
 Ok (Ty.st SN.sym) j →
 (0 ≤ i ∧ i < LN b.syms) ∧ (∀ (k : Sym), b.syms[i.toNat]? = some k →
 Ok (Ty.st SN.sym) k →
 (Bool.not (Bool.and (decide (j.name = k.name)) (Bool.and (decide (j.bind = k.bind)) (Bool.and (decide (j.wher = k.wher)) (Bool.and (decide (j.value = k.value)) true)))) = true →
 false = decide (a = b) ∧ True) ∧ (Bool.not (Bool.and (decide (j.name = k.name)) (Bool.and (decide (j.bind = k.bind)) (Bool.and (decide (j.wher = k.wher)) (Bool.and (decide (j.value = k.value)) true)))) = false →
 i64 (i + 1) ∧ (∃ (l : Int), i + 1 = l ∧ a.sects = a.sects ∧ a.syms = a.syms ∧ b.sects = b.sects ∧ b.syms = b.syms ∧ (0 ≤ l ∧ l ≤ LN a.syms ∧ a.sects = b.sects ∧ a.syms.length = b.syms.length ∧ a.syms.take l.toNat = b.syms.take l.toNat) ∧ a.syms.length - l.toNat < a.syms.length - i.toNat))))) ∧ (decide (i < LN a.syms) = false →
 true = decide (a = b) ∧ True))))))) := by kernel_rfl
theorem det_laws_sameObject : C_laws_sameObject.det = true → ∀ x, (C_laws_sameObject.out x).Det := fun _ _ => Det.vc'
theorem ok_laws_sameObject : ConOK Tryz.prog 9 C_laws_sameObject := by
 refine con_q (l := L_laws_sameObject) ⟨⟨ok_laws_sameSection, det_laws_sameSection⟩, trivial⟩ Tryz.func9 rfl (by decide) (by kernel_rfl) rfl an_laws_sameObject fun x ho hx => ?_
 obtain ⟨a, b, ⟨⟩⟩ := x
 refine Keeps.of (vc_laws_sameObject a b) ?_
 revert a b ho hx
 show ∀ (a : Objt) (b : Objt), _
 intro a b ho hx
 dsimp only [C_laws_sameObject, okPTL, okPT, Ok, Ty.cells, SN.cells, OkL, OkC, okI, ci, cb, cs, cl] at ho
 dsimp only [C_laws_sameObject, vc, v1, decB, SR.pre] at hx
 (try delta i64 LN); simp only [VBt]; (repeat' first | intro _ | apply And.intro); all_goals (try omega); all_goals (try grind [obj_ext, take_all', take_next, take_next2, take_diff, take_diff2, sym_ext])
end Go.Proofs.YtpgglbnagphgoaaGreat
