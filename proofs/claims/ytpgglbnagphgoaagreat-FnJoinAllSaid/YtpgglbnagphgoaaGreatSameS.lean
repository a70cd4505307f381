/- The laws' comparisons. -/
import Derived.Test.YtpgglbnagphgoaaGreatFamDS
set_option linter.unusedVariables false
set_option linter.unusedSimpArgs false
set_option maxRecDepth 200000
set_option maxHeartbeats 4000000
namespace Go.Proofs.YtpgglbnagphgoaaGreat
open Go Go.RowKit


theorem img_ext {a b : Img} (h : a.base = b.base) (h' : a.bytes = b.bytes) : a = b := by cases a; cases b; simp_all
def C_laws_sameBytes : Con := { ps := [.ro (.list .u), .ro (.list .u)], out := fun x => let a : List (Int) := x.1; let b : List (Int) := x.2.1; vc .bool (decide (a = b)), det := true }
abbrev L_laws_sameBytes : List (Nat × Con) := []
def G_laws_sameBytes : Cfg := GK L_laws_sameBytes
def an_laws_sameBytes : PTL C_laws_sameBytes.ps → Nat → Option Ann := fun x kk_ => let a : List (Int) := x.1; let b : List (Int) := x.2.1; if kk_ = 4 then some (.all (Int) fun i => .giv (0 ≤ i ∧ i ≤ a.length ∧ a.length = b.length ∧ a.take i.toNat = b.take i.toNat) (.mk [(5, ai i), (0, al .u a), (1, al .u b)] [] ((a.length - i.toNat)))) else none
theorem vc_laws_sameBytes (a : List (Int)) (b : List (Int)) : (KP Tryz.f51 G_laws_sameBytes C_laws_sameBytes an_laws_sameBytes (a, b, ())) = (a.length ≤ 9223372036854775807 →
 b.length ≤ 9223372036854775807 →
 (decide (LN a ≠ LN b) = true →
 false = decide (a = b) ∧ True) ∧ (decide (LN a ≠ LN b) = false →
 (∃ (c : Int), 0 = c ∧ a = a ∧ b = b ∧ (0 ≤ c ∧ c ≤ LN a ∧ a.length = b.length ∧ a.take c.toNat = b.take c.toNat) ∧ True) ∧ (∀ (d : Int), 0 ≤ d ∧ d ≤ LN a ∧ a.length = b.length ∧ a.take d.toNat = b.take d.toNat →
 a.length ≤ 9223372036854775807 →
 (decide (d < LN a) = true →
 (0 ≤ d ∧ d < LN a) ∧ (∀ (e : Int), a[d.toNat]? = some e →
 Ok (Ty.int IntKind.u8) e →
 (0 ≤ d ∧ d < LN b) ∧ (∀ (f : Int), b[d.toNat]? = some f →
 Ok (Ty.int IntKind.u8) f →
 (decide (e ≠ f) = true →
 false = decide (a = b) ∧ True) ∧ (decide (e ≠ f) = false →
 i64 (d + 1) ∧ (∃ (g : Int), d + 1 = g ∧ a = a ∧ b = b ∧ (0 ≤ g ∧ g ≤ LN a ∧ a.length = b.length ∧ a.take g.toNat = b.take g.toNat) ∧ a.length - g.toNat < a.length - d.toNat))))) ∧ (decide (d < LN a) = false →
 true = decide (a = b) ∧ True)))) := by kernel_rfl
theorem det_laws_sameBytes : C_laws_sameBytes.det = true → ∀ x, (C_laws_sameBytes.out x).Det := fun _ _ => Det.vc'
theorem ok_laws_sameBytes : ConOK Tryz.prog 51 C_laws_sameBytes := by
 refine con_q (l := L_laws_sameBytes) trivial Tryz.func51 rfl (by decide) (by kernel_rfl) rfl an_laws_sameBytes fun x ho hx => ?_
 obtain ⟨a, b, ⟨⟩⟩ := x
 refine Keeps.of (vc_laws_sameBytes a b) ?_
 revert a b ho hx
 show ∀ (a : List (Int)) (b : List (Int)), _
 intro a b ho hx
 dsimp only [C_laws_sameBytes, okPTL, okPT, Ok, Ty.cells, SN.cells, OkL, OkC, okI, ci, cb, cs, cl] at ho
 dsimp only [C_laws_sameBytes, vc, v1, decB, SR.pre] at hx
 (try delta i64 LN); simp only [VBt]; (repeat' first | intro _ | apply And.intro); all_goals (try omega); all_goals first | grind [take_all', take_next, take_diff] | exact take_next2 (by omega) (by assumption) (by assumption) (by assumption) (by assumption) | exact take_diff2 (by assumption) (by assumption) (by assumption)
def C_laws_sameImage : Con := { ps := [.ro (.st .img), .ro (.st .img)], out := fun x => let a : Img := x.1; let b : Img := x.2.1; vc .bool (decide (a = b)), det := true }
abbrev L_laws_sameImage : List (Nat × Con) := [(51, C_laws_sameBytes)]
def G_laws_sameImage : Cfg := GK L_laws_sameImage
def an_laws_sameImage : PTL C_laws_sameImage.ps → Nat → Option Ann := fun _ _ => none
theorem vc_laws_sameImage (a : Img) (b : Img) : (KP Tryz.f15 G_laws_sameImage C_laws_sameImage an_laws_sameImage (a, b, ())) = ((decide (a.base = b.base) = true →
 decide (a.bytes = b.bytes) = decide (a = b) ∧ True) ∧ (decide (a.base = b.base) = false →
 false = decide (a = b) ∧ True)) := by kernel_rfl
theorem det_laws_sameImage : C_laws_sameImage.det = true → ∀ x, (C_laws_sameImage.out x).Det := fun _ _ => Det.vc'
theorem ok_laws_sameImage : ConOK Tryz.prog 15 C_laws_sameImage := by
 refine con_q (l := L_laws_sameImage) ⟨⟨ok_laws_sameBytes, det_laws_sameBytes⟩, trivial⟩ Tryz.func15 rfl (by decide) (by kernel_rfl) rfl an_laws_sameImage fun x ho hx => ?_
 obtain ⟨a, b, ⟨⟩⟩ := x
 refine Keeps.of (vc_laws_sameImage a b) ?_
 revert a b ho hx
 show ∀ (a : Img) (b : Img), _
 intro a b ho hx
 dsimp only [C_laws_sameImage, okPTL, okPT, Ok, Ty.cells, SN.cells, OkL, OkC, okI, ci, cb, cs, cl] at ho
 dsimp only [C_laws_sameImage, vc, v1, decB, SR.pre] at hx
 (try delta i64 LN); simp only [VBt]; (repeat' first | intro _ | apply And.intro); all_goals (try omega); all_goals grind [img_ext]
end Go.Proofs.YtpgglbnagphgoaaGreat
