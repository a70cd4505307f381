/- The laws' comparisons. -/
import Derived.Test.YtfdngmkmeeaeeaaGreatFamDa
set_option linter.unusedVariables false
set_option linter.unusedSimpArgs false
set_option maxRecDepth 200000
set_option maxHeartbeats 4000000
namespace Go.Proofs.YtfdngmkmeeaeeaaGreat
open Go Go.RowKit


theorem memo_ext {a b : Memo} (h : a.what = b.what) (h' : a.regions = b.regions) : a = b := by cases a; cases b; simp_all
theorem img_ext {a b : Img} (h : a.base = b.base) (h' : a.bytes = b.bytes) : a = b := by cases a; cases b; simp_all
theorem region_ext {a b : Region} (h : a.from_ = b.from_) (h1 : a.to = b.to) (h2 : a.write = b.write) (h3 : a.run = b.run) : a = b := by cases a; cases b; simp_all
def C_laws_sameBytes : Con := { ps := [.ro (.list .u), .ro (.list .u)], out := fun x => let a : List (Int) := x.1; let b : List (Int) := x.2.1; vc .bool (decide (a = b)), det := true }
abbrev L_laws_sameBytes : List (Nat × Con) := []
def G_laws_sameBytes : Cfg := GK L_laws_sameBytes
def an_laws_sameBytes : PTL C_laws_sameBytes.ps → Nat → Option Ann := fun x kk_ => let a : List (Int) := x.1; let b : List (Int) := x.2.1; if kk_ = 4 then some (.all (Int) fun i => .giv (0 ≤ i ∧ i ≤ a.length ∧ a.length = b.length ∧ a.take i.toNat = b.take i.toNat) (.mk [(5, ai i), (0, al .u a), (1, al .u b)] [] ((a.length - i.toNat)))) else none
theorem vc_laws_sameBytes (a : List (Int)) (b : List (Int)) : (KP Tryz.f105 G_laws_sameBytes C_laws_sameBytes an_laws_sameBytes (a, b, ())) = (a.length ≤ 9223372036854775807 →
 b.length ≤ 9223372036854775807 →
 (decide (LN a ≠ LN b) = true →
 false = decide (a = b) ∧ True) ∧ (decide (LN a ≠ LN b) = false →
 (∃ (c : Int), 0 = c ∧ a = a ∧ b = b ∧ (0 ≤ c ∧ c ≤ LN a ∧ a.length = b.length ∧ a.take c.toNat = b.take c.toNat) ∧ True) ∧ (∀ (d : Int), 0 ≤ d ∧ d ≤ LN a ∧ a.length = b.length ∧ a.take d.toNat = b.take d.toNat →
 a.length ≤ 9223372036854775807 →
 (decide (d < LN a) = true →
 (0 ≤ d ∧ d < LN a) ∧ (∀ (e : Int), a[d.toNat]? = some e →
 Ok (Ty.int IntKind.u8) e →
 (0 ≤ d ∧ d < LN b) ∧ (∀ (f : Int), b[d.toNat]? = some f →
 Ok (Ty.int IntKind.u8) f →
 (decide (e ≠ f) = true →
 false = decide (a = b) ∧ True) ∧ (decide (e ≠ f) = false →
 i64 (d + 1) ∧ (∃ (g : Int), d + 1 = g ∧ a = a ∧ b = b ∧ (0 ≤ g ∧ g ≤ LN a ∧ a.length = b.length ∧ a.take g.toNat = b.take g.toNat) ∧ a.length - g.toNat < a.length - d.toNat))))) ∧ (decide (d < LN a) = false →
 true = decide (a = b) ∧ True)))) := by kernel_rfl
theorem det_laws_sameBytes : C_laws_sameBytes.det = true → ∀ x, (C_laws_sameBytes.out x).Det := fun _ _ => Det.vc'
theorem ok_laws_sameBytes : ConOK Tryz.prog 105 C_laws_sameBytes := by
 refine con_q (l := L_laws_sameBytes) trivial Tryz.func105 rfl (by decide) (by kernel_rfl) rfl an_laws_sameBytes fun x ho hx => ?_
 obtain ⟨a, b, ⟨⟩⟩ := x
 refine Keeps.of (vc_laws_sameBytes a b) ?_
 revert a b ho hx
 show ∀ (a : List (Int)) (b : List (Int)), _
 intro a b ho hx
 dsimp only [C_laws_sameBytes, okPTL, okPT, Ok, Ty.cells, SN.cells, OkL, OkC, okI, ci, cb, cs, cl] at ho
 dsimp only [C_laws_sameBytes, vc, v1, decB, SR.pre] at hx
 (try delta i64 LN); simp only [VBt]; (repeat' first | intro _ | apply And.intro); all_goals (try omega); all_goals first | grind [take_all', take_next, take_diff] | exact take_next2 (by omega) (by assumption) (by assumption) (by assumption) (by assumption) | exact take_diff2 (by assumption) (by assumption) (by assumption)
def C_laws_sameImage : Con := { ps := [.ro (.st .img), .ro (.st .img)], out := fun x => let a : Img := x.1; let b : Img := x.2.1; vc .bool (decide (a = b)), det := true }
abbrev L_laws_sameImage : List (Nat × Con) := [(105, C_laws_sameBytes)]
def G_laws_sameImage : Cfg := GK L_laws_sameImage
def an_laws_sameImage : PTL C_laws_sameImage.ps → Nat → Option Ann := fun _ _ => none
theorem vc_laws_sameImage (a : Img) (b : Img) : (KP Tryz.f39 G_laws_sameImage C_laws_sameImage an_laws_sameImage (a, b, ())) = ((decide (a.base = b.base) = true →
 decide (a.bytes = b.bytes) = decide (a = b) ∧ True) ∧ (decide (a.base = b.base) = false →
 false = decide (a = b) ∧ True)) := by kernel_rfl
theorem det_laws_sameImage : C_laws_sameImage.det = true → ∀ x, (C_laws_sameImage.out x).Det := fun _ _ => Det.vc'
theorem ok_laws_sameImage : ConOK Tryz.prog 39 C_laws_sameImage := by
 refine con_q (l := L_laws_sameImage) ⟨⟨ok_laws_sameBytes, det_laws_sameBytes⟩, trivial⟩ Tryz.func39 rfl (by decide) (by kernel_rfl) rfl an_laws_sameImage fun x ho hx => ?_
 obtain ⟨a, b, ⟨⟩⟩ := x
 refine Keeps.of (vc_laws_sameImage a b) ?_
 revert a b ho hx
 show ∀ (a : Img) (b : Img), _
 intro a b ho hx
 dsimp only [C_laws_sameImage, okPTL, okPT, Ok, Ty.cells, SN.cells, OkL, OkC, okI, ci, cb, cs, cl] at ho
 dsimp only [C_laws_sameImage, vc, v1, decB, SR.pre] at hx
 (try delta i64 LN); simp only [VBt]; (repeat' first | intro _ | apply And.intro); all_goals (try omega); all_goals grind [img_ext]
def C_laws_sameMemory : Con := { ps := [.ro (.st .mem), .ro (.st .mem)], out := fun x => let a : Memo := x.1; let b : Memo := x.2.1; vc .bool (decide (a = b)), det := true }
abbrev L_laws_sameMemory : List (Nat × Con) := [(39, C_laws_sameImage)]
def G_laws_sameMemory : Cfg := GK L_laws_sameMemory
def an_laws_sameMemory : PTL C_laws_sameMemory.ps → Nat → Option Ann := fun x kk_ => let a : Memo := x.1; let b : Memo := x.2.1; if kk_ = 4 then some (.all (Int) fun i => .giv (0 ≤ i ∧ i ≤ a.regions.length ∧ a.what = b.what ∧ a.regions.length = b.regions.length ∧ a.regions.take i.toNat = b.regions.take i.toNat) (.mk [(5, ai i), (2, aref 62), (3, aref 63)] [(62, bx (ast .mem a)), (63, bx (ast .mem b))] ((a.regions.length - i.toNat)))) else none
theorem vc_laws_sameMemory (a : Memo) (b : Memo) : (KP Tryz.f52 G_laws_sameMemory C_laws_sameMemory an_laws_sameMemory (a, b, ())) = ((Bool.not (decide (a.what = b.what)) = true →
 false = decide (a = b) ∧ True) ∧ (Bool.not (decide (a.what = b.what)) = false →
 a.regions.length ≤ 9223372036854775807 →
 b.regions.length ≤ 9223372036854775807 →
 (decide (LN a.regions ≠ LN b.regions) = true →
 false = decide (a = b) ∧ True) ∧ (decide (LN a.regions ≠ LN b.regions) = false →
 (∃ (c : Int), 0 = c ∧ a.what.base = a.what.base ∧ a.what.bytes = a.what.bytes ∧ a.regions = a.regions ∧ b.what.base = b.what.base ∧ b.what.bytes = b.what.bytes ∧ b.regions = b.regions ∧ (0 ≤ c ∧ c ≤ LN a.regions ∧ a.what = b.what ∧ a.regions.length = b.regions.length ∧ a.regions.take c.toNat = b.regions.take c.toNat) ∧ True) ∧ (∀ (d : Int), 0 ≤ d ∧ d ≤ LN a.regions ∧ a.what = b.what ∧ a.regions.length = b.regions.length ∧ a.regions.take d.toNat = b.regions.take d.toNat →
 a.regions.length ≤ 9223372036854775807 →
 (decide (d < LN a.regions) = true →
 (0 ≤ d ∧ d < LN a.regions) ∧ (∀ (e : Region), a.regions[d.toNat]? = some e →
 Ok (Ty.st SN.region) e →
 (0 ≤ d ∧ d < LN b.regions) ∧ (∀ (f : Region), b.regions[d.toNat]? = some f →
 Ok (Ty.st SN.region) f →
 (Bool.not (Bool.and (decide (e.from_ = f.from_)) (Bool.and (decide (e.to = f.to)) (Bool.and (decide (e.write = f.write)) (Bool.and (decide (e.run = f.run)) true)))) = true →
 false = decide (a = b) ∧ True) ∧ (Bool.not (Bool.and (decide (e.from_ = f.from_)) (Bool.and (decide (e.to = f.to)) (Bool.and (decide (e.write = f.write)) (Bool.and (decide (e.run = f.run)) true)))) = false →
 i64 (d + 1) ∧ (∃ (g : Int), d + 1 = g ∧ a.what.base = a.what.base ∧ a.what.bytes = a.what.bytes ∧ a.regions = a.regions ∧ b.what.base = b.what.base ∧ b.what.bytes = b.what.bytes ∧ b.regions = b.regions ∧ (0 ≤ g ∧ g ≤ LN a.regions ∧ a.what = b.what ∧ a.regions.length = b.regions.length ∧ a.regions.take g.toNat = b.regions.take g.toNat) ∧ a.regions.length - g.toNat < a.regions.length - d.toNat))))) ∧ (decide (d < LN a.regions) = false →
 true = decide (a = b) ∧ True))))) := by kernel_rfl
theorem det_laws_sameMemory : C_laws_sameMemory.det = true → ∀ x, (C_laws_sameMemory.out x).Det := fun _ _ => Det.vc'
theorem ok_laws_sameMemory : ConOK Tryz.prog 52 C_laws_sameMemory := by
 refine con_q (l := L_laws_sameMemory) ⟨⟨ok_laws_sameImage, det_laws_sameImage⟩, trivial⟩ Tryz.func52 rfl (by decide) (by kernel_rfl) rfl an_laws_sameMemory fun x ho hx => ?_
 obtain ⟨a, b, ⟨⟩⟩ := x
 refine Keeps.of (vc_laws_sameMemory a b) ?_
 revert a b ho hx
 show ∀ (a : Memo) (b : Memo), _
 intro a b ho hx
 dsimp only [C_laws_sameMemory, okPTL, okPT, Ok, Ty.cells, SN.cells, OkL, OkC, okI, ci, cb, cs, cl] at ho
 dsimp only [C_laws_sameMemory, vc, v1, decB, SR.pre] at hx
 (try delta i64 LN); simp only [VBt]; (repeat' first | intro _ | apply And.intro); all_goals (try omega); all_goals grind [memo_ext, take_all', take_next, take_next2, take_diff, take_diff2, region_ext]
end Go.Proofs.YtfdngmkmeeaeeaaGreat
