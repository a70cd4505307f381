/- Images, memories, patches: both packages keep the same contracts. -/
import Derived.Test.YtfdngmkmeeaeeaaGreatLiba
set_option linter.unusedVariables false
set_option linter.unusedSimpArgs false
set_option maxRecDepth 200000
set_option maxHeartbeats 4000000
namespace Go.Proofs.YtfdngmkmeeaeeaaGreat
open Go Go.RowKit


def imgOk (m : Img) : Prop := isBase m.base ∧ (m.bytes.length : Int) ≤ 2000
instance (m : Img) : Decidable (imgOk m) := by unfold imgOk; infer_instance
def regsB (hi : Int) : Int → List Region → Bool
 | _, [] => true
 | at_, r :: l => decide (at_ ≤ r.from_ ∧ r.from_ < r.to ∧ r.to ≤ hi) && regsB hi r.to l
def memB (m : Memo) : Bool := decide (imgOk m.what ∧ (m.regions.length : Int) ≤ 3) && regsB (m.what.base + m.what.bytes.length) m.what.base m.regions
def C_impl_ImageValid : Con := { ps := [.ro (.st .img)], out := fun x => let m : Img := x.1; vc .bool (decide (imgOk m)), det := true }
abbrev L_impl_ImageValid : List (Nat × Con) := [(110, C_impl_isBase)]
def G_impl_ImageValid : Cfg := GK L_impl_ImageValid
def an_impl_ImageValid : PTL C_impl_ImageValid.ps → Nat → Option Ann := fun _ _ => none
theorem vc_impl_ImageValid (m : Img) : (KP Tryz.f50 G_impl_ImageValid C_impl_ImageValid an_impl_ImageValid (m, ())) = ((decide (isBase m.base) = true →
 m.bytes.length ≤ 9223372036854775807 →
 decide (LN m.bytes ≤ 2000) = decide (imgOk m) ∧ True) ∧ (decide (isBase m.base) = false →
 false = decide (imgOk m) ∧ True)) := by kernel_rfl
theorem det_impl_ImageValid : C_impl_ImageValid.det = true → ∀ x, (C_impl_ImageValid.out x).Det := fun _ _ => Det.vc'
theorem ok_impl_ImageValid : ConOK Tryz.prog 50 C_impl_ImageValid := by
 refine con_q (l := L_impl_ImageValid) ⟨⟨ok_impl_isBase, det_impl_isBase⟩, trivial⟩ Tryz.func50 rfl (by decide) (by kernel_rfl) rfl an_impl_ImageValid fun x ho hx => ?_
 obtain ⟨m, ⟨⟩⟩ := x
 refine Keeps.of (vc_impl_ImageValid m) ?_
 revert m ho hx
 show ∀ (m : Img), _
 intro m ho hx
 dsimp only [C_impl_ImageValid, okPTL, okPT, Ok, Ty.cells, SN.cells, OkL, OkC, okI, ci, cb, cs, cl] at ho
 dsimp only [C_impl_ImageValid, vc, v1, decB, SR.pre] at hx
 (try delta i64 LN); simp only [decide_eq_true_eq, decide_eq_false_iff_not, Bool.not_eq_true', Bool.not_eq_false', and_true, true_and, and_assoc, Int.toNat_natCast, exists_eq_left', exists_eq_left, exists_and_left, Int.not_lt, Int.not_le, Bool.false_eq_true, false_implies, implies_true, forall_const, List.length_append, List.length_cons, List.length_nil, Int.sub_add_cancel, Int.add_sub_cancel]
 grind [imgOk]
def C_impl_MemoryValid : Con := { ps := [.ro (.st .mem)], out := fun x => let m : Memo := x.1; vc .bool (memB m), det := true }
abbrev L_impl_MemoryValid : List (Nat × Con) := [(50, C_impl_ImageValid)]
def G_impl_MemoryValid : Cfg := GK L_impl_MemoryValid
def an_impl_MemoryValid : PTL C_impl_MemoryValid.ps → Nat → Option Ann := fun x kk_ => let m : Memo := x.1; if kk_ = 5 then some (.all (Int) fun i => .all (Int) fun a => .giv (imgOk m.what ∧ (m.regions.length : Int) ≤ 3 ∧ 0 ≤ i ∧ i ≤ m.regions.length ∧ regsB (m.what.base + m.what.bytes.length) m.what.base m.regions = regsB (m.what.base + m.what.bytes.length) a (m.regions.drop i.toNat)) (.mk [(3, ai a), (20, al (.st .region) m.regions), (22, ai i), (1, aref 61), (21, ai (List.length m.regions))] [(61, bx (ast .mem m))] ((m.regions.length - i.toNat)))) else none
theorem vc_impl_MemoryValid (m : Memo) : (KP Tryz.f53 G_impl_MemoryValid C_impl_MemoryValid an_impl_MemoryValid (m, ())) = ((Bool.not (decide (imgOk m.what)) = true →
 false = memB m ∧ True) ∧ (Bool.not (decide (imgOk m.what)) = false →
 m.regions.length ≤ 9223372036854775807 →
 (decide (3 < LN m.regions) = true →
 false = memB m ∧ True) ∧ (decide (3 < LN m.regions) = false →
 m.regions.length ≤ 9223372036854775807 →
 (∃ (a : Int), (∃ (b : Int), m.what.base = b ∧ m.regions = m.regions ∧ 0 = a ∧ LN m.regions = LN m.regions ∧ m.what.base = m.what.base ∧ m.what.bytes = m.what.bytes ∧ m.regions = m.regions ∧ (imgOk m.what ∧ LN m.regions ≤ 3 ∧ 0 ≤ a ∧ a ≤ LN m.regions ∧ regsB (m.what.base + LN m.what.bytes) m.what.base m.regions = regsB (m.what.base + LN m.what.bytes) b (m.regions.drop a.toNat)) ∧ True)) ∧ (∀ (c : Int), (∀ (d : Int), imgOk m.what ∧ LN m.regions ≤ 3 ∧ 0 ≤ c ∧ c ≤ LN m.regions ∧ regsB (m.what.base + LN m.what.bytes) m.what.base m.regions = regsB (m.what.base + LN m.what.bytes) d (m.regions.drop c.toNat) →
 (decide (c < LN m.regions) = true →
 (0 ≤ c ∧ c < LN m.regions) ∧ (∀ (e : Region), m.regions[c.toNat]? = some e →
 Ok (Ty.st SN.region) e →
 (decide (e.from_ < d) = true →
 false = memB m ∧ True) ∧ (decide (e.from_ < d) = false →
 (decide (e.to ≤ e.from_) = true →
 false = memB m ∧ True) ∧ (decide (e.to ≤ e.from_) = false →
 m.what.bytes.length ≤ 9223372036854775807 →
 i64 (m.what.base + LN m.what.bytes) ∧ (decide (m.what.base + LN m.what.bytes < e.to) = true →
 false = memB m ∧ True) ∧ (decide (m.what.base + LN m.what.bytes < e.to) = false →
 i64 (c + 1) ∧ (∃ (f : Int), (∃ (g : Int), e.to = g ∧ m.regions = m.regions ∧ c + 1 = f ∧ LN m.regions = LN m.regions ∧ m.what.base = m.what.base ∧ m.what.bytes = m.what.bytes ∧ m.regions = m.regions ∧ (imgOk m.what ∧ LN m.regions ≤ 3 ∧ 0 ≤ f ∧ f ≤ LN m.regions ∧ regsB (m.what.base + LN m.what.bytes) m.what.base m.regions = regsB (m.what.base + LN m.what.bytes) g (m.regions.drop f.toNat)) ∧ m.regions.length - f.toNat < m.regions.length - c.toNat))))))) ∧ (decide (c < LN m.regions) = false →
 true = memB m ∧ True)))))) := by kernel_rfl
theorem det_impl_MemoryValid : C_impl_MemoryValid.det = true → ∀ x, (C_impl_MemoryValid.out x).Det := fun _ _ => Det.vc'
theorem ok_impl_MemoryValid : ConOK Tryz.prog 53 C_impl_MemoryValid := by
 refine con_q (l := L_impl_MemoryValid) ⟨⟨ok_impl_ImageValid, det_impl_ImageValid⟩, trivial⟩ Tryz.func53 rfl (by decide) (by kernel_rfl) rfl an_impl_MemoryValid fun x ho hx => ?_
 obtain ⟨m, ⟨⟩⟩ := x
 refine Keeps.of (vc_impl_MemoryValid m) ?_
 revert m ho hx
 show ∀ (m : Memo), _
 intro m ho hx
 dsimp only [C_impl_MemoryValid, okPTL, okPT, Ok, Ty.cells, SN.cells, OkL, OkC, okI, ci, cb, cs, cl] at ho
 dsimp only [C_impl_MemoryValid, vc, v1, decB, SR.pre] at hx
 (try delta i64 LN); simp only [VBt]; (repeat' first | intro _ | apply And.intro); all_goals (try omega); all_goals (try have hdr := drop_get' (l := m.regions) (by assumption) (by assumption)); all_goals grind [memB, regsB, drop_end, imgOk, isBase]
end Go.Proofs.YtfdngmkmeeaeeaaGreat
