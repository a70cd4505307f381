/- Numbers in lists. -/
import Derived.Test.YtpgglbnagphgoaaObjDK
import Derived.Test.YtpgglbnagphgoaaLibK
set_option linter.unusedVariables false
set_option linter.unusedSimpArgs false
set_option maxRecDepth 200000
set_option maxHeartbeats 4000000
namespace Go.Proofs.Ytpgglbnagphgoaa
open Go Go.RowKit


def inI (l : List Int) (k : Int) : Bool := decide (k ∈ l)
theorem inI_iff {l : List Int} {k : Int} : inI l k = true ↔ k ∈ l := by simp [inI]
theorem inI_any {l : List Int} {k : Int} : decide (0 ≤ ixF (fun y => decide (k = y)) l 0) = inI l k := by
 rw [Bool.eq_iff_iff, decide_eq_true_iff, ixF_any (by omega), List.any_eq_true, inI_iff]; simp
def C_slices_Index_int_int : Con := { ps := [.ro (.list .i), .ro .i], out := fun x => let l : List (Int) := x.1; let v : Int := x.2.1; vc .i (ixF (fun y => decide (v = y)) l 0), det := true }
abbrev L_slices_Index_int_int : List (Nat × Con) := []
def G_slices_Index_int_int : Cfg := GK L_slices_Index_int_int
def an_slices_Index_int_int : PTL C_slices_Index_int_int.ps → Nat → Option Ann := fun x kk_ => let l : List (Int) := x.1; let v : Int := x.2.1; if kk_ = 2 then some (.all (Int) fun i => .giv (0 ≤ i ∧ i ≤ l.length ∧ ixF (fun y => decide (v = y)) l 0 = ixF (fun y => decide (v = y)) (l.drop i.toNat) i) (.mk [(8, ai i), (0, al .i l), (1, ai v), (7, ai (List.length l))] [] ((l.length - i.toNat)))) else none
theorem vc_slices_Index_int_int (l : List (Int)) (v : Int) : (KP Try.f88 G_slices_Index_int_int C_slices_Index_int_int an_slices_Index_int_int (l, v, ())) = (l.length ≤ 9223372036854775807 →
 (∃ (a : Int), 0 = a ∧ l = l ∧ v = v ∧ LN l = LN l ∧ (0 ≤ a ∧ a ≤ LN l ∧ @ixF Int (fun (b : Int) => decide (v = b)) l (0 : Int) = @ixF Int (fun (c : Int) => decide (v = c)) (l.drop a.toNat) a) ∧ True) ∧ (∀ (d : Int), 0 ≤ d ∧ d ≤ LN l ∧ @ixF Int (fun (e : Int) => decide (v = e)) l (0 : Int) = @ixF Int (fun (f : Int) => decide (v = f)) (l.drop d.toNat) d →
 (decide (d < LN l) = true →
 (0 ≤ d ∧ d < LN l) ∧ (∀ (g : Int), l[d.toNat]? = some g →
 Ok (Ty.int IntKind.i64) g →
 (decide (v = g) = true →
 d = @ixF Int (fun (h : Int) => decide (v = h)) l (0 : Int) ∧ True) ∧ (decide (v = g) = false →
 i64 (d + 1) ∧ (∃ (i : Int), d + 1 = i ∧ l = l ∧ v = v ∧ LN l = LN l ∧ (0 ≤ i ∧ i ≤ LN l ∧ @ixF Int (fun (j : Int) => decide (v = j)) l (0 : Int) = @ixF Int (fun (k : Int) => decide (v = k)) (l.drop i.toNat) i) ∧ l.length - i.toNat < l.length - d.toNat)))) ∧ (decide (d < LN l) = false →
 (- (1 : Int)) = @ixF Int (fun (m : Int) => decide (v = m)) l (0 : Int) ∧ True))) := by kernel_rfl
theorem det_slices_Index_int_int : C_slices_Index_int_int.det = true → ∀ x, (C_slices_Index_int_int.out x).Det := fun _ _ => Det.vc'
theorem ok_slices_Index_int_int : ConOK Try.prog 88 C_slices_Index_int_int := by
 refine con_q (l := L_slices_Index_int_int) trivial Try.func88 rfl (by decide) (by kernel_rfl) rfl an_slices_Index_int_int fun x ho hx => ?_
 obtain ⟨l, v, ⟨⟩⟩ := x
 refine Keeps.of (vc_slices_Index_int_int l v) ?_
 revert l v ho hx
 show ∀ (l : List (Int)) (v : Int), _
 intro l v ho hx
 dsimp only [C_slices_Index_int_int, okPTL, okPT, Ok, Ty.cells, SN.cells, OkL, OkC, okI, ci, cb, cs, cl] at ho
 dsimp only [C_slices_Index_int_int, vc, v1, decB, SR.pre] at hx
 (try delta i64 LN); simp only [VBt]; (repeat' first | intro _ | apply And.intro); all_goals (try omega); all_goals (try have hdr := drop_get' (l := l) (by assumption) (by assumption)); all_goals grind [ixF, drop_end]
def C_slices_Contains_int_int : Con := { ps := [.ro (.list .i), .ro .i], out := fun x => let l : List (Int) := x.1; let v : Int := x.2.1; vc .bool (inI l v), det := true }
abbrev L_slices_Contains_int_int : List (Nat × Con) := [(88, C_slices_Index_int_int)]
def G_slices_Contains_int_int : Cfg := GK L_slices_Contains_int_int
def an_slices_Contains_int_int : PTL C_slices_Contains_int_int.ps → Nat → Option Ann := fun _ _ => none
theorem vc_slices_Contains_int_int (l : List (Int)) (v : Int) : (KP Try.f42 G_slices_Contains_int_int C_slices_Contains_int_int an_slices_Contains_int_int (l, v, ())) = (decide (0 ≤ @ixF Int (fun (a : Int) => decide (v = a)) l (0 : Int)) = inI l v ∧ True) := by kernel_rfl
theorem det_slices_Contains_int_int : C_slices_Contains_int_int.det = true → ∀ x, (C_slices_Contains_int_int.out x).Det := fun _ _ => Det.vc'
theorem ok_slices_Contains_int_int : ConOK Try.prog 42 C_slices_Contains_int_int := by
 refine con_q (l := L_slices_Contains_int_int) ⟨⟨ok_slices_Index_int_int, det_slices_Index_int_int⟩, trivial⟩ Try.func42 rfl (by decide) (by kernel_rfl) rfl an_slices_Contains_int_int fun x ho hx => ?_
 obtain ⟨l, v, ⟨⟩⟩ := x
 refine Keeps.of (vc_slices_Contains_int_int l v) ?_
 revert l v ho hx
 show ∀ (l : List (Int)) (v : Int), _
 intro l v ho hx
 dsimp only [C_slices_Contains_int_int, okPTL, okPT, Ok, Ty.cells, SN.cells, OkL, OkC, okI, ci, cb, cs, cl] at ho
 dsimp only [C_slices_Contains_int_int, vc, v1, decB, SR.pre] at hx
 have h := @inI_any l v
 (try delta i64 LN); simp only [VBt]; (repeat' first | intro _ | apply And.intro); all_goals (try omega); all_goals grind
end Go.Proofs.Ytpgglbnagphgoaa
