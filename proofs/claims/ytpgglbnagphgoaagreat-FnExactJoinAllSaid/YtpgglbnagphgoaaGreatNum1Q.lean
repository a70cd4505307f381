/- Numbers: small functions of both packages keep their contracts. -/
import Derived.Test.YtpgglbnagphgoaaGreatVmP4Q
import Derived.Test.YtpgglbnagphgoaaGreatChecked
set_option linter.unusedVariables false
set_option linter.unusedSimpArgs false
set_option maxRecDepth 200000
set_option maxHeartbeats 4000000
namespace Go.Proofs.YtpgglbnagphgoaaGreat
open Go Go.RowKit


abbrev tys_ : List (Nat × Ty) := [(3, .i), (5, .u), (4, .bool), (9, .str), (161, .int .u64), (71, .st .fixup), (69, .st .sect), (64, .st .sym), (26, .st .obj), (41, .st .given), (34, .st .img), (62, .list .i), (38, .list .str), (22, .list .u), (163, .st .fixup), (138, .st .sect), (140, .st .sym), (94, .st .obj)]
abbrev GK (l : List (Nat × Con)) : Cfg := mkG (tyL tys_) l false
abbrev KP (f : Func) (Γ : Cfg) (C : Con) (an : PTL C.ps → Nat → Option Ann) (x : PTL C.ps) : Prop := keeps Tryz.prog Γ (an x) (f.body.getD .skip) f.results.toList C x
theorem con_q {l : List (Nat × Con)} (h : Cons Tryz.prog l) {f : FuncId} {C : Con} {fn : Func} (hf : Tryz.prog.funcs[f]? = some fn) (hb : fn.body = some (fn.body.getD .skip)) (hname : (fn.name == "runtime.NumGoroutine") = false) (hcode : codeOk fn.ntmps (fn.body.getD .skip) = true)
  (hn : Nat.ble C.ps.length fn.ntmps = true) (an : PTL C.ps → Nat → Option Ann) (hk : ∀ x, okPTL C.ps x → (C.out x).pre → Keeps Tryz.prog (GK l) (an x) (fn.body.getD .skip) fn.results.toList C x) : ConOK Tryz.prog f C := con_mk h Tryz.checked.mixed hf hb hname hcode hn an hk
def i64 (e : Int) : Prop := -9223372036854775808 ≤ e ∧ e ≤ 9223372036854775807
def LN {α : Type} (l : List α) : Int := (l.length : Int)
def alg (n a : Int) : Int := (n + a - 1) / a * a
def alignUp (n a : Int) : Int := if (a = 1 ∨ a = 2 ∨ a = 4 ∨ a = 8) ∧ 0 ≤ n ∧ n ≤ 1000000 then (n + a - 1) / a * a else -1
def isBase (n : Int) : Prop := 0 ≤ n ∧ n ≤ 4096 ∧ n % 8 = 0
instance (n : Int) : Decidable (isBase n) := by unfold isBase; infer_instance
def fixWide (k : Int) : Int := if k = 1 then 1 else if k = 2 then 2 else if k = 3 then 4 else 0

def C_impl_within : Con := { ps := [.ro .i, .ro .i, .ro .i], out := fun x => let n : Int := x.1; let lo : Int := x.2.1; let hi : Int := x.2.2.1; vc .bool (decide (lo ≤ n ∧ n ≤ hi)), det := true }
abbrev L_impl_within : List (Nat × Con) := []
def G_impl_within : Cfg := GK L_impl_within
def an_impl_within : PTL C_impl_within.ps → Nat → Option Ann := fun _ _ => none
theorem vc_impl_within (n : Int) (lo : Int) (hi : Int) : (KP Tryz.f78 G_impl_within C_impl_within an_impl_within (n, lo, hi, ())) = ((decide (lo ≤ n) = true →
 decide (n ≤ hi) = decide (lo ≤ n ∧ n ≤ hi) ∧ True) ∧ (decide (lo ≤ n) = false →
 false = decide (lo ≤ n ∧ n ≤ hi) ∧ True)) := by kernel_rfl
theorem det_impl_within : C_impl_within.det = true → ∀ x, (C_impl_within.out x).Det := fun _ _ => Det.vc'
theorem ok_impl_within : ConOK Tryz.prog 78 C_impl_within := by
 refine con_q (l := L_impl_within) trivial Tryz.func78 rfl (by decide) (by kernel_rfl) rfl an_impl_within fun x ho hx => ?_
 obtain ⟨n, lo, hi, ⟨⟩⟩ := x
 refine Keeps.of (vc_impl_within n lo hi) ?_
 revert n lo hi ho hx
 show ∀ (n : Int) (lo : Int) (hi : Int), _
 intro n lo hi ho hx
 dsimp only [C_impl_within, okPTL, okPT, Ok, Ty.cells, SN.cells, OkL, OkC, okI, ci, cb, cs, cl] at ho
 dsimp only [C_impl_within, vc, v1, decB, SR.pre] at hx
 simp only [decide_eq_true_eq, decide_eq_false_iff_not]
 refine ⟨fun h => ⟨?_, trivial⟩, fun h => ⟨?_, trivial⟩⟩ <;> simp [h]
def C_spec_l1In : Con := { ps := [.ro .i, .ro .i, .ro .i], out := fun x => let n : Int := x.1; let lo : Int := x.2.1; let hi : Int := x.2.2.1; vc .bool (decide (lo ≤ n ∧ n ≤ hi)), det := true }
abbrev L_spec_l1In : List (Nat × Con) := []
def G_spec_l1In : Cfg := GK L_spec_l1In
def an_spec_l1In : PTL C_spec_l1In.ps → Nat → Option Ann := fun _ _ => none
theorem vc_spec_l1In (n : Int) (lo : Int) (hi : Int) : (KP Tryz.f110 G_spec_l1In C_spec_l1In an_spec_l1In (n, lo, hi, ())) = ((decide (lo ≤ n) = true →
 decide (n ≤ hi) = decide (lo ≤ n ∧ n ≤ hi) ∧ True) ∧ (decide (lo ≤ n) = false →
 false = decide (lo ≤ n ∧ n ≤ hi) ∧ True)) := by kernel_rfl
theorem det_spec_l1In : C_spec_l1In.det = true → ∀ x, (C_spec_l1In.out x).Det := fun _ _ => Det.vc'
theorem ok_spec_l1In : ConOK Tryz.prog 110 C_spec_l1In := by
 refine con_q (l := L_spec_l1In) trivial Tryz.func110 rfl (by decide) (by kernel_rfl) rfl an_spec_l1In fun x ho hx => ?_
 obtain ⟨n, lo, hi, ⟨⟩⟩ := x
 refine Keeps.of (vc_spec_l1In n lo hi) ?_
 revert n lo hi ho hx
 show ∀ (n : Int) (lo : Int) (hi : Int), _
 intro n lo hi ho hx
 dsimp only [C_spec_l1In, okPTL, okPT, Ok, Ty.cells, SN.cells, OkL, OkC, okI, ci, cb, cs, cl] at ho
 dsimp only [C_spec_l1In, vc, v1, decB, SR.pre] at hx
 simp only [decide_eq_true_eq, decide_eq_false_iff_not]
 refine ⟨fun h => ⟨?_, trivial⟩, fun h => ⟨?_, trivial⟩⟩ <;> simp [h]
def C_impl_isAlign : Con := { ps := [.ro .i], out := fun x => let n : Int := x.1; vc .bool (decide (n = 1 ∨ n = 2 ∨ n = 4 ∨ n = 8)), det := true }
abbrev L_impl_isAlign : List (Nat × Con) := []
def G_impl_isAlign : Cfg := GK L_impl_isAlign
def an_impl_isAlign : PTL C_impl_isAlign.ps → Nat → Option Ann := fun _ _ => none
theorem vc_impl_isAlign (n : Int) : (KP Tryz.f77 G_impl_isAlign C_impl_isAlign an_impl_isAlign (n, ())) = ((decide (n = 1) = true →
 true = decide (n = 1 ∨ n = 2 ∨ n = 4 ∨ n = 8) ∧ True) ∧ (decide (n = 1) = false →
 (decide (n = 2) = true →
 true = decide (n = 1 ∨ n = 2 ∨ n = 4 ∨ n = 8) ∧ True) ∧ (decide (n = 2) = false →
 (decide (n = 4) = true →
 true = decide (n = 1 ∨ n = 2 ∨ n = 4 ∨ n = 8) ∧ True) ∧ (decide (n = 4) = false →
 decide (n = 8) = decide (n = 1 ∨ n = 2 ∨ n = 4 ∨ n = 8) ∧ True)))) := by kernel_rfl
theorem det_impl_isAlign : C_impl_isAlign.det = true → ∀ x, (C_impl_isAlign.out x).Det := fun _ _ => Det.vc'
theorem ok_impl_isAlign : ConOK Tryz.prog 77 C_impl_isAlign := by
 refine con_q (l := L_impl_isAlign) trivial Tryz.func77 rfl (by decide) (by kernel_rfl) rfl an_impl_isAlign fun x ho hx => ?_
 obtain ⟨n, ⟨⟩⟩ := x
 refine Keeps.of (vc_impl_isAlign n) ?_
 revert n ho hx
 show ∀ (n : Int), _
 intro n ho hx
 dsimp only [C_impl_isAlign, okPTL, okPT, Ok, Ty.cells, SN.cells, OkL, OkC, okI, ci, cb, cs, cl] at ho
 dsimp only [C_impl_isAlign, vc, v1, decB, SR.pre] at hx
 (try delta i64 LN); simp only [decide_eq_true_eq, decide_eq_false_iff_not, Bool.not_eq_true', Bool.not_eq_false', and_true, true_and, Int.toNat_natCast, exists_eq_left', exists_eq_left, exists_and_left, Int.not_lt, Int.not_le, Bool.false_eq_true, false_implies, implies_true, forall_const, List.length_append, List.length_cons, List.length_nil, Int.sub_add_cancel, Int.add_sub_cancel]
 grind
def C_spec_AlignUp : Con := { ps := [.ro .i, .ro .i], out := fun x => let n : Int := x.1; let a : Int := x.2.1; vc .i (alignUp n a), det := true }
abbrev L_spec_AlignUp : List (Nat × Con) := [(110, C_spec_l1In)]
def G_spec_AlignUp : Cfg := GK L_spec_AlignUp
def an_spec_AlignUp : PTL C_spec_AlignUp.ps → Nat → Option Ann := fun _ _ => none
theorem vc_spec_AlignUp (n : Int) (a : Int) : (KP Tryz.f111 G_spec_AlignUp C_spec_AlignUp an_spec_AlignUp (n, a, ())) = ((Bool.not (decide (0 ≤ n ∧ n ≤ 1000000)) = true →
 (- (1 : Int)) = alignUp n a ∧ True) ∧ (Bool.not (decide (0 ≤ n ∧ n ≤ 1000000)) = false →
 (decide (a ≠ 1) = true →
 (decide (a ≠ 2) = true →
 (decide (a ≠ 4) = true →
 (decide (a ≠ 8) = true →
 (- (1 : Int)) = alignUp n a ∧ True) ∧ (decide (a ≠ 8) = false →
 i64 (n + a) ∧ i64 (n + a - 1) ∧ (0 ≤ n + a - 1 ∧ 0 < a) ∧ i64 ((n + a - 1) / a * a) ∧ (n + a - 1) / a * a = alignUp n a ∧ True)) ∧ (decide (a ≠ 4) = false →
 i64 (n + a) ∧ i64 (n + a - 1) ∧ (0 ≤ n + a - 1 ∧ 0 < a) ∧ i64 ((n + a - 1) / a * a) ∧ (n + a - 1) / a * a = alignUp n a ∧ True)) ∧ (decide (a ≠ 2) = false →
 i64 (n + a) ∧ i64 (n + a - 1) ∧ (0 ≤ n + a - 1 ∧ 0 < a) ∧ i64 ((n + a - 1) / a * a) ∧ (n + a - 1) / a * a = alignUp n a ∧ True)) ∧ (decide (a ≠ 1) = false →
 i64 (n + a) ∧ i64 (n + a - 1) ∧ (0 ≤ n + a - 1 ∧ 0 < a) ∧ i64 ((n + a - 1) / a * a) ∧ (n + a - 1) / a * a = alignUp n a ∧ True))) := by kernel_rfl
theorem det_spec_AlignUp : C_spec_AlignUp.det = true → ∀ x, (C_spec_AlignUp.out x).Det := fun _ _ => Det.vc'
theorem ok_spec_AlignUp : ConOK Tryz.prog 111 C_spec_AlignUp := by
 refine con_q (l := L_spec_AlignUp) ⟨⟨ok_spec_l1In, det_spec_l1In⟩, trivial⟩ Tryz.func111 rfl (by decide) (by kernel_rfl) rfl an_spec_AlignUp fun x ho hx => ?_
 obtain ⟨n, a, ⟨⟩⟩ := x
 refine Keeps.of (vc_spec_AlignUp n a) ?_
 revert n a ho hx
 show ∀ (n : Int) (a : Int), _
 intro n a ho hx
 dsimp only [C_spec_AlignUp, okPTL, okPT, Ok, Ty.cells, SN.cells, OkL, OkC, okI, ci, cb, cs, cl] at ho
 dsimp only [C_spec_AlignUp, vc, v1, decB, SR.pre] at hx
 (try delta i64 LN); simp only [decide_eq_true_eq, decide_eq_false_iff_not, Bool.not_eq_true', Bool.not_eq_false', and_true, true_and, Int.toNat_natCast, exists_eq_left', exists_eq_left, exists_and_left, Int.not_lt, Int.not_le, Bool.false_eq_true, false_implies, implies_true, forall_const, List.length_append, List.length_cons, List.length_nil, Int.sub_add_cancel, Int.add_sub_cancel]
 rcases (by omega : a = 1 ∨ a = 2 ∨ a = 4 ∨ a = 8 ∨ (a ≠ 1 ∧ a ≠ 2 ∧ a ≠ 4 ∧ a ≠ 8)) with rfl | rfl | rfl | rfl | h
 all_goals grind [alignUp]
def C_impl_isAdd : Con := { ps := [.ro .i], out := fun x => let n : Int := x.1; vc .bool (decide (-1000 ≤ n ∧ n ≤ 1000)), det := true }
abbrev L_impl_isAdd : List (Nat × Con) := [(78, C_impl_within)]
def G_impl_isAdd : Cfg := GK L_impl_isAdd
def an_impl_isAdd : PTL C_impl_isAdd.ps → Nat → Option Ann := fun _ _ => none
theorem vc_impl_isAdd (n : Int) : (KP Tryz.f89 G_impl_isAdd C_impl_isAdd an_impl_isAdd (n, ())) = (decide ((- (1000 : Int)) ≤ n ∧ n ≤ 1000) = decide ((- (1000 : Int)) ≤ n ∧ n ≤ 1000) ∧ True) := by kernel_rfl
theorem det_impl_isAdd : C_impl_isAdd.det = true → ∀ x, (C_impl_isAdd.out x).Det := fun _ _ => Det.vc'
theorem ok_impl_isAdd : ConOK Tryz.prog 89 C_impl_isAdd := by
 refine con_q (l := L_impl_isAdd) ⟨⟨ok_impl_within, det_impl_within⟩, trivial⟩ Tryz.func89 rfl (by decide) (by kernel_rfl) rfl an_impl_isAdd fun x ho hx => ?_
 obtain ⟨n, ⟨⟩⟩ := x
 refine Keeps.of (vc_impl_isAdd n) ?_
 revert n ho hx
 show ∀ (n : Int), _
 intro n ho hx
 dsimp only [C_impl_isAdd, okPTL, okPT, Ok, Ty.cells, SN.cells, OkL, OkC, okI, ci, cb, cs, cl] at ho
 dsimp only [C_impl_isAdd, vc, v1, decB, SR.pre] at hx
 (try delta i64 LN); simp only [decide_eq_true_eq, decide_eq_false_iff_not, Bool.not_eq_true', Bool.not_eq_false', and_true, true_and, Int.toNat_natCast, exists_eq_left', exists_eq_left, exists_and_left, Int.not_lt, Int.not_le, Bool.false_eq_true, false_implies, implies_true, forall_const, List.length_append, List.length_cons, List.length_nil, Int.sub_add_cancel, Int.add_sub_cancel]
def C_impl_FixupWide : Con := { ps := [.ro .i], out := fun x => let k : Int := x.1; vc .i (fixWide k), det := true }
abbrev L_impl_FixupWide : List (Nat × Con) := []
def G_impl_FixupWide : Cfg := GK L_impl_FixupWide
def an_impl_FixupWide : PTL C_impl_FixupWide.ps → Nat → Option Ann := fun _ _ => none
theorem vc_impl_FixupWide (k : Int) : (KP Tryz.f83 G_impl_FixupWide C_impl_FixupWide an_impl_FixupWide (k, ())) = ((decide (k = 1) = true →
 1 = fixWide k ∧ True) ∧ (decide (k = 1) = false →
 (decide (k = 2) = true →
 2 = fixWide k ∧ True) ∧ (decide (k = 2) = false →
 (decide (k = 3) = true →
 4 = fixWide k ∧ True) ∧ (decide (k = 3) = false →
 0 = fixWide k ∧ True)))) := by kernel_rfl
theorem det_impl_FixupWide : C_impl_FixupWide.det = true → ∀ x, (C_impl_FixupWide.out x).Det := fun _ _ => Det.vc'
theorem ok_impl_FixupWide : ConOK Tryz.prog 83 C_impl_FixupWide := by
 refine con_q (l := L_impl_FixupWide) trivial Tryz.func83 rfl (by decide) (by kernel_rfl) rfl an_impl_FixupWide fun x ho hx => ?_
 obtain ⟨k, ⟨⟩⟩ := x
 refine Keeps.of (vc_impl_FixupWide k) ?_
 revert k ho hx
 show ∀ (k : Int), _
 intro k ho hx
 dsimp only [C_impl_FixupWide, okPTL, okPT, Ok, Ty.cells, SN.cells, OkL, OkC, okI, ci, cb, cs, cl] at ho
 dsimp only [C_impl_FixupWide, vc, v1, decB, SR.pre] at hx
 (try delta i64 LN); simp only [decide_eq_true_eq, decide_eq_false_iff_not, Bool.not_eq_true', Bool.not_eq_false', and_true, true_and, Int.toNat_natCast, exists_eq_left', exists_eq_left, exists_and_left, Int.not_lt, Int.not_le, Bool.false_eq_true, false_implies, implies_true, forall_const, List.length_append, List.length_cons, List.length_nil, Int.sub_add_cancel, Int.add_sub_cancel]
 grind [alignUp, isBase, fixWide]
def C_spec_FixupWide : Con := { ps := [.ro .i], out := fun x => let k : Int := x.1; vc .i (fixWide k), det := true }
abbrev L_spec_FixupWide : List (Nat × Con) := [(110, C_spec_l1In)]
def G_spec_FixupWide : Cfg := GK L_spec_FixupWide
def an_spec_FixupWide : PTL C_spec_FixupWide.ps → Nat → Option Ann := fun _ _ => none
theorem vc_spec_FixupWide (k : Int) : (KP Tryz.f103 G_spec_FixupWide C_spec_FixupWide an_spec_FixupWide (k, ())) = ((Bool.not (decide (1 ≤ k ∧ k ≤ 3)) = true →
 0 = fixWide k ∧ True) ∧ (Bool.not (decide (1 ≤ k ∧ k ≤ 3)) = false →
 i64 (k - 1) ∧ (0 ≤ k - 1 ∧ k - 1 < @Nat.cast Int _ (3 : Nat)) ∧ (∀ (a : Int), [(1 : Int), (2 : Int), (4 : Int)][(k - 1).toNat]? = some a →
 Ok (Ty.int IntKind.i64) a →
 a = fixWide k ∧ True))) := by kernel_rfl
theorem det_spec_FixupWide : C_spec_FixupWide.det = true → ∀ x, (C_spec_FixupWide.out x).Det := fun _ _ => Det.vc'
theorem ok_spec_FixupWide : ConOK Tryz.prog 103 C_spec_FixupWide := by
 refine con_q (l := L_spec_FixupWide) ⟨⟨ok_spec_l1In, det_spec_l1In⟩, trivial⟩ Tryz.func103 rfl (by decide) (by kernel_rfl) rfl an_spec_FixupWide fun x ho hx => ?_
 obtain ⟨k, ⟨⟩⟩ := x
 refine Keeps.of (vc_spec_FixupWide k) ?_
 revert k ho hx
 show ∀ (k : Int), _
 intro k ho hx
 dsimp only [C_spec_FixupWide, okPTL, okPT, Ok, Ty.cells, SN.cells, OkL, OkC, okI, ci, cb, cs, cl] at ho
 dsimp only [C_spec_FixupWide, vc, v1, decB, SR.pre] at hx
 (try delta i64 LN); simp only [decide_eq_true_eq, decide_eq_false_iff_not, Bool.not_eq_true', Bool.not_eq_false', and_true, true_and, Int.toNat_natCast, exists_eq_left', exists_eq_left, exists_and_left, Int.not_lt, Int.not_le, Bool.false_eq_true, false_implies, implies_true, forall_const, List.length_append, List.length_cons, List.length_nil, Int.sub_add_cancel, Int.add_sub_cancel]
 have hk : k = 1 ∨ k = 2 ∨ k = 3 ∨ k < 1 ∨ 3 < k := by omega
 rcases hk with rfl | rfl | rfl | h | h <;> simp [fixWide] <;> grind
end Go.Proofs.YtpgglbnagphgoaaGreat
