/- Archives that are valid: both packages keep the same contracts. -/
import Derived.Test.YtfdngmkmeeaeeaaGreatObjVa
import Derived.Test.YtfdngmkmeeaeeaaGreatTakDa
set_option linter.unusedVariables false
set_option linter.unusedSimpArgs false
set_option maxRecDepth 200000
set_option maxHeartbeats 4000000
namespace Go.Proofs.YtfdngmkmeeaeeaaGreat
open Go Go.RowKit


def C_impl_ArchiveValid_1 : Con := { ps := [.ro (.st .member)], out := fun x => let m : Member := x.1; vc .bool (!memOk m), det := true }
abbrev L_impl_ArchiveValid_1 : List (Nat × Con) := [(148, C_impl_NameValid), (38, C_impl_ObjectValid)]
def G_impl_ArchiveValid_1 : Cfg := GK L_impl_ArchiveValid_1
def an_impl_ArchiveValid_1 : PTL C_impl_ArchiveValid_1.ps → Nat → Option Ann := fun _ _ => none
theorem vc_impl_ArchiveValid_1 (m : Member) : (KP Tryz.f147 G_impl_ArchiveValid_1 C_impl_ArchiveValid_1 an_impl_ArchiveValid_1 (m, ())) = ((Bool.not (nameB m.name) = true →
 true = Bool.not (memOk m) ∧ True) ∧ (Bool.not (nameB m.name) = false →
 Bool.not (objB m.what) = Bool.not (memOk m) ∧ True)) := by kernel_rfl
theorem det_impl_ArchiveValid_1 : C_impl_ArchiveValid_1.det = true → ∀ x, (C_impl_ArchiveValid_1.out x).Det := fun _ _ => Det.vc'
theorem ok_impl_ArchiveValid_1 : ConOK Tryz.prog 147 C_impl_ArchiveValid_1 := by
 refine con_q (l := L_impl_ArchiveValid_1) ⟨⟨ok_impl_NameValid, det_impl_NameValid⟩, ⟨⟨ok_impl_ObjectValid, det_impl_ObjectValid⟩, trivial⟩⟩ Tryz.func147 rfl (by decide) (by kernel_rfl) rfl an_impl_ArchiveValid_1 fun x ho hx => ?_
 obtain ⟨m, ⟨⟩⟩ := x
 refine Keeps.of (vc_impl_ArchiveValid_1 m) ?_
 revert m ho hx
 show ∀ (m : Member), _
 intro m ho hx
 dsimp only [C_impl_ArchiveValid_1, okPTL, okPT, Ok, Ty.cells, SN.cells, OkL, OkC, okI, ci, cb, cs, cl] at ho
 dsimp only [C_impl_ArchiveValid_1, vc, v1, decB, SR.pre] at hx
 (try delta i64 LN); simp only [VBt]; (repeat' first | intro _ | apply And.intro); all_goals (try omega); all_goals (try grind [memOk])
def C_slices_IndexFunc_impl_Member_impl_Member : Con := { ps := [.ro (.list (.st .member)), .fn 147 []], out := fun x => let l : List (Member) := x.1; let f : (Unit) := x.2.1; vc .i (ixF (fun m => !memOk m) l 0), det := true }
abbrev L_slices_IndexFunc_impl_Member_impl_Member : List (Nat × Con) := [(147, C_impl_ArchiveValid_1)]
def G_slices_IndexFunc_impl_Member_impl_Member : Cfg := GK L_slices_IndexFunc_impl_Member_impl_Member
def an_slices_IndexFunc_impl_Member_impl_Member : PTL C_slices_IndexFunc_impl_Member_impl_Member.ps → Nat → Option Ann := fun x kk_ => let l : List (Member) := x.1; let f : (Unit) := x.2.1; if kk_ = 2 then some (.all (Int) fun i => .giv (0 ≤ i ∧ i ≤ l.length ∧ ixF (fun m => !memOk m) l 0 = ixF (fun m => !memOk m) (l.drop i.toNat) i) (.mk [(1, .one (.fn 147 [])), (8, ai i), (0, al (.st .member) l), (7, ai (List.length l))] [] ((l.length - i.toNat)))) else none
theorem vc_slices_IndexFunc_impl_Member_impl_Member (l : List (Member)) (f : (Unit)) : (KP Tryz.f184 G_slices_IndexFunc_impl_Member_impl_Member C_slices_IndexFunc_impl_Member_impl_Member an_slices_IndexFunc_impl_Member_impl_Member (l, f, ())) = (l.length ≤ 9223372036854775807 →
 (∃ (a : Int), 0 = a ∧ l = l ∧ LN l = LN l ∧ (0 ≤ a ∧ a ≤ LN l ∧ @ixF Member (fun (b : Member) => Bool.not (memOk b)) l (0 : Int) = @ixF Member (fun (c : Member) => Bool.not (memOk c)) (l.drop a.toNat) a) ∧ True) ∧ (∀ (d : Int), 0 ≤ d ∧ d ≤ LN l ∧ @ixF Member (fun (e : Member) => Bool.not (memOk e)) l (0 : Int) = @ixF Member (fun (g : Member) => Bool.not (memOk g)) (l.drop d.toNat) d →
 (decide (d < LN l) = true →
 (0 ≤ d ∧ d < LN l) ∧ (∀ (h : Member), l[d.toNat]? = some h →
 Ok (Ty.st SN.member) h →
 (Bool.not (memOk h) = true →
 d = @ixF Member (fun (i : Member) => Bool.not (memOk i)) l (0 : Int) ∧ True) ∧ (Bool.not (memOk h) = false →
 i64 (d + 1) ∧ (∃ (j : Int), d + 1 = j ∧ l = l ∧ LN l = LN l ∧ (0 ≤ j ∧ j ≤ LN l ∧ @ixF Member (fun (k : Member) => Bool.not (memOk k)) l (0 : Int) = @ixF Member (fun (m : Member) => Bool.not (memOk m)) (l.drop j.toNat) j) ∧ l.length - j.toNat < l.length - d.toNat)))) ∧ (decide (d < LN l) = false →
 (- (1 : Int)) = @ixF Member (fun (n : Member) => Bool.not (memOk n)) l (0 : Int) ∧ True))) := by kernel_rfl
theorem det_slices_IndexFunc_impl_Member_impl_Member : C_slices_IndexFunc_impl_Member_impl_Member.det = true → ∀ x, (C_slices_IndexFunc_impl_Member_impl_Member.out x).Det := fun _ _ => Det.vc'
theorem ok_slices_IndexFunc_impl_Member_impl_Member : ConOK Tryz.prog 184 C_slices_IndexFunc_impl_Member_impl_Member := by
 refine con_q (l := L_slices_IndexFunc_impl_Member_impl_Member) ⟨⟨ok_impl_ArchiveValid_1, det_impl_ArchiveValid_1⟩, trivial⟩ Tryz.func184 rfl (by decide) (by kernel_rfl) rfl an_slices_IndexFunc_impl_Member_impl_Member fun x ho hx => ?_
 obtain ⟨l, f, ⟨⟩⟩ := x
 refine Keeps.of (vc_slices_IndexFunc_impl_Member_impl_Member l f) ?_
 revert l f ho hx
 show ∀ (l : List (Member)) (f : (Unit)), _
 intro l f ho hx
 dsimp only [C_slices_IndexFunc_impl_Member_impl_Member, okPTL, okPT, Ok, Ty.cells, SN.cells, OkL, OkC, okI, ci, cb, cs, cl] at ho
 dsimp only [C_slices_IndexFunc_impl_Member_impl_Member, vc, v1, decB, SR.pre] at hx
 (try delta i64 LN); simp only [VBt]; (repeat' first | intro _ | apply And.intro); all_goals (try omega); all_goals (try have hdr := drop_get' (l := l) (by assumption) (by assumption)); all_goals (try grind [ixF, drop_end])
def C_slices_ContainsFunc_impl_Member_impl_Member : Con := { ps := [.ro (.list (.st .member)), .fn 147 []], out := fun x => let l : List (Member) := x.1; let f : (Unit) := x.2.1; vc .bool (!l.all memOk), det := true }
abbrev L_slices_ContainsFunc_impl_Member_impl_Member : List (Nat × Con) := [(184, C_slices_IndexFunc_impl_Member_impl_Member)]
def G_slices_ContainsFunc_impl_Member_impl_Member : Cfg := GK L_slices_ContainsFunc_impl_Member_impl_Member
def an_slices_ContainsFunc_impl_Member_impl_Member : PTL C_slices_ContainsFunc_impl_Member_impl_Member.ps → Nat → Option Ann := fun _ _ => none
theorem vc_slices_ContainsFunc_impl_Member_impl_Member (l : List (Member)) (f : (Unit)) : (KP Tryz.f146 G_slices_ContainsFunc_impl_Member_impl_Member C_slices_ContainsFunc_impl_Member_impl_Member an_slices_ContainsFunc_impl_Member_impl_Member (l, f, ())) = (decide (0 ≤ @ixF Member (fun (a : Member) => Bool.not (memOk a)) l (0 : Int)) = Bool.not (@List.all Member l memOk) ∧ True) := by kernel_rfl
theorem det_slices_ContainsFunc_impl_Member_impl_Member : C_slices_ContainsFunc_impl_Member_impl_Member.det = true → ∀ x, (C_slices_ContainsFunc_impl_Member_impl_Member.out x).Det := fun _ _ => Det.vc'
theorem ok_slices_ContainsFunc_impl_Member_impl_Member : ConOK Tryz.prog 146 C_slices_ContainsFunc_impl_Member_impl_Member := by
 refine con_q (l := L_slices_ContainsFunc_impl_Member_impl_Member) ⟨⟨ok_slices_IndexFunc_impl_Member_impl_Member, det_slices_IndexFunc_impl_Member_impl_Member⟩, trivial⟩ Tryz.func146 rfl (by decide) (by kernel_rfl) rfl an_slices_ContainsFunc_impl_Member_impl_Member fun x ho hx => ?_
 obtain ⟨l, f, ⟨⟩⟩ := x
 refine Keeps.of (vc_slices_ContainsFunc_impl_Member_impl_Member l f) ?_
 revert l f ho hx
 show ∀ (l : List (Member)) (f : (Unit)), _
 intro l f ho hx
 dsimp only [C_slices_ContainsFunc_impl_Member_impl_Member, okPTL, okPT, Ok, Ty.cells, SN.cells, OkL, OkC, okI, ci, cb, cs, cl] at ho
 dsimp only [C_slices_ContainsFunc_impl_Member_impl_Member, vc, v1, decB, SR.pre] at hx
 have h := ixF_all (p := memOk) (l := l) (k := 0) (by omega)
 (try delta i64 LN); simp only [VBt]; (repeat' first | intro _ | apply And.intro); all_goals (try omega); all_goals (try grind)
def C_impl_ArchiveValid : Con := { ps := [.ro (.list (.st .member))], out := fun x => let l : List (Member) := x.1; vc .bool (archB l), det := true }
abbrev L_impl_ArchiveValid : List (Nat × Con) := [(146, C_slices_ContainsFunc_impl_Member_impl_Member)]
def G_impl_ArchiveValid : Cfg := GK L_impl_ArchiveValid
def an_impl_ArchiveValid : PTL C_impl_ArchiveValid.ps → Nat → Option Ann := fun _ _ => none
theorem vc_impl_ArchiveValid (l : List (Member)) : (KP Tryz.f86 G_impl_ArchiveValid C_impl_ArchiveValid an_impl_ArchiveValid (l, ())) = (l.length ≤ 9223372036854775807 →
 (decide (LN l ≤ 4) = true →
 Bool.not (Bool.not (@List.all Member l memOk)) = archB l ∧ True) ∧ (decide (LN l ≤ 4) = false →
 false = archB l ∧ True)) := by kernel_rfl
theorem det_impl_ArchiveValid : C_impl_ArchiveValid.det = true → ∀ x, (C_impl_ArchiveValid.out x).Det := fun _ _ => Det.vc'
theorem ok_impl_ArchiveValid : ConOK Tryz.prog 86 C_impl_ArchiveValid := by
 refine con_q (l := L_impl_ArchiveValid) ⟨⟨ok_slices_ContainsFunc_impl_Member_impl_Member, det_slices_ContainsFunc_impl_Member_impl_Member⟩, trivial⟩ Tryz.func86 rfl (by decide) (by kernel_rfl) rfl an_impl_ArchiveValid fun x ho hx => ?_
 obtain ⟨l, ⟨⟩⟩ := x
 refine Keeps.of (vc_impl_ArchiveValid l) ?_
 revert l ho hx
 show ∀ (l : List (Member)), _
 intro l ho hx
 dsimp only [C_impl_ArchiveValid, okPTL, okPT, Ok, Ty.cells, SN.cells, OkL, OkC, okI, ci, cb, cs, cl] at ho
 dsimp only [C_impl_ArchiveValid, vc, v1, decB, SR.pre] at hx
 (try delta i64 LN); simp only [VBt]; (repeat' first | intro _ | apply And.intro); all_goals (try omega); all_goals (try grind [archB])
def C_spec_ArchiveValid : Con := { ps := [.ro (.list (.st .member))], out := fun x => let l : List (Member) := x.1; vc .bool (archB l), det := true }
abbrev L_spec_ArchiveValid : List (Nat × Con) := [(114, C_spec_NameValid), (36, C_spec_ObjectValid)]
def G_spec_ArchiveValid : Cfg := GK L_spec_ArchiveValid
def an_spec_ArchiveValid : PTL C_spec_ArchiveValid.ps → Nat → Option Ann := fun x kk_ => let l : List (Member) := x.1; if kk_ = 2 then some (.all (Int) fun i => .giv (0 ≤ i ∧ i ≤ l.length ∧ l.all memOk = (l.drop i.toNat).all memOk) (.mk [(3, ai i), (0, al (.st .member) l)] [] ((l.length - i.toNat)))) else none
theorem vc_spec_ArchiveValid (l : List (Member)) : (KP Tryz.f56 G_spec_ArchiveValid C_spec_ArchiveValid an_spec_ArchiveValid (l, ())) = ((∃ (a : Int), 0 = a ∧ l = l ∧ (0 ≤ a ∧ a ≤ LN l ∧ @List.all Member l memOk = @List.all Member (l.drop a.toNat) memOk) ∧ True) ∧ (∀ (b : Int), 0 ≤ b ∧ b ≤ LN l ∧ @List.all Member l memOk = @List.all Member (l.drop b.toNat) memOk →
 l.length ≤ 9223372036854775807 →
 (decide (b < LN l) = true →
 (0 ≤ b ∧ b < LN l) ∧ (∀ (c : Member), l[b.toNat]? = some c →
 Ok (Ty.st SN.member) c →
 (Bool.not (nameB c.name) = true →
 false = archB l ∧ True) ∧ (Bool.not (nameB c.name) = false →
 (0 ≤ b ∧ b < LN l) ∧ (∀ (d : Member), l[b.toNat]? = some d →
 Ok (Ty.st SN.member) d →
 (Bool.not (objB d.what) = true →
 false = archB l ∧ True) ∧ (Bool.not (objB d.what) = false →
 i64 (b + 1) ∧ (∃ (e : Int), b + 1 = e ∧ l = l ∧ (0 ≤ e ∧ e ≤ LN l ∧ @List.all Member l memOk = @List.all Member (l.drop e.toNat) memOk) ∧ l.length - e.toNat < l.length - b.toNat)))))) ∧ (decide (b < LN l) = false →
 l.length ≤ 9223372036854775807 →
 decide (LN l ≤ 4) = archB l ∧ True))) := by kernel_rfl
theorem det_spec_ArchiveValid : C_spec_ArchiveValid.det = true → ∀ x, (C_spec_ArchiveValid.out x).Det := fun _ _ => Det.vc'
theorem ok_spec_ArchiveValid : ConOK Tryz.prog 56 C_spec_ArchiveValid := by
 refine con_q (l := L_spec_ArchiveValid) ⟨⟨ok_spec_NameValid, det_spec_NameValid⟩, ⟨⟨ok_spec_ObjectValid, det_spec_ObjectValid⟩, trivial⟩⟩ Tryz.func56 rfl (by decide) (by kernel_rfl) rfl an_spec_ArchiveValid fun x ho hx => ?_
 obtain ⟨l, ⟨⟩⟩ := x
 refine Keeps.of (vc_spec_ArchiveValid l) ?_
 revert l ho hx
 show ∀ (l : List (Member)), _
 intro l ho hx
 dsimp only [C_spec_ArchiveValid, okPTL, okPT, Ok, Ty.cells, SN.cells, OkL, OkC, okI, ci, cb, cs, cl] at ho
 dsimp only [C_spec_ArchiveValid, vc, v1, decB, SR.pre] at hx
 (try delta i64 LN); simp +contextual only [VBt]; (repeat' first | intro _ | apply And.intro); all_goals (try omega); all_goals (try grind [archB, memOk, all_at, all_end])
end Go.Proofs.YtfdngmkmeeaeeaaGreat
