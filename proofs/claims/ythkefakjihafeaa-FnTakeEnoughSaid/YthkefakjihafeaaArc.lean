/- Archives that are valid: both packages keep the same contracts. -/
import Derived.Test.YthkefakjihafeaaObjV
import Derived.Test.YthkefakjihafeaaTakD
set_option linter.unusedVariables false
set_option linter.unusedSimpArgs false
namespace Go.Proofs.Ythkefakjihafeaa
open Go Go.RowKit


def C_impl_ArchiveValid_1 : Con := { ps := [.ro (.st .member)], out := fun x => let m : Member := x.1; vc .bool (!memOk m), det := true }
abbrev L_impl_ArchiveValid_1 : List (Nat × Con) := [(80, C_impl_NameValid), (36, C_impl_ObjectValid)]
def G_impl_ArchiveValid_1 : Cfg := mkG (tyL tys_) L_impl_ArchiveValid_1 false
def an_impl_ArchiveValid_1 : PTL C_impl_ArchiveValid_1.ps → Nat → Option Ann := fun _ _ => none
set_option maxRecDepth 200000 in
theorem vc_impl_ArchiveValid_1 (m : Member) : (keeps Try.prog G_impl_ArchiveValid_1 (an_impl_ArchiveValid_1 (m, ())) (Try.f79.body.getD .skip) Try.f79.results.toList C_impl_ArchiveValid_1 (m, ())) = (((Bool.not (nameB (Member.name m)) = true →
 true = Bool.not (memOk m) ∧ True) ∧ (Bool.not (nameB (Member.name m)) = false →
 Bool.not (objB (Member.what m)) = Bool.not (memOk m) ∧ True))) := by kernel_rfl
theorem det_impl_ArchiveValid_1 : C_impl_ArchiveValid_1.det = true → ∀ x, (C_impl_ArchiveValid_1.out x).Det := fun _ _ => Det.vc'
set_option maxRecDepth 200000 in
set_option maxHeartbeats 4000000 in
theorem ok_impl_ArchiveValid_1 : ConOK Try.prog 79 C_impl_ArchiveValid_1 := by
  refine con_mk (wr := false) (ty := tyL tys_) (l := L_impl_ArchiveValid_1) ⟨⟨ok_impl_NameValid, det_impl_NameValid⟩, ⟨⟨ok_impl_ObjectValid, det_impl_ObjectValid⟩, trivial⟩⟩ Try.checked.mixed (fn := Try.f79) (body := Try.f79.body.getD .skip) Try.func79 rfl (by decide) (by kernel_rfl) rfl an_impl_ArchiveValid_1 fun x ho hx => ?_
  obtain ⟨m, ⟨⟩⟩ := x
  refine Keeps.of (vc_impl_ArchiveValid_1 m) ?_
  revert m ho hx
  show ∀ (m : Member), _
  intro m ho hx
  dsimp only [C_impl_ArchiveValid_1, okPTL, okPT, Ok, Ty.cells, SN.cells, OkL, OkC, okI, ci, cb, cs, cl] at ho
  dsimp only [C_impl_ArchiveValid_1, vc, v1, decB, SR.pre] at hx
  (try delta i64 LN); simp only [VBt]; (repeat' first | intro _ | apply And.intro); all_goals (try omega); all_goals (try grind [memOk])
def C_slices_IndexFunc_impl_Member_impl_Member : Con := { ps := [.ro (.list (.st .member)), .fn 79 []], out := fun x => let l : List (Member) := x.1; let f : (Unit) := x.2.1; vc .i (ixF (fun m => !memOk m) l 0), det := true }
abbrev L_slices_IndexFunc_impl_Member_impl_Member : List (Nat × Con) := [(79, C_impl_ArchiveValid_1)]
def G_slices_IndexFunc_impl_Member_impl_Member : Cfg := mkG (tyL tys_) L_slices_IndexFunc_impl_Member_impl_Member false
def an_slices_IndexFunc_impl_Member_impl_Member : PTL C_slices_IndexFunc_impl_Member_impl_Member.ps → Nat → Option Ann := fun x kk_ => let l : List (Member) := x.1; let f : (Unit) := x.2.1; if kk_ = 2 then some (.all (Int) fun i => .giv (0 ≤ i ∧ i ≤ l.length ∧ ixF (fun m => !memOk m) l 0 = ixF (fun m => !memOk m) (l.drop i.toNat) i) (.mk [(1, .one (.fn 79 [])), (8, ai i), (0, al (.st .member) l), (7, ai (List.length l))] [] ((l.length - i.toNat)))) else none
set_option maxRecDepth 200000 in
theorem vc_slices_IndexFunc_impl_Member_impl_Member (l : List (Member)) (f : (Unit)) : (keeps Try.prog G_slices_IndexFunc_impl_Member_impl_Member (an_slices_IndexFunc_impl_Member_impl_Member (l, f, ())) (Try.f110.body.getD .skip) Try.f110.results.toList C_slices_IndexFunc_impl_Member_impl_Member (l, f, ())) = ((l.length ≤ 9223372036854775807 →
 (∃ (x_1 : Int), 0 = x_1 ∧ @Eq (List Member) l l ∧ LN l = LN l ∧ (0 ≤ x_1 ∧ x_1 ≤ LN l ∧ @ixF Member (fun (m_2 : Member) => Bool.not (memOk m_2)) l (0 : Int) = @ixF Member (fun (m_3 : Member) => Bool.not (memOk m_3)) (l.drop x_1.toNat) x_1) ∧ True) ∧ (∀ (x_4 : Int), 0 ≤ x_4 ∧ x_4 ≤ LN l ∧ @ixF Member (fun (m_5 : Member) => Bool.not (memOk m_5)) l (0 : Int) = @ixF Member (fun (m_6 : Member) => Bool.not (memOk m_6)) (l.drop x_4.toNat) x_4 →
 (decide (x_4 < LN l) = true →
 (0 ≤ x_4 ∧ x_4 < LN l) ∧ (∀ (x_7 : Member), l[x_4.toNat]? = some x_7 →
 Ok (Ty.st SN.member) x_7 →
 (Bool.not (memOk x_7) = true →
 x_4 = @ixF Member (fun (m_8 : Member) => Bool.not (memOk m_8)) l (0 : Int) ∧ True) ∧ (Bool.not (memOk x_7) = false →
 i64 (x_4 + 1) ∧ (∃ (x_9 : Int), x_4 + 1 = x_9 ∧ @Eq (List Member) l l ∧ LN l = LN l ∧ (0 ≤ x_9 ∧ x_9 ≤ LN l ∧ @ixF Member (fun (m_10 : Member) => Bool.not (memOk m_10)) l (0 : Int) = @ixF Member (fun (m_11 : Member) => Bool.not (memOk m_11)) (l.drop x_9.toNat) x_9) ∧ l.length - x_9.toNat < l.length - x_4.toNat)))) ∧ (decide (x_4 < LN l) = false →
 (- (1 : Int)) = @ixF Member (fun (m_12 : Member) => Bool.not (memOk m_12)) l (0 : Int) ∧ True)))) := by kernel_rfl
theorem det_slices_IndexFunc_impl_Member_impl_Member : C_slices_IndexFunc_impl_Member_impl_Member.det = true → ∀ x, (C_slices_IndexFunc_impl_Member_impl_Member.out x).Det := fun _ _ => Det.vc'
set_option maxRecDepth 200000 in
set_option maxHeartbeats 4000000 in
theorem ok_slices_IndexFunc_impl_Member_impl_Member : ConOK Try.prog 110 C_slices_IndexFunc_impl_Member_impl_Member := by
  refine con_mk (wr := false) (ty := tyL tys_) (l := L_slices_IndexFunc_impl_Member_impl_Member) ⟨⟨ok_impl_ArchiveValid_1, det_impl_ArchiveValid_1⟩, trivial⟩ Try.checked.mixed (fn := Try.f110) (body := Try.f110.body.getD .skip) Try.func110 rfl (by decide) (by kernel_rfl) rfl an_slices_IndexFunc_impl_Member_impl_Member fun x ho hx => ?_
  obtain ⟨l, f, ⟨⟩⟩ := x
  refine Keeps.of (vc_slices_IndexFunc_impl_Member_impl_Member l f) ?_
  revert l f ho hx
  show ∀ (l : List (Member)) (f : (Unit)), _
  intro l f ho hx
  dsimp only [C_slices_IndexFunc_impl_Member_impl_Member, okPTL, okPT, Ok, Ty.cells, SN.cells, OkL, OkC, okI, ci, cb, cs, cl] at ho
  dsimp only [C_slices_IndexFunc_impl_Member_impl_Member, vc, v1, decB, SR.pre] at hx
  (try delta i64 LN); simp only [VBt]; (repeat' first | intro _ | apply And.intro); all_goals (try omega); all_goals (try have hdr := drop_get' (l := l) (by assumption) (by assumption)); all_goals (try grind [ixF, drop_end])
def C_slices_ContainsFunc_impl_Member_impl_Member : Con := { ps := [.ro (.list (.st .member)), .fn 79 []], out := fun x => let l : List (Member) := x.1; let f : (Unit) := x.2.1; vc .bool (!l.all memOk), det := true }
abbrev L_slices_ContainsFunc_impl_Member_impl_Member : List (Nat × Con) := [(110, C_slices_IndexFunc_impl_Member_impl_Member)]
def G_slices_ContainsFunc_impl_Member_impl_Member : Cfg := mkG (tyL tys_) L_slices_ContainsFunc_impl_Member_impl_Member false
def an_slices_ContainsFunc_impl_Member_impl_Member : PTL C_slices_ContainsFunc_impl_Member_impl_Member.ps → Nat → Option Ann := fun _ _ => none
set_option maxRecDepth 200000 in
theorem vc_slices_ContainsFunc_impl_Member_impl_Member (l : List (Member)) (f : (Unit)) : (keeps Try.prog G_slices_ContainsFunc_impl_Member_impl_Member (an_slices_ContainsFunc_impl_Member_impl_Member (l, f, ())) (Try.f78.body.getD .skip) Try.f78.results.toList C_slices_ContainsFunc_impl_Member_impl_Member (l, f, ())) = ((decide (0 ≤ @ixF Member (fun (m_1 : Member) => Bool.not (memOk m_1)) l (0 : Int)) = Bool.not (@List.all Member l memOk) ∧ True)) := by kernel_rfl
theorem det_slices_ContainsFunc_impl_Member_impl_Member : C_slices_ContainsFunc_impl_Member_impl_Member.det = true → ∀ x, (C_slices_ContainsFunc_impl_Member_impl_Member.out x).Det := fun _ _ => Det.vc'
set_option maxRecDepth 200000 in
set_option maxHeartbeats 4000000 in
theorem ok_slices_ContainsFunc_impl_Member_impl_Member : ConOK Try.prog 78 C_slices_ContainsFunc_impl_Member_impl_Member := by
  refine con_mk (wr := false) (ty := tyL tys_) (l := L_slices_ContainsFunc_impl_Member_impl_Member) ⟨⟨ok_slices_IndexFunc_impl_Member_impl_Member, det_slices_IndexFunc_impl_Member_impl_Member⟩, trivial⟩ Try.checked.mixed (fn := Try.f78) (body := Try.f78.body.getD .skip) Try.func78 rfl (by decide) (by kernel_rfl) rfl an_slices_ContainsFunc_impl_Member_impl_Member fun x ho hx => ?_
  obtain ⟨l, f, ⟨⟩⟩ := x
  refine Keeps.of (vc_slices_ContainsFunc_impl_Member_impl_Member l f) ?_
  revert l f ho hx
  show ∀ (l : List (Member)) (f : (Unit)), _
  intro l f ho hx
  dsimp only [C_slices_ContainsFunc_impl_Member_impl_Member, okPTL, okPT, Ok, Ty.cells, SN.cells, OkL, OkC, okI, ci, cb, cs, cl] at ho
  dsimp only [C_slices_ContainsFunc_impl_Member_impl_Member, vc, v1, decB, SR.pre] at hx
  have h := ixF_all (p := memOk) (l := l) (k := 0) (by omega)
  (try delta i64 LN); simp only [VBt]; (repeat' first | intro _ | apply And.intro); all_goals (try omega); all_goals (try grind)
def C_impl_ArchiveValid : Con := { ps := [.ro (.list (.st .member))], out := fun x => let l : List (Member) := x.1; vc .bool (archB l), det := true }
abbrev L_impl_ArchiveValid : List (Nat × Con) := [(78, C_slices_ContainsFunc_impl_Member_impl_Member)]
def G_impl_ArchiveValid : Cfg := mkG (tyL tys_) L_impl_ArchiveValid false
def an_impl_ArchiveValid : PTL C_impl_ArchiveValid.ps → Nat → Option Ann := fun _ _ => none
set_option maxRecDepth 200000 in
theorem vc_impl_ArchiveValid (l : List (Member)) : (keeps Try.prog G_impl_ArchiveValid (an_impl_ArchiveValid (l, ())) (Try.f51.body.getD .skip) Try.f51.results.toList C_impl_ArchiveValid (l, ())) = ((l.length ≤ 9223372036854775807 →
 (decide (LN l ≤ 4) = true →
 Bool.not (Bool.not (@List.all Member l memOk)) = archB l ∧ True) ∧ (decide (LN l ≤ 4) = false →
 false = archB l ∧ True))) := by kernel_rfl
theorem det_impl_ArchiveValid : C_impl_ArchiveValid.det = true → ∀ x, (C_impl_ArchiveValid.out x).Det := fun _ _ => Det.vc'
set_option maxRecDepth 200000 in
set_option maxHeartbeats 4000000 in
theorem ok_impl_ArchiveValid : ConOK Try.prog 51 C_impl_ArchiveValid := by
  refine con_mk (wr := false) (ty := tyL tys_) (l := L_impl_ArchiveValid) ⟨⟨ok_slices_ContainsFunc_impl_Member_impl_Member, det_slices_ContainsFunc_impl_Member_impl_Member⟩, trivial⟩ Try.checked.mixed (fn := Try.f51) (body := Try.f51.body.getD .skip) Try.func51 rfl (by decide) (by kernel_rfl) rfl an_impl_ArchiveValid fun x ho hx => ?_
  obtain ⟨l, ⟨⟩⟩ := x
  refine Keeps.of (vc_impl_ArchiveValid l) ?_
  revert l ho hx
  show ∀ (l : List (Member)), _
  intro l ho hx
  dsimp only [C_impl_ArchiveValid, okPTL, okPT, Ok, Ty.cells, SN.cells, OkL, OkC, okI, ci, cb, cs, cl] at ho
  dsimp only [C_impl_ArchiveValid, vc, v1, decB, SR.pre] at hx
  (try delta i64 LN); simp only [VBt]; (repeat' first | intro _ | apply And.intro); all_goals (try omega); all_goals (try grind [archB])
def C_spec_ArchiveValid : Con := { ps := [.ro (.list (.st .member))], out := fun x => let l : List (Member) := x.1; vc .bool (archB l), det := true }
abbrev L_spec_ArchiveValid : List (Nat × Con) := [(85, C_spec_NameValid), (39, C_spec_ObjectValid)]
def G_spec_ArchiveValid : Cfg := mkG (tyL tys_) L_spec_ArchiveValid false
def an_spec_ArchiveValid : PTL C_spec_ArchiveValid.ps → Nat → Option Ann := fun x kk_ => let l : List (Member) := x.1; if kk_ = 2 then some (.all (Int) fun i => .giv (0 ≤ i ∧ i ≤ l.length ∧ l.all memOk = (l.drop i.toNat).all memOk) (.mk [(3, ai i), (0, al (.st .member) l)] [] ((l.length - i.toNat)))) else none
set_option maxRecDepth 200000 in
theorem vc_spec_ArchiveValid (l : List (Member)) : (keeps Try.prog G_spec_ArchiveValid (an_spec_ArchiveValid (l, ())) (Try.f53.body.getD .skip) Try.f53.results.toList C_spec_ArchiveValid (l, ())) = (((∃ (x_1 : Int), 0 = x_1 ∧ @Eq (List Member) l l ∧ (0 ≤ x_1 ∧ x_1 ≤ LN l ∧ @List.all Member l memOk = @List.all Member (l.drop x_1.toNat) memOk) ∧ True) ∧ (∀ (x_2 : Int), 0 ≤ x_2 ∧ x_2 ≤ LN l ∧ @List.all Member l memOk = @List.all Member (l.drop x_2.toNat) memOk →
 l.length ≤ 9223372036854775807 →
 (decide (x_2 < LN l) = true →
 (0 ≤ x_2 ∧ x_2 < LN l) ∧ (∀ (x_3 : Member), l[x_2.toNat]? = some x_3 →
 Ok (Ty.st SN.member) x_3 →
 (Bool.not (nameB (Member.name x_3)) = true →
 false = archB l ∧ True) ∧ (Bool.not (nameB (Member.name x_3)) = false →
 (0 ≤ x_2 ∧ x_2 < LN l) ∧ (∀ (x_4 : Member), l[x_2.toNat]? = some x_4 →
 Ok (Ty.st SN.member) x_4 →
 (Bool.not (objB (Member.what x_4)) = true →
 false = archB l ∧ True) ∧ (Bool.not (objB (Member.what x_4)) = false →
 i64 (x_2 + 1) ∧ (∃ (x_5 : Int), x_2 + 1 = x_5 ∧ @Eq (List Member) l l ∧ (0 ≤ x_5 ∧ x_5 ≤ LN l ∧ @List.all Member l memOk = @List.all Member (l.drop x_5.toNat) memOk) ∧ l.length - x_5.toNat < l.length - x_2.toNat)))))) ∧ (decide (x_2 < LN l) = false →
 l.length ≤ 9223372036854775807 →
 decide (LN l ≤ 4) = archB l ∧ True)))) := by kernel_rfl
theorem det_spec_ArchiveValid : C_spec_ArchiveValid.det = true → ∀ x, (C_spec_ArchiveValid.out x).Det := fun _ _ => Det.vc'
set_option maxRecDepth 200000 in
set_option maxHeartbeats 4000000 in
theorem ok_spec_ArchiveValid : ConOK Try.prog 53 C_spec_ArchiveValid := by
  refine con_mk (wr := false) (ty := tyL tys_) (l := L_spec_ArchiveValid) ⟨⟨ok_spec_NameValid, det_spec_NameValid⟩, ⟨⟨ok_spec_ObjectValid, det_spec_ObjectValid⟩, trivial⟩⟩ Try.checked.mixed (fn := Try.f53) (body := Try.f53.body.getD .skip) Try.func53 rfl (by decide) (by kernel_rfl) rfl an_spec_ArchiveValid fun x ho hx => ?_
  obtain ⟨l, ⟨⟩⟩ := x
  refine Keeps.of (vc_spec_ArchiveValid l) ?_
  revert l ho hx
  show ∀ (l : List (Member)), _
  intro l ho hx
  dsimp only [C_spec_ArchiveValid, okPTL, okPT, Ok, Ty.cells, SN.cells, OkL, OkC, okI, ci, cb, cs, cl] at ho
  dsimp only [C_spec_ArchiveValid, vc, v1, decB, SR.pre] at hx
  (try delta i64 LN); simp +contextual only [VBt]; (repeat' first | intro _ | apply And.intro); all_goals (try omega); all_goals (try grind [archB, memOk, all_at, all_end])
end Go.Proofs.Ythkefakjihafeaa
