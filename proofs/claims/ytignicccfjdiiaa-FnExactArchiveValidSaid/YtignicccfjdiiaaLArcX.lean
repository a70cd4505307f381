/- The law that archives are valid as the reference says. -/
import Derived.Test.YtignicccfjdiiaaFamP
import Derived.Test.YtignicccfjdiiaaArc
import Derived.Test.YtignicccfjdiiaaHead
set_option linter.unusedVariables false
set_option linter.unusedSimpArgs false
namespace Go.Proofs.Ytignicccfjdiiaa
open Go Go.RowKit Go.ChangeShapes Go.WideShapes Go.Deep


def C_laws_FnExactArchiveValid : Con := { ps := [.ro (.list (.st .member))], out := fun x => let l : List (Member) := x.1; vc .bool true, det := true }
abbrev L_laws_FnExactArchiveValid : List (Nat × Con) := [(19, C_laws_szMemberS), (20, C_laws_toMemberS), (17, C_spec_ArchiveValid), (16, C_impl_ArchiveValid), (21, C_laws_eqMemberS)]
def G_laws_FnExactArchiveValid : Cfg := mkG (tyL tys_) L_laws_FnExactArchiveValid false
def an_laws_FnExactArchiveValid : PTL C_laws_FnExactArchiveValid.ps → Nat → Option Ann := fun _ _ => none
set_option maxRecDepth 200000 in
theorem vc_laws_FnExactArchiveValid (l : List (Member)) : (keeps Try.prog G_laws_FnExactArchiveValid (an_laws_FnExactArchiveValid (l, ())) (Try.f4.body.getD .skip) Try.f4.results.toList C_laws_FnExactArchiveValid (l, ())) = (((((0 : Int) ≤ (1048576 : Int)) ∧
 ((1048576 : Int) ≤ (1048576 : Int))) ∧
 ((((decide ((szR ((LN l) + (@sumI Member szMb l)) (1048576 : Int)) < 0)) = true) →
 ((true = true) ∧
 True)) ∧
 (((decide ((szR ((LN l) + (@sumI Member szMb l)) (1048576 : Int)) < 0)) = false) →
 ((((LN l) + (@sumI Member szMb l)) ≤ 1048576) ∧
 ((((LN l) + (@sumI Member szMb l)) ≤ 1048576) ∧
 ((((decide ((archB l) ≠ (archB l))) = true) →
 ((false = true) ∧
 True)) ∧
 (((decide ((archB l) ≠ (archB l))) = false) →
 ((((LN l) + (@sumI Member szMb l)) ≤ 1048576) ∧
 ((((Bool.not (decide (@Eq (List Member) l l))) = true) →
 ((false = true) ∧
 True)) ∧
 (((Bool.not (decide (@Eq (List Member) l l))) = false) →
 ((true = true) ∧
 True)))))))))))) := by kernel_rfl
theorem det_laws_FnExactArchiveValid : C_laws_FnExactArchiveValid.det = true → ∀ x, (C_laws_FnExactArchiveValid.out x).Det := fun _ _ => Det.vc'
set_option maxRecDepth 200000 in
set_option maxHeartbeats 4000000 in
theorem ok_laws_FnExactArchiveValid : ConOK Try.prog 4 C_laws_FnExactArchiveValid := by
  refine con_mk (wr := false) (ty := tyL tys_) (l := L_laws_FnExactArchiveValid) ⟨⟨ok_laws_szMemberS, det_laws_szMemberS⟩, ⟨⟨ok_laws_toMemberS, det_laws_toMemberS⟩, ⟨⟨ok_spec_ArchiveValid, det_spec_ArchiveValid⟩, ⟨⟨ok_impl_ArchiveValid, det_impl_ArchiveValid⟩, ⟨⟨ok_laws_eqMemberS, det_laws_eqMemberS⟩, trivial⟩⟩⟩⟩⟩ Try.checked.mixed (fn := Try.f4) (body := Try.f4.body.getD .skip) Try.func4 rfl (by decide) (by kernel_rfl) rfl an_laws_FnExactArchiveValid fun x ho hx => ?_
  obtain ⟨l, ⟨⟩⟩ := x
  refine Keeps.of (vc_laws_FnExactArchiveValid l) ?_
  revert l ho hx
  show ∀ (l : List (Member)), _
  intro l ho hx
  dsimp only [C_laws_FnExactArchiveValid, okPTL, okPT, Ok, Ty.cells, SN.cells, OkL, OkC, okI, ci, cb, cs, cl] at ho
  dsimp only [C_laws_FnExactArchiveValid, vc, v1, decB, SR.pre] at hx
  (try delta i64 LN); simp only [VBt]; (repeat' first | intro _ | apply And.intro); all_goals (try omega); all_goals (try grind [szR])

theorem rd_s : Reads Try.prog 9 [.str] := reads_string Try.underlying9
theorem rd_i : Reads Try.prog 3 [.i] := reads_int Try.underlying3
theorem rd_u : Reads Try.prog 5 [.u] := reads_u8 Try.underlying5
theorem rd_uL : Reads Try.prog 22 [(.list .u)] := reads_slice (t' := .u) Try.underlying22 (by kernel_rfl) (by decide) rd_u
theorem rd_fixup : Reads Try.prog 177 (SN.sig .fixup) := reads_fs (sig := SN.sig .fixup) Try.underlying177 (by kernel_rfl) (fs_cons (sig := [.i]) rfl (by kernel_rfl) rd_i (fs_cons (sig := [.i]) rfl (by kernel_rfl) rd_i (fs_cons (sig := [.i]) rfl (by kernel_rfl) rd_i (fs_cons (sig := [.i]) rfl (by kernel_rfl) rd_i fs_nil))))
theorem rd_fixupL : Reads Try.prog 159 [(.list (.st .fixup))] := reads_slice (t' := (.st .fixup)) Try.underlying159 (by kernel_rfl) (by decide) rd_fixup
theorem rd_sect : Reads Try.prog 161 (SN.sig .sect) := reads_fs (sig := SN.sig .sect) Try.underlying161 (by kernel_rfl) (fs_cons (sig := [.str]) rfl (by kernel_rfl) rd_s (fs_cons (sig := [.i]) rfl (by kernel_rfl) rd_i (fs_cons (sig := [.i]) rfl (by kernel_rfl) rd_i (fs_cons (sig := [(.list .u)]) rfl (by kernel_rfl) rd_uL (fs_cons (sig := [.i]) rfl (by kernel_rfl) rd_i (fs_cons (sig := [(.list (.st .fixup))]) rfl (by kernel_rfl) rd_fixupL fs_nil))))))
theorem rd_sectL : Reads Try.prog 97 [(.list (.st .sect))] := reads_slice (t' := (.st .sect)) Try.underlying97 (by kernel_rfl) (by decide) rd_sect
theorem rd_sym : Reads Try.prog 163 (SN.sig .sym) := reads_fs (sig := SN.sig .sym) Try.underlying163 (by kernel_rfl) (fs_cons (sig := [.str]) rfl (by kernel_rfl) rd_s (fs_cons (sig := [.i]) rfl (by kernel_rfl) rd_i (fs_cons (sig := [.i]) rfl (by kernel_rfl) rd_i (fs_cons (sig := [.i]) rfl (by kernel_rfl) rd_i fs_nil))))
theorem rd_symL : Reads Try.prog 98 [(.list (.st .sym))] := reads_slice (t' := (.st .sym)) Try.underlying98 (by kernel_rfl) (by decide) rd_sym
theorem rd_obj : Reads Try.prog 100 (SN.sig .obj) := reads_fs (sig := SN.sig .obj) Try.underlying100 (by kernel_rfl) (fs_cons (sig := [(.list (.st .sect))]) rfl (by kernel_rfl) rd_sectL (fs_cons (sig := [(.list (.st .sym))]) rfl (by kernel_rfl) rd_symL fs_nil))
theorem rd_member : Reads Try.prog 102 (SN.sig .member) := reads_fs (sig := SN.sig .member) Try.underlying102 (by kernel_rfl) (fs_cons (sig := [.str]) rfl (by kernel_rfl) rd_s (fs_cons (sig := [(.list (.st .sect)), (.list (.st .sym))]) rfl (by kernel_rfl) rd_obj fs_nil))
theorem rd_memberL : Reads Try.prog 34 [(.list (.st .member))] := reads_slice (t' := (.st .member)) Try.underlying34 (by kernel_rfl) (by decide) rd_member
set_option maxRecDepth 100000 in
theorem lifted_FnExactArchiveValid (os : Os) (started : os.Started) (H : Type) (enc : TypeId × Value → H) :
    ReturnsInHanded {} Try.checked os 4 .any (Rows.fnExactArchiveValidSpec.pre6 enc Try.prog Try.f4 Rows.fnExactArchiveValidRow.domain false) (Rows.fnExactArchiveValidSpec.post enc Try.prog Try.f4 false true false false) := by
  refine returnsInHanded_of_change (C := Try.checked) head_own started (by kernel_rfl) Try.func4
    (ChangeSpec.witness6 (enc := enc) (C := Try.checked) false ⟨#[], #[.slice none 0 0], []⟩ 8 (by kernel_rfl) (by kernel_rfl) (by kernel_rfl) (by kernel_rfl)) ?_
  intro W base args ds gs before hval0 hW _ _
  have hval : ∀ (j : Nat) t v, Try.f4.params[j]? = some t → args[j]? = some v → Value.okWide Try.prog W .any base t v := hval0
  have hW' := hW
  obtain ⟨p, q, hA0, hV, rfl, hfz, hnd⟩ := hW
  have hA : DataW.TrodAll enc Try.prog W 0 (fun _ => true) true Try.f4.params.toList args.toList ds p := hA0
  rw [Try.params4] at hA hval
  obtain ⟨v0, vs0, d0, ds0, p0, q0, hargs, rfl, rfl, h0, r0⟩ := trodAll_cons hA
  obtain ⟨rfl, rfl, rfl⟩ := trodAll_nil r0
  obtain rfl : args = #[v0] := by cases args; simp_all
  obtain ⟨rfl, rfl⟩ := trodVars_none hV
  have k0 := h0
  obtain ⟨x0, g0⟩ := open_slice1 Try.underlying34 rd_memberL (hval 0 34 v0 rfl rfl) h0
  clear hA0 hval0 hval
  refine (law_calls ok_laws_FnExactArchiveValid (x0, ()) rfl rfl (W := W) (vals := [v0]) ⟨g0, trivial⟩).mono fun e W' ⟨he, bel⟩ => ?_
  subst he
  exact ⟨_, rfl, _, _, _, [], _, [], hW', trodAll_mk1 (shut_bool Try.underlying4 _), (trodAll_cons_mk (Below.trod head_laid (by kernel_rfl) (of_decide_eq_true (by kernel_rfl)) k0 bel (trod_lt_ k0)) trodAll_mk0), rfl, bel.frame _, fun h => by cases h⟩

theorem over_FnExactArchiveValid : Rows.fnExactArchiveValidRow.holds Try.pinned (OpenSpec.ofChange Rows.fnExactArchiveValidSpec) :=
  OpenClaim.holds_of_wide 4 Try.f4 rfl rfl rfl rfl rfl rfl rfl ⟨rfl, rfl, rfl, rfl, rfl⟩ rfl rfl rfl rfl rfl (by kernel_rfl) Try.func4 (joined_of head_laid head_rowed head_stops head_stopk head_heard head_enter (show (Rows.fnExactArchiveValidRow.lifted == Try.prog.liftsFinal) = true by rw [head_final]; rfl) (show (Try.prog.make == some Rows.fnExactArchiveValidRow.make) = true by rw [head_make]; rfl) (by kernel_rfl))
    (of_decide_eq_true (by kernel_rfl)) (by unfold Func.isWrapper; first | (rw [if_pos (by decide +kernel)]; kernel_rfl) | (rw [if_neg (by decide +kernel)]; exact ⟨rfl, rfl⟩))
    (fun os started H enc _ => lifted_FnExactArchiveValid os started H enc)

theorem proved_FnExactArchiveValid : Rows.FnExactArchiveValidSaid := over_FnExactArchiveValid
#print axioms proved_FnExactArchiveValid

end Go.Proofs.Ytignicccfjdiiaa
