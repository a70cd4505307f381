/- The laws on archives. -/
import Derived.Test.YtignicccfjdiiaaDrawL
import Derived.Test.YtignicccfjdiiaaArc
import Derived.Test.YtignicccfjdiiaaHead
set_option linter.unusedVariables false
set_option linter.unusedSimpArgs false
namespace Go.Proofs.Ytignicccfjdiiaa
open Go Go.RowKit Go.ChangeShapes Go.WideShapes Go.Deep


theorem archB_part {l : List Member} {k n : Nat} (h : archB l = true) : archB ((l.drop k).take n) = true := by
  simp only [archB, Bool.and_eq_true, decide_eq_true_eq] at *
  refine ⟨by rw [List.length_take, List.length_drop]; omega, ?_⟩
  rw [List.all_eq_true] at *
  exact fun m hm => h.2 m (List.mem_of_mem_drop (List.mem_of_mem_take hm))
theorem archB_bad {l : List Member} : archB (l ++ [⟨⟨⟨[]⟩⟩, ⟨[], []⟩⟩]) = false := by
  have : memOk ⟨⟨⟨[]⟩⟩, ⟨[], []⟩⟩ = false := by decide
  simp [archB, List.all_append, this]
def C_laws_FnArchiveValid : Con := { ps := [.ro (.list .u)], out := fun x => let c : List (Int) := x.1; vc .bool true, det := true }
abbrev L_laws_FnArchiveValid : List (Nat × Con) := [(15, C_spec_DrawArchiveValid), (16, C_impl_ArchiveValid), (17, C_spec_ArchiveValid), (18, C_laws_alive)]
def G_laws_FnArchiveValid : Cfg := mkG (tyL tys_) L_laws_FnArchiveValid false
def an_laws_FnArchiveValid : PTL C_laws_FnArchiveValid.ps → Nat → Option Ann := fun _ _ => none
set_option maxRecDepth 200000 in
theorem vc_laws_FnArchiveValid (c : List (Int)) : (keeps Try.prog G_laws_FnArchiveValid (an_laws_FnArchiveValid (c, ())) (Try.f3.body.getD .skip) Try.f3.results.toList C_laws_FnArchiveValid (c, ())) = ((((List.length c) ≤ 9223372036854775807) →
 ((((decide (1048576 < (LN c))) = true) →
 ((true = true) ∧
 True)) ∧
 (((decide (1048576 < (LN c))) = false) →
 (∀ (x_1 : (List Member)), ((((List.length x_1) ≤ 6) ∧
 ((mbsA x_1) = true)) →
 ((((decide ((archB x_1) ≠ (archB x_1))) = true) →
 ((false = true) ∧
 True)) ∧
 (((decide ((archB x_1) ≠ (archB x_1))) = false) →
 ((((Bool.not (archB x_1)) = true) →
 (((((0 + (List.length x_1)) * 64) ≤ 140737488355328) ∧
 ((0 + (List.length x_1)) ≤ 1000000000000)) ∧
 ((((((List.length x_1) + 1) * 64) ≤ 140737488355328) ∧
 (((List.length x_1) + 1) ≤ 1000000000000)) ∧
 ((((Bool.not (archB (x_1 ++ [(Member.mk (ByteArray.mk (@Array.mk UInt8 ([] : List UInt8))) (Objt.mk ([] : List Sect) ([] : List Sym)))]))) = true) →
 ((true = true) ∧
 True)) ∧
 (((Bool.not (archB (x_1 ++ [(Member.mk (ByteArray.mk (@Array.mk UInt8 ([] : List UInt8))) (Objt.mk ([] : List Sect) ([] : List Sym)))]))) = false) →
 ((false = true) ∧
 True)))))) ∧
 (((Bool.not (archB x_1)) = false) →
 (((List.length x_1) ≤ 9223372036854775807) →
 (((0 ≤ (LN x_1)) ∧
 ((0 : Int) < (2 : Int))) ∧
 (((0 ≤ ((LN x_1) / 2)) ∧
 (((LN x_1) / 2) ≤ (LN x_1))) ∧
 ((((archB (List.take ((List.length x_1) - (Int.toNat ((LN x_1) / 2))) (List.drop (Int.toNat ((LN x_1) / 2)) x_1))) = true) →
 (((((0 + (List.length x_1)) * 64) ≤ 140737488355328) ∧
 ((0 + (List.length x_1)) ≤ 1000000000000)) ∧
 ((((((List.length x_1) + 1) * 64) ≤ 140737488355328) ∧
 (((List.length x_1) + 1) ≤ 1000000000000)) ∧
 ((((Bool.not (archB (x_1 ++ [(Member.mk (ByteArray.mk (@Array.mk UInt8 ([] : List UInt8))) (Objt.mk ([] : List Sect) ([] : List Sym)))]))) = true) →
 ((true = true) ∧
 True)) ∧
 (((Bool.not (archB (x_1 ++ [(Member.mk (ByteArray.mk (@Array.mk UInt8 ([] : List UInt8))) (Objt.mk ([] : List Sect) ([] : List Sym)))]))) = false) →
 ((false = true) ∧
 True)))))) ∧
 (((archB (List.take ((List.length x_1) - (Int.toNat ((LN x_1) / 2))) (List.drop (Int.toNat ((LN x_1) / 2)) x_1))) = false) →
 ((false = true) ∧
 True)))))))))))))))) := by kernel_rfl
theorem det_laws_FnArchiveValid : C_laws_FnArchiveValid.det = true → ∀ x, (C_laws_FnArchiveValid.out x).Det := fun _ _ => Det.vc'
set_option maxRecDepth 200000 in
set_option maxHeartbeats 4000000 in
theorem ok_laws_FnArchiveValid : ConOK Try.prog 3 C_laws_FnArchiveValid := by
  refine con_mk (wr := false) (ty := tyL tys_) (l := L_laws_FnArchiveValid) ⟨⟨ok_spec_DrawArchiveValid, det_spec_DrawArchiveValid⟩, ⟨⟨ok_impl_ArchiveValid, det_impl_ArchiveValid⟩, ⟨⟨ok_spec_ArchiveValid, det_spec_ArchiveValid⟩, ⟨⟨ok_laws_alive, det_laws_alive⟩, trivial⟩⟩⟩⟩ Try.checked.mixed (fn := Try.f3) (body := Try.f3.body.getD .skip) Try.func3 rfl (by decide) (by kernel_rfl) rfl an_laws_FnArchiveValid fun x ho hx => ?_
  obtain ⟨c, ⟨⟩⟩ := x
  refine Keeps.of (vc_laws_FnArchiveValid c) ?_
  revert c ho hx
  show ∀ (c : List (Int)), _
  intro c ho hx
  dsimp only [C_laws_FnArchiveValid, okPTL, okPT, Ok, Ty.cells, SN.cells, OkL, OkC, okI, ci, cb, cs, cl] at ho
  dsimp only [C_laws_FnArchiveValid, vc, v1, decB, SR.pre] at hx
  have h1 := @archB_part
  have h2 := @archB_bad
  (try delta i64 LN); simp only [DRt, ex_sect2]; (repeat' first | apply And.intro | (intro x hq _; replace hq := List.mem_of_getElem? hq; simp only [List.mem_cons, List.not_mem_nil, or_false] at hq) | intro _); all_goals (try omega)
  all_goals (try grind)

theorem rd_u : Reads Try.prog 5 [.u] := reads_u8 Try.underlying5
theorem rd_uL : Reads Try.prog 22 [(.list .u)] := reads_slice (t' := .u) Try.underlying22 (by kernel_rfl) (by decide) rd_u
set_option maxRecDepth 100000 in
theorem lifted_FnArchiveValid (os : Os) (started : os.Started) (H : Type) (enc : TypeId × Value → H) :
    ReturnsInHanded {} Try.checked os 3 .any (Rows.fnArchiveValidSpec.pre6 enc Try.prog Try.f3 Rows.fnArchiveValidRow.domain false) (Rows.fnArchiveValidSpec.post enc Try.prog Try.f3 false true false false) := by
  refine returnsInHanded_of_change (C := Try.checked) head_own started (by kernel_rfl) Try.func3
    (ChangeSpec.witness6 (enc := enc) (C := Try.checked) false ⟨#[], #[.slice none 0 0], []⟩ 8 (by kernel_rfl) (by kernel_rfl) (by kernel_rfl) (by kernel_rfl)) ?_
  intro W base args ds gs before hval0 hW _ _
  have hval : ∀ (j : Nat) t v, Try.f3.params[j]? = some t → args[j]? = some v → Value.okWide Try.prog W .any base t v := hval0
  have hW' := hW
  obtain ⟨p, q, hA0, hV, rfl, hfz, hnd⟩ := hW
  have hA : DataW.TrodAll enc Try.prog W 0 (fun _ => true) true Try.f3.params.toList args.toList ds p := hA0
  rw [Try.params3] at hA hval
  obtain ⟨v0, vs0, d0, ds0, p0, q0, hargs, rfl, rfl, h0, r0⟩ := trodAll_cons hA
  obtain ⟨rfl, rfl, rfl⟩ := trodAll_nil r0
  obtain rfl : args = #[v0] := by cases args; simp_all
  obtain ⟨rfl, rfl⟩ := trodVars_none hV
  have k0 := h0
  obtain ⟨x0, g0⟩ := open_slice1 Try.underlying22 rd_uL (hval 0 22 v0 rfl rfl) h0
  clear hA0 hval0 hval
  refine (law_calls ok_laws_FnArchiveValid (x0, ()) rfl rfl (W := W) (vals := [v0]) ⟨g0, trivial⟩).mono fun e W' ⟨he, bel⟩ => ?_
  subst he
  exact ⟨_, rfl, _, _, _, [], _, [], hW', trodAll_mk1 (shut_bool Try.underlying4 _), (trodAll_cons_mk (Below.trod head_laid (by kernel_rfl) (of_decide_eq_true (by kernel_rfl)) k0 bel (trod_lt_ k0)) trodAll_mk0), rfl, bel.frame _, fun h => by cases h⟩

theorem over_FnArchiveValid : Rows.fnArchiveValidRow.holds Try.pinned (OpenSpec.ofChange Rows.fnArchiveValidSpec) :=
  OpenClaim.holds_of_wide 3 Try.f3 rfl rfl rfl rfl rfl rfl rfl ⟨rfl, rfl, rfl, rfl, rfl⟩ rfl rfl rfl rfl rfl (by kernel_rfl) Try.func3 (joined_of head_laid head_rowed head_stops head_stopk head_heard head_enter (show (Rows.fnArchiveValidRow.lifted == Try.prog.liftsFinal) = true by rw [head_final]; rfl) (show (Try.prog.make == some Rows.fnArchiveValidRow.make) = true by rw [head_make]; rfl) (by kernel_rfl))
    (of_decide_eq_true (by kernel_rfl)) (by unfold Func.isWrapper; first | (rw [if_pos (by decide +kernel)]; kernel_rfl) | (rw [if_neg (by decide +kernel)]; exact ⟨rfl, rfl⟩))
    (fun os started H enc _ => lifted_FnArchiveValid os started H enc)

theorem proved_FnArchiveValid : Rows.FnArchiveValidSaid := over_FnArchiveValid
#print axioms proved_FnArchiveValid

end Go.Proofs.Ytignicccfjdiiaa
