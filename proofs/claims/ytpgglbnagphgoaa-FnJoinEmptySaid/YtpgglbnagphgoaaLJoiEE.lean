/- The law on objects that are joined with an empty one. -/
import Derived.Test.YtpgglbnagphgoaaDrawUE
import Derived.Test.YtpgglbnagphgoaaSameOE
import Derived.Test.YtpgglbnagphgoaaJoinE
import Derived.Test.YtpgglbnagphgoaaHeadE
set_option linter.unusedVariables false
set_option linter.unusedSimpArgs false
set_option maxRecDepth 200000
set_option maxHeartbeats 4000000
namespace Go.Proofs.Ytpgglbnagphgoaa
open Go Go.RowKit Go.ChangeShapes Go.WideShapes Go.Deep


theorem NE_selfL {α : Type} {x : α} (h : x ≠ x) : False := h rfl
theorem NT_L (h : ¬ True) : False := h trivial
theorem LE_1 {a b : Objt} (h : joinOk a b = true) (ha : objB a = false) : False := by rw [joinOk_a ha] at h; cases h
theorem LE_2 {a : Objt} (ha : objB a = true) : joinV ⟨[], []⟩ a = a := by rw [joinV_yes (nil_join ha).1, (nil_join ha).2]
theorem LE_3 {a : Objt} (h : ¬ joinV a ⟨[], []⟩ = a) (ha : objB a = true) : False := h (by rw [joinV_yes (join_nil ha).1, (join_nil ha).2])
theorem LE_4 {a : Objt} (h : joinOk ⟨[], []⟩ a = false) (ha : objB a = true) : False := by rw [(nil_join ha).1] at h; cases h
theorem LE_5 {a : Objt} (h : joinOk a ⟨[], []⟩ = false) (ha : objB a = true) : False := by rw [(join_nil ha).1] at h; cases h
def C_laws_FnJoinEmpty : Con := { ps := [.ro (.list .u)], out := fun x => let c : List (Int) := x.1; vc .bool true, det := true }
abbrev L_laws_FnJoinEmpty : List (Nat × Con) := [(6, C_spec_DrawJoinObjects), (7, C_impl_JoinObjects), (8, C_spec_JoinObjects), (9, C_laws_sameObject), (10, C_impl_ObjectValid), (11, C_laws_alive)]
def G_laws_FnJoinEmpty : Cfg := GK L_laws_FnJoinEmpty
def an_laws_FnJoinEmpty : PTL C_laws_FnJoinEmpty.ps → Nat → Option Ann := fun _ _ => none
theorem vc_laws_FnJoinEmpty (c : List (Int)) : (KP Try.f3 G_laws_FnJoinEmpty C_laws_FnJoinEmpty an_laws_FnJoinEmpty (c, ())) = (c.length ≤ 9223372036854775807 →
 (decide (1048576 < LN c) = true →
 true = true ∧ True) ∧ (decide (1048576 < LN c) = false →
 (∀ (a : Objt), (∀ (b : Objt), objSm a = true ∧ objSm b = true →
 (Bool.not (decide (joinV a b = joinV a b)) = true →
 false = true ∧ True) ∧ (Bool.not (decide (joinV a b = joinV a b)) = false →
 (decide (joinOk a b ≠ joinOk a b) = true →
 false = true ∧ True) ∧ (decide (joinOk a b ≠ joinOk a b) = false →
 (Bool.not (objB a) = true →
 (Bool.not (joinOk a b) = true →
 true = true ∧ True) ∧ (Bool.not (joinOk a b) = false →
 false = true ∧ True)) ∧ (Bool.not (objB a) = false →
 (joinOk a (Objt.mk ([] : List Sect) ([] : List Sym)) = true →
 (joinOk (Objt.mk ([] : List Sect) ([] : List Sym)) a = true →
 (decide (joinV a (Objt.mk ([] : List Sect) ([] : List Sym)) = a) = true →
 decide (joinV (Objt.mk ([] : List Sect) ([] : List Sym)) a = a) = true ∧ True) ∧ (decide (joinV a (Objt.mk ([] : List Sect) ([] : List Sym)) = a) = false →
 false = true ∧ True)) ∧ (joinOk (Objt.mk ([] : List Sect) ([] : List Sym)) a = false →
 false = true ∧ True)) ∧ (joinOk a (Objt.mk ([] : List Sect) ([] : List Sym)) = false →
 false = true ∧ True)))))))) := by kernel_rfl
theorem ok_laws_FnJoinEmpty : ConOK Try.prog 3 C_laws_FnJoinEmpty := by
 refine con_q (l := L_laws_FnJoinEmpty) ⟨⟨ok_spec_DrawJoinObjects, det_spec_DrawJoinObjects⟩, ⟨⟨ok_impl_JoinObjects, det_impl_JoinObjects⟩, ⟨⟨ok_spec_JoinObjects, det_spec_JoinObjects⟩, ⟨⟨ok_laws_sameObject, det_laws_sameObject⟩, ⟨⟨ok_impl_ObjectValid, det_impl_ObjectValid⟩, ⟨⟨ok_laws_alive, det_laws_alive⟩, trivial⟩⟩⟩⟩⟩⟩ Try.func3 rfl (by decide) (by kernel_rfl) rfl an_laws_FnJoinEmpty fun x ho hx => ?_
 obtain ⟨c, ⟨⟩⟩ := x
 refine Keeps.of (vc_laws_FnJoinEmpty c) ?_
 revert c ho hx
 show ∀ (c : List (Int)), _
 intro c ho hx
 dsimp only [C_laws_FnJoinEmpty, okPTL, okPT, Ok, Ty.cells, SN.cells, OkL, OkC, okI, ci, cb, cs, cl] at ho
 dsimp only [C_laws_FnJoinEmpty, vc, v1, decB, SR.pre] at hx
 (try delta i64 LN); simp only [DRt, ex_sect2]; (repeat' first | apply And.intro | (intro x hq _; replace hq := List.mem_of_getElem? hq; simp only [List.mem_cons, List.not_mem_nil, or_false] at hq) | intro _); all_goals (try omega)
 all_goals first
  | omega
  | (have := objSm_sz (by assumption); omega)
  | exact NE_selfL (by assumption)
  | exact NT_L (by assumption)
  | (with_reducible first | exact LE_1 (by assumption) (by assumption) | exact LE_2 (by assumption) | exact LE_3 (by assumption) (by assumption) | exact LE_4 (by assumption) (by assumption) | exact LE_5 (by assumption) (by assumption))
  | skip

theorem rd_u : Reads Try.prog 5 [.u] := reads_u8 Try.underlying5
theorem rd_uL : Reads Try.prog 22 [(.list .u)] := reads_slice (t' := .u) Try.underlying22 (by kernel_rfl) (by decide) rd_u
set_option maxRecDepth 100000 in
theorem lifted_FnJoinEmpty (os : Os) (started : os.Started) (H : Type) (enc : TypeId × Value → H) :
  ReturnsInHanded {} Try.checked os 3 .any (Rows.fnJoinEmptySpec.pre6 enc Try.prog Try.f3 Rows.fnJoinEmptyRow.domain false) (Rows.fnJoinEmptySpec.post enc Try.prog Try.f3 false true false false) := by
 refine returnsInHanded_of_change (C := Try.checked) head_own started (by kernel_rfl) Try.func3
  (ChangeSpec.witness6 (enc := enc) (C := Try.checked) false ⟨#[], #[.slice none 0 0], []⟩ 8 (by kernel_rfl) (by kernel_rfl) (by kernel_rfl) (by kernel_rfl)) ?_
 intro W base args ds gs before hval0 hW _ _
 have hval : ∀ (j : Nat) t v, Try.f3.params[j]? = some t → args[j]? = some v → Value.okWide Try.prog W .any base t v := hval0
 have hW' := hW
 obtain ⟨p, q, hA0, hV, rfl, hfz, hnd⟩ := hW
 have hA : DataW.TrodAll enc Try.prog W 0 (fun _ => true) true Try.f3.params.toList args.toList ds p := hA0
 rw [Try.params3] at hA hval
 obtain ⟨v0, vs0, d0, ds0, p0, q0, hargs, rfl, rfl, h0, r0⟩ := trodAll_cons hA
 obtain ⟨rfl, rfl, rfl⟩ := trodAll_nil r0
 obtain rfl : args = #[v0] := by cases args; simp_all
 obtain ⟨rfl, rfl⟩ := trodVars_none hV
 have k0 := h0
 obtain ⟨x0, g0⟩ := open_slice1 Try.underlying22 rd_uL (hval 0 22 v0 rfl rfl) h0
 clear hA0 hval0 hval
 refine (law_calls ok_laws_FnJoinEmpty (x0, ()) rfl rfl (W := W) (vals := [v0]) ⟨g0, trivial⟩).mono fun e W' ⟨he, bel⟩ => ?_
 subst he
 exact ⟨_, rfl, _, _, _, [], _, [], hW', trodAll_mk1 (shut_bool Try.underlying4 _), (trodAll_cons_mk (Below.trod head_laid (by kernel_rfl) (of_decide_eq_true (by kernel_rfl)) k0 bel (trod_lt_ k0)) trodAll_mk0), rfl, bel.frame _, fun h => by cases h⟩

theorem over_FnJoinEmpty : Rows.fnJoinEmptyRow.holds Try.pinned (OpenSpec.ofChange Rows.fnJoinEmptySpec) :=
 OpenClaim.holds_of_wide 3 Try.f3 rfl rfl rfl rfl rfl rfl rfl ⟨rfl, rfl, rfl, rfl, rfl⟩ rfl rfl rfl rfl rfl (by kernel_rfl) Try.func3 (joined_of head_laid head_rowed head_stops head_stopk head_heard head_enter (show (Rows.fnJoinEmptyRow.lifted == Try.prog.liftsFinal) = true by rw [head_final]; rfl) (show (Try.prog.make == some Rows.fnJoinEmptyRow.make) = true by rw [head_make]; rfl) (by kernel_rfl))
  (of_decide_eq_true (by kernel_rfl)) (by unfold Func.isWrapper; first | (rw [if_pos (by decide +kernel)]; kernel_rfl) | (rw [if_neg (by decide +kernel)]; exact ⟨rfl, rfl⟩))
  (fun os started H enc _ => lifted_FnJoinEmpty os started H enc)

theorem proved_FnJoinEmpty : Rows.FnJoinEmptySaid := over_FnJoinEmpty
#print axioms proved_FnJoinEmpty

end Go.Proofs.Ytpgglbnagphgoaa
