/- The law FnFixupValue. -/
import Derived.Test.YtpdddafaelbgkaaDraw0
import Derived.Test.YtpdddafaelbgkaaFixA
import Derived.Test.YtpdddafaelbgkaaHead
set_option linter.unusedVariables false
set_option linter.unusedSimpArgs false
namespace Go.Proofs.Ytpdddafaelbgkaa
open Go Go.RowKit Go.ChangeShapes Go.WideShapes Go.Deep


def C_laws_FnFixupValue : Con := { ps := [.ro (.list .u)], out := fun x => let c : List (Int) := x.1; vc .bool true, det := true }
def G_laws_FnFixupValue : Cfg := mkG (tyL [(3, .i), (5, .u), (4, .bool), (9, .str), (163, .int .u64), (71, .st .fixup), (24, .st .img), (39, .st .region), (35, .st .mem), (30, .st .patch), (94, .st .hash), (92, .list .i), (90, .list .str), (22, .list .u), (67, .st .fixup), (52, .st .img), (149, .st .region), (55, .st .mem), (101, .st .hash)]) [(31, C_spec_DrawFixupValue), (32, C_impl_FixupValue), (33, C_spec_FixupValue), (27, C_laws_alive), (34, C_impl_SignedOf), (36, C_impl_FixupWide), (35, C_impl_PutNumber)] false
def an_laws_FnFixupValue : PTL C_laws_FnFixupValue.ps → Nat → Option Ann := fun _ _ => none
set_option maxRecDepth 200000 in
theorem vc_laws_FnFixupValue (c : List (Int)) : (keeps Try.prog G_laws_FnFixupValue (an_laws_FnFixupValue (c, ())) (Try.f5.body.getD .skip) Try.f5.results.toList C_laws_FnFixupValue (c, ())) = ((((List.length c) ≤ (9223372036854775807 : Nat)) →
 ((((decide ((1048576 : Int) < (@Nat.cast Int _ (List.length c)))) = true) →
 ((true = true) ∧
 True)) ∧
 (((decide ((1048576 : Int) < (@Nat.cast Int _ (List.length c)))) = false) →
 (∀ (x_1 : Int), (∀ (x_2 : Int), (∀ (x_3 : Int), (∀ (x_4 : Int), ((((0 : Int) ≤ x_1) ∧
 ((x_1 ≤ (4 : Int)) ∧
 (((- (1 : Int)) ≤ x_2) ∧
 ((x_2 ≤ (100001 : Int)) ∧
 (((- (200 : Int)) ≤ x_3) ∧
 ((x_3 ≤ (200000 : Int)) ∧
 (((- (1000 : Int)) ≤ x_4) ∧
 (x_4 ≤ (1001 : Int))))))))) →
 ((((decide ((@Option.getD Int (Go.Proofs.Ytpdddafaelbgkaa.fixVal x_1 x_2 x_3 x_4) (0 : Int)) ≠ (@Option.getD Int (Go.Proofs.Ytpdddafaelbgkaa.fixVal x_1 x_2 x_3 x_4) (0 : Int)))) = true) →
 ((false = true) ∧
 True)) ∧
 (((decide ((@Option.getD Int (Go.Proofs.Ytpdddafaelbgkaa.fixVal x_1 x_2 x_3 x_4) (0 : Int)) ≠ (@Option.getD Int (Go.Proofs.Ytpdddafaelbgkaa.fixVal x_1 x_2 x_3 x_4) (0 : Int)))) = false) →
 ((((decide ((@Option.isSome Int (Go.Proofs.Ytpdddafaelbgkaa.fixVal x_1 x_2 x_3 x_4)) ≠ (@Option.isSome Int (Go.Proofs.Ytpdddafaelbgkaa.fixVal x_1 x_2 x_3 x_4)))) = true) →
 ((false = true) ∧
 True)) ∧
 (((decide ((@Option.isSome Int (Go.Proofs.Ytpdddafaelbgkaa.fixVal x_1 x_2 x_3 x_4)) ≠ (@Option.isSome Int (Go.Proofs.Ytpdddafaelbgkaa.fixVal x_1 x_2 x_3 x_4)))) = false) →
 ((((Bool.not (@Option.isSome Int (Go.Proofs.Ytpdddafaelbgkaa.fixVal x_1 x_2 x_3 x_4))) = true) →
 ((((decide ((@Option.getD Int (Go.Proofs.Ytpdddafaelbgkaa.fixVal x_1 x_2 x_3 x_4) (0 : Int)) = (0 : Int))) = true) →
 ((true = true) ∧
 True)) ∧
 (((decide ((@Option.getD Int (Go.Proofs.Ytpdddafaelbgkaa.fixVal x_1 x_2 x_3 x_4) (0 : Int)) = (0 : Int))) = false) →
 ((false = true) ∧
 True)))) ∧
 (((Bool.not (@Option.isSome Int (Go.Proofs.Ytpdddafaelbgkaa.fixVal x_1 x_2 x_3 x_4))) = false) →
 ((((decide (x_1 = (1 : Int))) = true) →
 ((((- (9223372036854775808 : Int)) ≤ (x_2 + (1 : Int))) ∧
 ((x_2 + (1 : Int)) ≤ (9223372036854775807 : Int))) ∧
 ((((- (9223372036854775808 : Int)) ≤ ((x_2 + (1 : Int)) + (Go.Proofs.Ytpdddafaelbgkaa.signedOf (@Option.getD Int (Go.Proofs.Ytpdddafaelbgkaa.fixVal x_1 x_2 x_3 x_4) (0 : Int)) (1 : Int)))) ∧
 (((x_2 + (1 : Int)) + (Go.Proofs.Ytpdddafaelbgkaa.signedOf (@Option.getD Int (Go.Proofs.Ytpdddafaelbgkaa.fixVal x_1 x_2 x_3 x_4) (0 : Int)) (1 : Int))) ≤ (9223372036854775807 : Int))) ∧
 ((((- (9223372036854775808 : Int)) ≤ (x_3 + x_4)) ∧
 ((x_3 + x_4) ≤ (9223372036854775807 : Int))) ∧
 (((decide (((x_2 + (1 : Int)) + (Go.Proofs.Ytpdddafaelbgkaa.signedOf (@Option.getD Int (Go.Proofs.Ytpdddafaelbgkaa.fixVal x_1 x_2 x_3 x_4) (0 : Int)) (1 : Int))) = (x_3 + x_4))) = true) ∧
 True))))) ∧
 (((decide (x_1 = (1 : Int))) = false) →
 ((((- (9223372036854775808 : Int)) ≤ (x_3 + x_4)) ∧
 ((x_3 + x_4) ≤ (9223372036854775807 : Int))) ∧
 ((((decide ((@Option.getD Int (Go.Proofs.Ytpdddafaelbgkaa.fixVal x_1 x_2 x_3 x_4) (0 : Int)) = (x_3 + x_4))) = true) →
 (((List.length (Go.Proofs.Ytpdddafaelbgkaa.putN (@Option.getD Int (Go.Proofs.Ytpdddafaelbgkaa.fixVal x_1 x_2 x_3 x_4) (0 : Int)) (Go.Proofs.Ytpdddafaelbgkaa.fixWide x_1))) ≤ (9223372036854775807 : Nat)) →
 (((decide ((@Nat.cast Int _ (List.length (Go.Proofs.Ytpdddafaelbgkaa.putN (@Option.getD Int (Go.Proofs.Ytpdddafaelbgkaa.fixVal x_1 x_2 x_3 x_4) (0 : Int)) (Go.Proofs.Ytpdddafaelbgkaa.fixWide x_1)))) = (Go.Proofs.Ytpdddafaelbgkaa.fixWide x_1))) = true) ∧
 True))) ∧
 (((decide ((@Option.getD Int (Go.Proofs.Ytpdddafaelbgkaa.fixVal x_1 x_2 x_3 x_4) (0 : Int)) = (x_3 + x_4))) = false) →
 ((false = true) ∧
 True))))))))))))))))))))) := by kernel_rfl
theorem det_laws_FnFixupValue : C_laws_FnFixupValue.det = true → ∀ x, (C_laws_FnFixupValue.out x).Det := fun _ x => by simp only [C_laws_FnFixupValue]; repeat (first | exact Det.ret _ | exact Det.vc' | apply Det.req | apply Det.giv | apply Det.fork | apply Det.bif' | intro _)
set_option maxRecDepth 200000 in
set_option maxHeartbeats 1000000 in
theorem ok_laws_FnFixupValue : ConOK Try.prog 5 C_laws_FnFixupValue := by
  refine con_mk (wr := false) (ty := tyL [(3, .i), (5, .u), (4, .bool), (9, .str), (163, .int .u64), (71, .st .fixup), (24, .st .img), (39, .st .region), (35, .st .mem), (30, .st .patch), (94, .st .hash), (92, .list .i), (90, .list .str), (22, .list .u), (67, .st .fixup), (52, .st .img), (149, .st .region), (55, .st .mem), (101, .st .hash)]) (l := [(31, C_spec_DrawFixupValue), (32, C_impl_FixupValue), (33, C_spec_FixupValue), (27, C_laws_alive), (34, C_impl_SignedOf), (36, C_impl_FixupWide), (35, C_impl_PutNumber)]) ⟨⟨ok_spec_DrawFixupValue, det_spec_DrawFixupValue⟩, ⟨⟨ok_impl_FixupValue, det_impl_FixupValue⟩, ⟨⟨ok_spec_FixupValue, det_spec_FixupValue⟩, ⟨⟨ok_laws_alive, det_laws_alive⟩, ⟨⟨ok_impl_SignedOf, det_impl_SignedOf⟩, ⟨⟨ok_impl_FixupWide, det_impl_FixupWide⟩, ⟨⟨ok_impl_PutNumber, det_impl_PutNumber⟩, trivial⟩⟩⟩⟩⟩⟩⟩ Try.checked.mixed (fn := Try.f5) (body := Try.f5.body.getD .skip) Try.func5 rfl (by decide) (by kernel_rfl) rfl an_laws_FnFixupValue fun x ho hx => ?_
  obtain ⟨c, ⟨⟩⟩ := x
  refine Keeps.of (vc_laws_FnFixupValue c) ?_
  revert c ho hx
  show ∀ (c : List (Int)), _
  intro c ho hx
  dsimp only [C_laws_FnFixupValue, okPTL, okPT, Ok, Ty.cells, SN.cells, OkL, OkC, okI, ci, cb, cs, cl] at ho
  dsimp only [C_laws_FnFixupValue, vc, v1, decB, SR.pre] at hx
  simp only [decide_eq_true_eq, decide_eq_false_iff_not, Bool.not_eq_true', Bool.not_eq_false', and_true, true_and, and_assoc, Int.toNat_natCast, exists_eq_left', exists_eq_left, exists_and_left, Int.not_lt, Int.not_le, Bool.false_eq_true, false_implies, implies_true, forall_const, List.length_append, List.length_cons, List.length_nil, Int.sub_add_cancel, Int.add_sub_cancel]
  intro _ _ k p t a hb
  rcases fix_law hb with h | ⟨n, h, h1, h2⟩
  · simp [h]
  · rw [h]
    simp only [Option.getD_some, Option.isSome_some, ne_eq, not_true_eq_false, false_implies, not_false_eq_true, forall_const, true_and, Bool.true_eq_false, reduceCtorEq]
    refine ⟨fun hk => ?_, fun hk => ?_⟩
    · have := h1 hk
      omega
    · obtain ⟨h3, h4⟩ := h2 hk
      refine ⟨by omega, by omega, fun _ _ => h4, fun h => absurd h3 h⟩

theorem rd_u : Reads Try.prog 5 [.u] := reads_u8 Try.underlying5
theorem rd_uL : Reads Try.prog 22 [(.list .u)] := reads_slice (t' := .u) Try.underlying22 (by kernel_rfl) (by decide) rd_u
set_option maxRecDepth 100000 in
theorem lifted_FnFixupValue (os : Os) (started : os.Started) (H : Type) (enc : TypeId × Value → H) :
    ReturnsInHanded {} Try.checked os 5 .any (Rows.fnFixupValueSpec.pre6 enc Try.prog Try.f5 Rows.fnFixupValueRow.domain false) (Rows.fnFixupValueSpec.post enc Try.prog Try.f5 false true false false) := by
  refine returnsInHanded_of_change (C := Try.checked) head_own started (by kernel_rfl) Try.func5
    (ChangeSpec.witness6 (enc := enc) (C := Try.checked) false ⟨#[], #[.slice none 0 0], []⟩ 8 (by kernel_rfl) (by kernel_rfl) (by kernel_rfl) (by kernel_rfl)) ?_
  intro W base args ds gs before hval0 hW _ _
  have hval : ∀ (j : Nat) t v, Try.f5.params[j]? = some t → args[j]? = some v → Value.okWide Try.prog W .any base t v := hval0
  have hW' := hW
  obtain ⟨p, q, hA0, hV, rfl, hfz, hnd⟩ := hW
  have hA : DataW.TrodAll enc Try.prog W 0 (fun _ => true) true Try.f5.params.toList args.toList ds p := hA0
  rw [Try.params5] at hA hval
  obtain ⟨v0, vs0, d0, ds0, p0, q0, hargs, rfl, rfl, h0, r0⟩ := trodAll_cons hA
  obtain ⟨rfl, rfl, rfl⟩ := trodAll_nil r0
  obtain rfl : args = #[v0] := by cases args; simp_all
  obtain ⟨rfl, rfl⟩ := trodVars_none hV
  have k0 := h0
  obtain ⟨x0, g0⟩ := open_slice1 Try.underlying22 rd_uL (hval 0 22 v0 rfl rfl) h0
  clear hA0 hval0 hval
  refine (law_calls ok_laws_FnFixupValue (x0, ()) rfl rfl (W := W) (vals := [v0]) ⟨g0, trivial⟩).mono fun e W' ⟨he, bel⟩ => ?_
  subst he
  exact ⟨_, rfl, _, _, _, [], _, [], hW', trodAll_mk1 (shut_bool Try.underlying4 _), (trodAll_cons_mk (Below.trod head_laid (by kernel_rfl) (of_decide_eq_true (by kernel_rfl)) k0 bel (trod_lt_ k0)) trodAll_mk0), rfl, bel.frame _, fun h => by cases h⟩

theorem over_FnFixupValue : Rows.fnFixupValueRow.holds Try.pinned (OpenSpec.ofChange Rows.fnFixupValueSpec) :=
  OpenClaim.holds_of_wide 5 Try.f5 rfl rfl rfl rfl rfl rfl rfl ⟨rfl, rfl, rfl, rfl, rfl⟩ rfl rfl rfl rfl rfl (by kernel_rfl) Try.func5 (joined_of head_laid head_rowed head_stops head_stopk head_heard head_enter (show (Rows.fnFixupValueRow.lifted == Try.prog.liftsFinal) = true by rw [head_final]; rfl) (show (Try.prog.make == some Rows.fnFixupValueRow.make) = true by rw [head_make]; rfl) (by kernel_rfl))
    (of_decide_eq_true (by kernel_rfl)) (by unfold Func.isWrapper; first | (rw [if_pos (by decide +kernel)]; kernel_rfl) | (rw [if_neg (by decide +kernel)]; exact ⟨rfl, rfl⟩))
    (fun os started H enc _ => lifted_FnFixupValue os started H enc)

theorem proved_FnFixupValue : Rows.FnFixupValueSaid := over_FnFixupValue
#print axioms proved_FnFixupValue

end Go.Proofs.Ytpdddafaelbgkaa
