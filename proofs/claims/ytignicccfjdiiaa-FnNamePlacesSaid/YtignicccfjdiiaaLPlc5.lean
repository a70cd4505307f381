/- The laws on places. -/
import Derived.Test.YtignicccfjdiiaaDrawL
import Derived.Test.YtignicccfjdiiaaPlcE
import Derived.Test.YtignicccfjdiiaaLnk
import Derived.Test.YtignicccfjdiiaaSame
import Derived.Test.YtignicccfjdiiaaHead
set_option linter.unusedVariables false
set_option linter.unusedSimpArgs false
namespace Go.Proofs.Ytignicccfjdiiaa
open Go Go.RowKit Go.ChangeShapes Go.WideShapes Go.Deep


def C_laws_FnNamePlaces : Con := { ps := [.ro (.list .u)], out := fun x => let c : List (Int) := x.1; vc .bool true, det := true }
abbrev L_laws_FnNamePlaces : List (Nat × Con) := [(36, C_spec_DrawNamePlaces), (37, C_impl_NamePlaces), (38, C_spec_NamePlaces), (25, C_laws_sameInts), (18, C_laws_alive), (39, C_impl_FindName), (34, C_impl_SymbolPlace)]
def G_laws_FnNamePlaces : Cfg := mkG (tyL tys_) L_laws_FnNamePlaces false
def an_laws_FnNamePlaces : PTL C_laws_FnNamePlaces.ps → Nat → Option Ann := fun x kk_ => let c : List (Int) := x.1; if kk_ = 11 then some (.all (List Objt) fun l => .all (Int) fun b => .all (List ByteArray) fun ns => .all (Int) fun k => .giv (nmOk l b ns = true ∧ ns.length ≤ 1000 ∧ 0 ≤ k ∧ k ≤ ns.length) (.mk [(3, al (.st .obj) l), (4, ai b), (5, al .str ns), (6, al .i (nmP l b ns)), (10, ai k)] [] ((ns.length - k.toNat)))) else none
set_option maxRecDepth 200000 in
theorem vc_laws_FnNamePlaces (c : List (Int)) : (keeps Try.prog G_laws_FnNamePlaces (an_laws_FnNamePlaces (c, ())) (Try.f9.body.getD .skip) Try.f9.results.toList C_laws_FnNamePlaces (c, ())) = ((((List.length c) ≤ 9223372036854775807) →
 ((((decide (1048576 < (LN c))) = true) →
 ((true = true) ∧
 True)) ∧
 (((decide (1048576 < (LN c))) = false) →
 (∀ (x_1 : (List Objt)), (∀ (x_2 : Int), (∀ (x_3 : (List ByteArray)), ((((List.length x_1) ≤ 5) ∧
 (((objsA x_1) = true) ∧
 (((- (8 : Int)) ≤ x_2) ∧
 ((x_2 ≤ (4104 : Int)) ∧
 ((List.length x_3) ≤ 1000))))) →
 (((List.length x_3) ≤ 1048576) ∧
 ((((List.length x_3) ≤ 1048576) ∧
 (((LN x_1) + (@sumI Objt szOb x_1)) ≤ 1048576)) ∧
 ((((Bool.not (decide (@Eq (List Int) (nmP x_1 x_2 x_3) (nmP x_1 x_2 x_3)))) = true) →
 ((false = true) ∧
 True)) ∧
 (((Bool.not (decide (@Eq (List Int) (nmP x_1 x_2 x_3) (nmP x_1 x_2 x_3)))) = false) →
 ((((decide ((nmOk x_1 x_2 x_3) ≠ (nmOk x_1 x_2 x_3))) = true) →
 ((false = true) ∧
 True)) ∧
 (((decide ((nmOk x_1 x_2 x_3) ≠ (nmOk x_1 x_2 x_3))) = false) →
 ((((Bool.not (nmOk x_1 x_2 x_3)) = true) →
 (((List.length (nmP x_1 x_2 x_3)) ≤ 9223372036854775807) →
 ((((decide ((LN (nmP x_1 x_2 x_3)) = 0)) = true) →
 ((true = true) ∧
 True)) ∧
 (((decide ((LN (nmP x_1 x_2 x_3)) = 0)) = false) →
 ((false = true) ∧
 True))))) ∧
 (((Bool.not (nmOk x_1 x_2 x_3)) = false) →
 ((∃ (x_4 : (List Objt)), (∃ (x_5 : Int), (∃ (x_6 : (List ByteArray)), (∃ (x_7 : Int), ((@Eq (List Objt) x_1 x_4) ∧
 ((x_2 = x_5) ∧
 ((@Eq (List ByteArray) x_3 x_6) ∧
 ((@Eq (List Int) (nmP x_1 x_2 x_3) (nmP x_4 x_5 x_6)) ∧
 ((0 = x_7) ∧
 ((((nmOk x_4 x_5 x_6) = true) ∧
 (((List.length x_6) ≤ 1000) ∧
 ((0 ≤ x_7) ∧
 (x_7 ≤ (LN x_6))))) ∧
 True)))))))))) ∧
 (∀ (x_8 : (List Objt)), (∀ (x_9 : Int), (∀ (x_10 : (List ByteArray)), (∀ (x_11 : Int), ((((nmOk x_8 x_9 x_10) = true) ∧
 (((List.length x_10) ≤ 1000) ∧
 ((0 ≤ x_11) ∧
 (x_11 ≤ (LN x_10))))) →
 (((List.length x_10) ≤ 9223372036854775807) →
 ((((decide (x_11 < (LN x_10))) = true) →
 (((0 ≤ x_11) ∧
 (x_11 < (LN x_10))) ∧
 (∀ (x_12 : ByteArray), ((@Eq (Option ByteArray) (x_10)[(Int.toNat x_11)]? (some x_12)) →
 ((Ok Ty.str x_12) →
 ((((Bool.not (@Option.isSome Given (fndV x_8 x_12))) = true) →
 ((false = true) ∧
 True)) ∧
 (((Bool.not (@Option.isSome Given (fndV x_8 x_12))) = false) →
 ((((Bool.not (@Option.isSome Int (syPl x_8 x_9 (Given.in_ (@Option.getD Given (fndV x_8 x_12) (Given.mk (0 : Int) (0 : Int)))) (Given.at_ (@Option.getD Given (fndV x_8 x_12) (Given.mk (0 : Int) (0 : Int))))))) = true) →
 ((false = true) ∧
 True)) ∧
 (((Bool.not (@Option.isSome Int (syPl x_8 x_9 (Given.in_ (@Option.getD Given (fndV x_8 x_12) (Given.mk (0 : Int) (0 : Int)))) (Given.at_ (@Option.getD Given (fndV x_8 x_12) (Given.mk (0 : Int) (0 : Int))))))) = false) →
 (((List.length (nmP x_8 x_9 x_10)) ≤ 9223372036854775807) →
 ((((decide ((LN (nmP x_8 x_9 x_10)) ≤ x_11)) = true) →
 ((false = true) ∧
 True)) ∧
 (((decide ((LN (nmP x_8 x_9 x_10)) ≤ x_11)) = false) →
 (((0 ≤ x_11) ∧
 (x_11 < (LN (nmP x_8 x_9 x_10)))) ∧
 (∀ (x_13 : Int), ((@Eq (Option Int) ((nmP x_8 x_9 x_10))[(Int.toNat x_11)]? (some x_13)) →
 ((Ok (Ty.int IntKind.i64) x_13) →
 ((((decide (x_13 ≠ (@Option.getD Int (syPl x_8 x_9 (Given.in_ (@Option.getD Given (fndV x_8 x_12) (Given.mk (0 : Int) (0 : Int)))) (Given.at_ (@Option.getD Given (fndV x_8 x_12) (Given.mk (0 : Int) (0 : Int))))) (0 : Int)))) = true) →
 ((false = true) ∧
 True)) ∧
 (((decide (x_13 ≠ (@Option.getD Int (syPl x_8 x_9 (Given.in_ (@Option.getD Given (fndV x_8 x_12) (Given.mk (0 : Int) (0 : Int)))) (Given.at_ (@Option.getD Given (fndV x_8 x_12) (Given.mk (0 : Int) (0 : Int))))) (0 : Int)))) = false) →
 ((i64 (x_11 + (1 : Int))) ∧
 (∃ (x_14 : (List Objt)), (∃ (x_15 : Int), (∃ (x_16 : (List ByteArray)), (∃ (x_17 : Int), ((@Eq (List Objt) x_8 x_14) ∧
 ((x_9 = x_15) ∧
 ((@Eq (List ByteArray) x_10 x_16) ∧
 ((@Eq (List Int) (nmP x_8 x_9 x_10) (nmP x_14 x_15 x_16)) ∧
 (((x_11 + (1 : Int)) = x_17) ∧
 ((((nmOk x_14 x_15 x_16) = true) ∧
 (((List.length x_16) ≤ 1000) ∧
 ((0 ≤ x_17) ∧
 (x_17 ≤ (LN x_16))))) ∧
 (((List.length x_16) - (Int.toNat x_17)) < ((List.length x_10) - (Int.toNat x_11)))))))))))))))))))))))))))))))) ∧
 (((decide (x_11 < (LN x_10))) = false) →
 (((List.length (nmP x_8 x_9 x_10)) ≤ 9223372036854775807) →
 (((List.length x_10) ≤ 9223372036854775807) →
 (((decide ((LN (nmP x_8 x_9 x_10)) = (LN x_10))) = true) ∧
 True)))))))))))))))))))))))))))) := by kernel_rfl
theorem det_laws_FnNamePlaces : C_laws_FnNamePlaces.det = true → ∀ x, (C_laws_FnNamePlaces.out x).Det := fun _ _ => Det.vc'
set_option maxRecDepth 200000 in
set_option maxHeartbeats 4000000 in
theorem ok_laws_FnNamePlaces : ConOK Try.prog 9 C_laws_FnNamePlaces := by
  refine con_mk (wr := false) (ty := tyL tys_) (l := L_laws_FnNamePlaces) ⟨⟨ok_spec_DrawNamePlaces, det_spec_DrawNamePlaces⟩, ⟨⟨ok_impl_NamePlaces, det_impl_NamePlaces⟩, ⟨⟨ok_spec_NamePlaces, det_spec_NamePlaces⟩, ⟨⟨ok_laws_sameInts, det_laws_sameInts⟩, ⟨⟨ok_laws_alive, det_laws_alive⟩, ⟨⟨ok_impl_FindName, det_impl_FindName⟩, ⟨⟨ok_impl_SymbolPlace, det_impl_SymbolPlace⟩, trivial⟩⟩⟩⟩⟩⟩⟩ Try.checked.mixed (fn := Try.f9) (body := Try.f9.body.getD .skip) Try.func9 rfl (by decide) (by kernel_rfl) rfl an_laws_FnNamePlaces fun x ho hx => ?_
  obtain ⟨c, ⟨⟩⟩ := x
  refine Keeps.of (vc_laws_FnNamePlaces c) ?_
  revert c ho hx
  show ∀ (c : List (Int)), _
  intro c ho hx
  dsimp only [C_laws_FnNamePlaces, okPTL, okPT, Ok, Ty.cells, SN.cells, OkL, OkC, okI, ci, cb, cs, cl] at ho
  dsimp only [C_laws_FnNamePlaces, vc, v1, decB, SR.pre] at hx
  have hz := @objsA_sz
  have hn := @nm_all
  have hq : ∀ l b ns, nmOk l b ns = false → (nmP l b ns).length = 0 := fun l b ns h => by rw [nmP, if_neg (by simp [h])]; rfl
  have hr : ∀ l b ns, nmOk l b ns = true → (nmP l b ns).length = ns.length := fun l b ns h => by rw [nmP, if_pos h, nmV_len]
  (try delta i64 LN); simp only [DRt, ex_sect2]; (repeat' first | apply And.intro | (intro x hq _; replace hq := List.mem_of_getElem? hq; simp only [List.mem_cons, List.not_mem_nil, or_false] at hq) | intro _); all_goals (try omega)
  all_goals first
    | (have := hz (by assumption) (by omega); omega)
    | (try grind)

theorem rd_u : Reads Try.prog 5 [.u] := reads_u8 Try.underlying5
theorem rd_uL : Reads Try.prog 22 [(.list .u)] := reads_slice (t' := .u) Try.underlying22 (by kernel_rfl) (by decide) rd_u
set_option maxRecDepth 100000 in
theorem lifted_FnNamePlaces (os : Os) (started : os.Started) (H : Type) (enc : TypeId × Value → H) :
    ReturnsInHanded {} Try.checked os 9 .any (Rows.fnNamePlacesSpec.pre6 enc Try.prog Try.f9 Rows.fnNamePlacesRow.domain false) (Rows.fnNamePlacesSpec.post enc Try.prog Try.f9 false true false false) := by
  refine returnsInHanded_of_change (C := Try.checked) head_own started (by kernel_rfl) Try.func9
    (ChangeSpec.witness6 (enc := enc) (C := Try.checked) false ⟨#[], #[.slice none 0 0], []⟩ 8 (by kernel_rfl) (by kernel_rfl) (by kernel_rfl) (by kernel_rfl)) ?_
  intro W base args ds gs before hval0 hW _ _
  have hval : ∀ (j : Nat) t v, Try.f9.params[j]? = some t → args[j]? = some v → Value.okWide Try.prog W .any base t v := hval0
  have hW' := hW
  obtain ⟨p, q, hA0, hV, rfl, hfz, hnd⟩ := hW
  have hA : DataW.TrodAll enc Try.prog W 0 (fun _ => true) true Try.f9.params.toList args.toList ds p := hA0
  rw [Try.params9] at hA hval
  obtain ⟨v0, vs0, d0, ds0, p0, q0, hargs, rfl, rfl, h0, r0⟩ := trodAll_cons hA
  obtain ⟨rfl, rfl, rfl⟩ := trodAll_nil r0
  obtain rfl : args = #[v0] := by cases args; simp_all
  obtain ⟨rfl, rfl⟩ := trodVars_none hV
  have k0 := h0
  obtain ⟨x0, g0⟩ := open_slice1 Try.underlying22 rd_uL (hval 0 22 v0 rfl rfl) h0
  clear hA0 hval0 hval
  refine (law_calls ok_laws_FnNamePlaces (x0, ()) rfl rfl (W := W) (vals := [v0]) ⟨g0, trivial⟩).mono fun e W' ⟨he, bel⟩ => ?_
  subst he
  exact ⟨_, rfl, _, _, _, [], _, [], hW', trodAll_mk1 (shut_bool Try.underlying4 _), (trodAll_cons_mk (Below.trod head_laid (by kernel_rfl) (of_decide_eq_true (by kernel_rfl)) k0 bel (trod_lt_ k0)) trodAll_mk0), rfl, bel.frame _, fun h => by cases h⟩

theorem over_FnNamePlaces : Rows.fnNamePlacesRow.holds Try.pinned (OpenSpec.ofChange Rows.fnNamePlacesSpec) :=
  OpenClaim.holds_of_wide 9 Try.f9 rfl rfl rfl rfl rfl rfl rfl ⟨rfl, rfl, rfl, rfl, rfl⟩ rfl rfl rfl rfl rfl (by kernel_rfl) Try.func9 (joined_of head_laid head_rowed head_stops head_stopk head_heard head_enter (show (Rows.fnNamePlacesRow.lifted == Try.prog.liftsFinal) = true by rw [head_final]; rfl) (show (Try.prog.make == some Rows.fnNamePlacesRow.make) = true by rw [head_make]; rfl) (by kernel_rfl))
    (of_decide_eq_true (by kernel_rfl)) (by unfold Func.isWrapper; first | (rw [if_pos (by decide +kernel)]; kernel_rfl) | (rw [if_neg (by decide +kernel)]; exact ⟨rfl, rfl⟩))
    (fun os started H enc _ => lifted_FnNamePlaces os started H enc)

theorem proved_FnNamePlaces : Rows.FnNamePlacesSaid := over_FnNamePlaces
#print axioms proved_FnNamePlaces

end Go.Proofs.Ytignicccfjdiiaa
