/- The law on objects that are taken: nothing more helps. -/
import Derived.Test.YthkefakjihafeaaDrawT
import Derived.Test.YthkefakjihafeaaLTakD
import Derived.Test.YthkefakjihafeaaSame
import Derived.Test.YthkefakjihafeaaHead
set_option linter.unusedVariables false
set_option linter.unusedSimpArgs false
namespace Go.Proofs.Ythkefakjihafeaa
open Go Go.RowKit Go.ChangeShapes Go.WideShapes Go.Deep


def C_laws_FnTakeEnough : Con := { ps := [.ro (.list .u)], out := fun x => let c : List (Int) := x.1; vc .bool true, det := true }
abbrev L_laws_FnTakeEnough : List (Nat × Con) := [(23, C_spec_DrawTakeMembers), (24, C_impl_TakeMembers), (26, C_spec_TakeMembers), (25, C_laws_sameInts), (15, C_laws_alive)]
def G_laws_FnTakeEnough : Cfg := mkG (tyL tys_) L_laws_FnTakeEnough false
def an_laws_FnTakeEnough : PTL C_laws_FnTakeEnough.ps → Nat → Option Ann := fun x kk_ => let c : List (Int) := x.1; if kk_ = 10 then some (.all (List Member) fun a => .all (List Int) fun y => .all (Int) fun k => .all (List Objt) fun ob => .all (List Member) fun rs => .giv (a.length ≤ 6 ∧ EN a y k ob rs ∧ 0 ≤ k ∧ k ≤ a.length) (.mk [(4, al (.st .member) a), (5, al .i y), (8, ai k), (6, asl 20), (7, asl 21)] [(20, .row (some 26) (.st .obj) ob false), (21, .row (some 49) (.st .member) rs false)] ((a.length - k.toNat)))) else if kk_ = 2014 then some (.all (List Member) fun a => .all (List Int) fun y => .all (Int) fun k => .all (Int) fun j => .all (List Objt) fun ob => .all (List Member) fun rs => .giv (a.length ≤ 6 ∧ EN a y k ob rs ∧ 0 ≤ k ∧ k < a.length ∧ 0 ≤ j ∧ j ≤ y.length) (.mk [(4, al (.st .member) a), (5, al .i y), (8, ai k), (10, ai j), (9, ab (inT y k j)), (6, asl 20), (7, asl 21)] [(20, .row (some 26) (.st .obj) ob false), (21, .row (some 49) (.st .member) rs false)] ((a.length - k.toNat) * 1000 + (100 - j).toNat))) else none
set_option maxRecDepth 200000 in
theorem vc_laws_FnTakeEnough (c : List (Int)) : (keeps Try.prog G_laws_FnTakeEnough (an_laws_FnTakeEnough (c, ())) (Try.f6.body.getD .skip) Try.f6.results.toList C_laws_FnTakeEnough (c, ())) = ((c.length ≤ 9223372036854775807 →
 (decide (1048576 < LN c) = true →
 true = true ∧ True) ∧ (decide (1048576 < LN c) = false →
 (∀ (x_1 : List Objt), (∀ (x_2 : List Member), x_1.length ≤ 5 ∧ objsA x_1 = true ∧ x_2.length ≤ 6 ∧ mbsA x_2 = true →
 (Bool.not (decide (@Eq (List Int) (takV x_1 x_2) (takV x_1 x_2))) = true →
 false = true ∧ True) ∧ (Bool.not (decide (@Eq (List Int) (takV x_1 x_2) (takV x_1 x_2))) = false →
 ((0 + x_1.length) * 48 ≤ 140737488355328 ∧ 0 + x_1.length ≤ 1000000000000) ∧ (∃ (x_3 : List Member), (∃ (x_4 : List Int), (∃ (x_5 : Int), (∃ (x_6 : List Objt), (∃ (x_7 : List Member), @Eq (List Member) x_2 x_3 ∧ @Eq (List Int) (takV x_1 x_2) x_4 ∧ 0 = x_5 ∧ @Eq (List Objt) x_1 x_6 ∧ @Eq (List Member) ([] : List Member) x_7 ∧ (x_3.length ≤ 6 ∧ EN x_3 x_4 x_5 x_6 x_7 ∧ 0 ≤ x_5 ∧ x_5 ≤ LN x_3) ∧ True))))) ∧ (∀ (x_8 : List Member), (∀ (x_9 : List Int), (∀ (x_10 : Int), (∀ (x_11 : List Objt), (∀ (x_12 : List Member), x_8.length ≤ 6 ∧ EN x_8 x_9 x_10 x_11 x_12 ∧ 0 ≤ x_10 ∧ x_10 ≤ LN x_8 →
 x_8.length ≤ 9223372036854775807 →
 (decide (x_10 < LN x_8) = true →
 (∃ (x_13 : List Member), (∃ (x_14 : List Int), (∃ (x_15 : Int), (∃ (x_16 : Int), (∃ (x_17 : List Objt), (∃ (x_18 : List Member), @Eq (List Member) x_8 x_13 ∧ @Eq (List Int) x_9 x_14 ∧ x_10 = x_15 ∧ 0 = x_16 ∧ false = inT x_14 x_15 x_16 ∧ @Eq (List Objt) x_11 x_17 ∧ @Eq (List Member) x_12 x_18 ∧ (x_13.length ≤ 6 ∧ EN x_13 x_14 x_15 x_17 x_18 ∧ 0 ≤ x_15 ∧ x_15 < LN x_13 ∧ 0 ≤ x_16 ∧ x_16 ≤ LN x_14) ∧ (∀ (x_19 : List Member), (∀ (x_20 : List Int), (∀ (x_21 : Int), (∀ (x_22 : Int), (∀ (x_23 : List Objt), (∀ (x_24 : List Member), x_19.length ≤ 6 ∧ EN x_19 x_20 x_21 x_23 x_24 ∧ 0 ≤ x_21 ∧ x_21 < LN x_19 ∧ 0 ≤ x_22 ∧ x_22 ≤ LN x_20 →
 (x_19.length - x_21.toNat) * 1000 + (100 - x_22).toNat ≤ (x_13.length - x_15.toNat) * 1000 + (100 - x_16).toNat →
 x_20.length ≤ 9223372036854775807 →
 (decide (x_22 < LN x_20) = true →
 (inT x_20 x_21 x_22 = true →
 i64 (x_22 + 1) ∧ (∃ (x_25 : List Member), (∃ (x_26 : List Int), (∃ (x_27 : Int), (∃ (x_28 : Int), (∃ (x_29 : List Objt), (∃ (x_30 : List Member), @Eq (List Member) x_19 x_25 ∧ @Eq (List Int) x_20 x_26 ∧ x_21 = x_27 ∧ x_22 + 1 = x_28 ∧ true = inT x_26 x_27 x_28 ∧ @Eq (List Objt) x_23 x_29 ∧ @Eq (List Member) x_24 x_30 ∧ (x_25.length ≤ 6 ∧ EN x_25 x_26 x_27 x_29 x_30 ∧ 0 ≤ x_27 ∧ x_27 < LN x_25 ∧ 0 ≤ x_28 ∧ x_28 ≤ LN x_26) ∧ (x_25.length - x_27.toNat) * 1000 + (100 - x_28).toNat < (x_19.length - x_21.toNat) * 1000 + (100 - x_22).toNat))))))) ∧ (inT x_20 x_21 x_22 = false →
 (0 ≤ x_22 ∧ x_22 < LN x_20) ∧ (∀ (x_31 : Int), x_20[x_22.toNat]? = some x_31 →
 Ok (Ty.int IntKind.i64) x_31 →
 i64 (x_22 + 1) ∧ (∃ (x_32 : List Member), (∃ (x_33 : List Int), (∃ (x_34 : Int), (∃ (x_35 : Int), (∃ (x_36 : List Objt), (∃ (x_37 : List Member), @Eq (List Member) x_19 x_32 ∧ @Eq (List Int) x_20 x_33 ∧ x_21 = x_34 ∧ x_22 + 1 = x_35 ∧ decide (x_31 = x_21) = inT x_33 x_34 x_35 ∧ @Eq (List Objt) x_23 x_36 ∧ @Eq (List Member) x_24 x_37 ∧ (x_32.length ≤ 6 ∧ EN x_32 x_33 x_34 x_36 x_37 ∧ 0 ≤ x_34 ∧ x_34 < LN x_32 ∧ 0 ≤ x_35 ∧ x_35 ≤ LN x_33) ∧ (x_32.length - x_34.toNat) * 1000 + (100 - x_35).toNat < (x_19.length - x_21.toNat) * 1000 + (100 - x_22).toNat))))))))) ∧ (decide (x_22 < LN x_20) = false →
 (inT x_20 x_21 x_22 = true →
 (0 ≤ x_21 ∧ x_21 < LN x_19) ∧ (∀ (x_38 : Member), x_19[x_21.toNat]? = some x_38 →
 Ok (Ty.st SN.member) x_38 →
 ((x_23.length + [Member.what x_38].length) * 48 ≤ 140737488355328 ∧ x_23.length + [Member.what x_38].length ≤ 1000000000000) ∧ i64 (x_21 + 1) ∧ (∃ (x_39 : List Member), (∃ (x_40 : List Int), (∃ (x_41 : Int), (∃ (x_42 : List Objt), (∃ (x_43 : List Member), @Eq (List Member) x_19 x_39 ∧ @Eq (List Int) x_20 x_40 ∧ x_21 + 1 = x_41 ∧ @Eq (List Objt) (x_23 ++ [Member.what x_38]) x_42 ∧ @Eq (List Member) x_24 x_43 ∧ (x_39.length ≤ 6 ∧ EN x_39 x_40 x_41 x_42 x_43 ∧ 0 ≤ x_41 ∧ x_41 ≤ LN x_39) ∧ x_39.length - x_41.toNat < x_8.length - x_10.toNat))))))) ∧ (inT x_20 x_21 x_22 = false →
 (0 ≤ x_21 ∧ x_21 < LN x_19) ∧ (∀ (x_44 : Member), x_19[x_21.toNat]? = some x_44 →
 Ok (Ty.st SN.member) x_44 →
 ((x_24.length + [x_44].length) * 64 ≤ 140737488355328 ∧ x_24.length + [x_44].length ≤ 1000000000000) ∧ i64 (x_21 + 1) ∧ (∃ (x_45 : List Member), (∃ (x_46 : List Int), (∃ (x_47 : Int), (∃ (x_48 : List Objt), (∃ (x_49 : List Member), @Eq (List Member) x_19 x_45 ∧ @Eq (List Int) x_20 x_46 ∧ x_21 + 1 = x_47 ∧ @Eq (List Objt) x_23 x_48 ∧ @Eq (List Member) (x_24 ++ [x_44]) x_49 ∧ (x_45.length ≤ 6 ∧ EN x_45 x_46 x_47 x_48 x_49 ∧ 0 ≤ x_47 ∧ x_47 ≤ LN x_45) ∧ x_45.length - x_47.toNat < x_8.length - x_10.toNat))))))))))))))))))))) ∧ (decide (x_10 < LN x_8) = false →
 x_11.length ≤ 9223372036854775807 →
 (decide (4 < LN x_11) = true →
 true = true ∧ True) ∧ (decide (4 < LN x_11) = false →
 (takV x_11 x_12).length ≤ 9223372036854775807 →
 (decide (LN (takV x_11 x_12) = 0) = true →
 true = true ∧ True) ∧ (decide (LN (takV x_11 x_12) = 0) = false →
 false = true ∧ True)))))))))))))) := by kernel_rfl
theorem det_laws_FnTakeEnough : C_laws_FnTakeEnough.det = true → ∀ x, (C_laws_FnTakeEnough.out x).Det := fun _ _ => Det.vc'
set_option maxRecDepth 200000 in
set_option maxHeartbeats 4000000 in
theorem ok_laws_FnTakeEnough : ConOK Try.prog 6 C_laws_FnTakeEnough := by
  refine con_mk (wr := false) (ty := tyL tys_) (l := L_laws_FnTakeEnough) ⟨⟨ok_spec_DrawTakeMembers, det_spec_DrawTakeMembers⟩, ⟨⟨ok_impl_TakeMembers, det_impl_TakeMembers⟩, ⟨⟨ok_spec_TakeMembers, det_spec_TakeMembers⟩, ⟨⟨ok_laws_sameInts, det_laws_sameInts⟩, ⟨⟨ok_laws_alive, det_laws_alive⟩, trivial⟩⟩⟩⟩⟩ Try.checked.mixed (fn := Try.f6) (body := Try.f6.body.getD .skip) Try.func6 rfl (by decide) (by kernel_rfl) rfl an_laws_FnTakeEnough fun x ho hx => ?_
  obtain ⟨c, ⟨⟩⟩ := x
  refine Keeps.of (vc_laws_FnTakeEnough c) ?_
  revert c ho hx
  show ∀ (c : List (Int)), _
  intro c ho hx
  dsimp only [C_laws_FnTakeEnough, okPTL, okPT, Ok, Ty.cells, SN.cells, OkL, OkC, okI, ci, cb, cs, cl] at ho
  dsimp only [C_laws_FnTakeEnough, vc, v1, decB, SR.pre] at hx
  have h1 := @EN_zero
  have h2 := @EN_yes
  have h3 := @EN_not
  have h4 := @EN_len
  have h5 := @EN_end
  have h6 := @inT_zero
  have h7 := @inT_next
  have h8 := @inT_end
  have h9 := @inT_mono
  (try delta i64 LN); simp only [DRt, ex_sect2]; (repeat' first | apply And.intro | (intro x hq _; replace hq := List.mem_of_getElem? hq; simp only [List.mem_cons, List.not_mem_nil, or_false] at hq) | intro _); all_goals (try omega)
  all_goals (try grind)

theorem rd_u : Reads Try.prog 5 [.u] := reads_u8 Try.underlying5
theorem rd_uL : Reads Try.prog 22 [(.list .u)] := reads_slice (t' := .u) Try.underlying22 (by kernel_rfl) (by decide) rd_u
set_option maxRecDepth 100000 in
theorem lifted_FnTakeEnough (os : Os) (started : os.Started) (H : Type) (enc : TypeId × Value → H) :
    ReturnsInHanded {} Try.checked os 6 .any (Rows.fnTakeEnoughSpec.pre6 enc Try.prog Try.f6 Rows.fnTakeEnoughRow.domain false) (Rows.fnTakeEnoughSpec.post enc Try.prog Try.f6 false true false false) := by
  refine returnsInHanded_of_change (C := Try.checked) head_own started (by kernel_rfl) Try.func6
    (ChangeSpec.witness6 (enc := enc) (C := Try.checked) false ⟨#[], #[.slice none 0 0], []⟩ 8 (by kernel_rfl) (by kernel_rfl) (by kernel_rfl) (by kernel_rfl)) ?_
  intro W base args ds gs before hval0 hW _ _
  have hval : ∀ (j : Nat) t v, Try.f6.params[j]? = some t → args[j]? = some v → Value.okWide Try.prog W .any base t v := hval0
  have hW' := hW
  obtain ⟨p, q, hA0, hV, rfl, hfz, hnd⟩ := hW
  have hA : DataW.TrodAll enc Try.prog W 0 (fun _ => true) true Try.f6.params.toList args.toList ds p := hA0
  rw [Try.params6] at hA hval
  obtain ⟨v0, vs0, d0, ds0, p0, q0, hargs, rfl, rfl, h0, r0⟩ := trodAll_cons hA
  obtain ⟨rfl, rfl, rfl⟩ := trodAll_nil r0
  obtain rfl : args = #[v0] := by cases args; simp_all
  obtain ⟨rfl, rfl⟩ := trodVars_none hV
  have k0 := h0
  obtain ⟨x0, g0⟩ := open_slice1 Try.underlying22 rd_uL (hval 0 22 v0 rfl rfl) h0
  clear hA0 hval0 hval
  refine (law_calls ok_laws_FnTakeEnough (x0, ()) rfl rfl (W := W) (vals := [v0]) ⟨g0, trivial⟩).mono fun e W' ⟨he, bel⟩ => ?_
  subst he
  exact ⟨_, rfl, _, _, _, [], _, [], hW', trodAll_mk1 (shut_bool Try.underlying4 _), (trodAll_cons_mk (Below.trod head_laid (by kernel_rfl) (of_decide_eq_true (by kernel_rfl)) k0 bel (trod_lt_ k0)) trodAll_mk0), rfl, bel.frame _, fun h => by cases h⟩

theorem over_FnTakeEnough : Rows.fnTakeEnoughRow.holds Try.pinned (OpenSpec.ofChange Rows.fnTakeEnoughSpec) :=
  OpenClaim.holds_of_wide 6 Try.f6 rfl rfl rfl rfl rfl rfl rfl ⟨rfl, rfl, rfl, rfl, rfl⟩ rfl rfl rfl rfl rfl (by kernel_rfl) Try.func6 (joined_of head_laid head_rowed head_stops head_stopk head_heard head_enter (show (Rows.fnTakeEnoughRow.lifted == Try.prog.liftsFinal) = true by rw [head_final]; rfl) (show (Try.prog.make == some Rows.fnTakeEnoughRow.make) = true by rw [head_make]; rfl) (by kernel_rfl))
    (of_decide_eq_true (by kernel_rfl)) (by unfold Func.isWrapper; first | (rw [if_pos (by decide +kernel)]; kernel_rfl) | (rw [if_neg (by decide +kernel)]; exact ⟨rfl, rfl⟩))
    (fun os started H enc _ => lifted_FnTakeEnough os started H enc)

theorem proved_FnTakeEnough : Rows.FnTakeEnoughSaid := over_FnTakeEnough
#print axioms proved_FnTakeEnough

end Go.Proofs.Ythkefakjihafeaa
