/- The law on objects that are taken: they are needed. -/
import Derived.Test.YthkefakjihafeaaDrawT
import Derived.Test.YthkefakjihafeaaLTakD
import Derived.Test.YthkefakjihafeaaSame
import Derived.Test.YthkefakjihafeaaHead
set_option linter.unusedVariables false
set_option linter.unusedSimpArgs false
namespace Go.Proofs.Ythkefakjihafeaa
open Go Go.RowKit Go.ChangeShapes Go.WideShapes Go.Deep


theorem namesM_ln (l : List Objt) (h : l.length ≤ 20) : (namesM l).length ≤ 240 := by
  unfold namesM
  split
  · rename_i ho
    have h1 := (sortU_len (flt (missS l) l)).1
    have h3 := flt_len (p := missS l) (objsB_all ho).1
    unfold nMs
    omega
  · simp
def C_laws_FnTakeMembers : Con := { ps := [.ro (.list .u)], out := fun x => let c : List (Int) := x.1; vc .bool true, det := true }
abbrev L_laws_FnTakeMembers : List (Nat × Con) := [(23, C_spec_DrawTakeMembers), (24, C_impl_TakeMembers), (26, C_spec_TakeMembers), (25, C_laws_sameInts), (15, C_laws_alive), (20, C_impl_NamesMissing), (11, C_impl_NamesGiven)]
def G_laws_FnTakeMembers : Cfg := mkG (tyL tys_) L_laws_FnTakeMembers false
def an_laws_FnTakeMembers : PTL C_laws_FnTakeMembers.ps → Nat → Option Ann := fun x kk_ => let c : List (Int) := x.1; if kk_ = 8 then some (.all (List Objt) fun l => .all (List Member) fun a => .all (Int) fun k => .giv (l.length ≤ 5 ∧ a.length ≤ 6 ∧ (takV l a).length ≤ a.length ∧ 0 ≤ k ∧ k ≤ (takV l a).length) (.mk [(3, al (.st .obj) l), (4, al (.st .member) a), (5, al .i (takV l a)), (6, ai k)] [] (((takV l a).length - k.toNat)))) else if kk_ = 2013 then some (.all (List Objt) fun l => .all (List Member) fun a => .all (Int) fun k => .all (Int) fun j => .giv (l.length ≤ 5 ∧ a.length ≤ 6 ∧ (takV l a).length ≤ a.length ∧ 0 ≤ k ∧ k < (takV l a).length ∧ 0 ≤ j ∧ j ≤ k) (.mk [(3, al (.st .obj) l), (4, al (.st .member) a), (5, al .i (takV l a)), (6, ai k), (7, ai j)] [] (((takV l a).length - k.toNat) * 1000 + (k - j).toNat))) else if kk_ = 22 then some (.all (List ByteArray) fun o => .all (List ByteArray) fun g => .all (Int) fun k => .giv (o.length ≤ 240 ∧ g.length ≤ 12 ∧ 0 ≤ k ∧ k ≤ o.length ∧ hitO o g k = true) (.mk [(8, al .str o), (9, al .str g), (10, ai k)] [] ((o.length - k.toNat)))) else if kk_ = 2025 then some (.all (List ByteArray) fun o => .all (List ByteArray) fun g => .all (Int) fun k => .all (Int) fun j => .giv (o.length ≤ 240 ∧ g.length ≤ 12 ∧ 0 ≤ k ∧ k < o.length ∧ 0 ≤ j ∧ j ≤ g.length ∧ hitG o g k j = true) (.mk [(8, al .str o), (9, al .str g), (10, ai k), (11, ai j)] [] ((o.length - k.toNat) * 1000 + (100 - j).toNat))) else none
set_option maxRecDepth 200000 in
theorem vc_laws_FnTakeMembers (c : List (Int)) : (keeps Try.prog G_laws_FnTakeMembers (an_laws_FnTakeMembers (c, ())) (Try.f7.body.getD .skip) Try.f7.results.toList C_laws_FnTakeMembers (c, ())) = ((c.length ≤ 9223372036854775807 →
 (decide (1048576 < LN c) = true →
 true = true ∧ True) ∧ (decide (1048576 < LN c) = false →
 (∀ (x_1 : List Objt), (∀ (x_2 : List Member), x_1.length ≤ 5 ∧ objsA x_1 = true ∧ x_2.length ≤ 6 ∧ mbsA x_2 = true →
 (Bool.not (decide (@Eq (List Int) (takV x_1 x_2) (takV x_1 x_2))) = true →
 false = true ∧ True) ∧ (Bool.not (decide (@Eq (List Int) (takV x_1 x_2) (takV x_1 x_2))) = false →
 (∃ (x_3 : List Objt), (∃ (x_4 : List Member), (∃ (x_5 : Int), @Eq (List Objt) x_1 x_3 ∧ @Eq (List Member) x_2 x_4 ∧ @Eq (List Int) (takV x_1 x_2) (takV x_3 x_4) ∧ 0 = x_5 ∧ (x_3.length ≤ 5 ∧ x_4.length ≤ 6 ∧ (takV x_3 x_4).length ≤ x_4.length ∧ 0 ≤ x_5 ∧ x_5 ≤ LN (takV x_3 x_4)) ∧ True))) ∧ (∀ (x_6 : List Objt), (∀ (x_7 : List Member), (∀ (x_8 : Int), x_6.length ≤ 5 ∧ x_7.length ≤ 6 ∧ (takV x_6 x_7).length ≤ x_7.length ∧ 0 ≤ x_8 ∧ x_8 ≤ LN (takV x_6 x_7) →
 (takV x_6 x_7).length ≤ 9223372036854775807 →
 (decide (x_8 < LN (takV x_6 x_7)) = true →
 (0 ≤ x_8 ∧ x_8 < LN (takV x_6 x_7)) ∧ (∀ (x_9 : Int), (takV x_6 x_7)[x_8.toNat]? = some x_9 →
 Ok (Ty.int IntKind.i64) x_9 →
 (decide (x_9 < 0) = true →
 false = true ∧ True) ∧ (decide (x_9 < 0) = false →
 (0 ≤ x_8 ∧ x_8 < LN (takV x_6 x_7)) ∧ (∀ (x_10 : Int), (takV x_6 x_7)[x_8.toNat]? = some x_10 →
 Ok (Ty.int IntKind.i64) x_10 →
 x_7.length ≤ 9223372036854775807 →
 (decide (LN x_7 ≤ x_10) = true →
 false = true ∧ True) ∧ (decide (LN x_7 ≤ x_10) = false →
 (∃ (x_11 : List Objt), (∃ (x_12 : List Member), (∃ (x_13 : Int), (∃ (x_14 : Int), @Eq (List Objt) x_6 x_11 ∧ @Eq (List Member) x_7 x_12 ∧ @Eq (List Int) (takV x_6 x_7) (takV x_11 x_12) ∧ x_8 = x_13 ∧ 0 = x_14 ∧ (x_11.length ≤ 5 ∧ x_12.length ≤ 6 ∧ (takV x_11 x_12).length ≤ x_12.length ∧ 0 ≤ x_13 ∧ x_13 < LN (takV x_11 x_12) ∧ 0 ≤ x_14 ∧ x_14 ≤ x_13) ∧ (∀ (x_15 : List Objt), (∀ (x_16 : List Member), (∀ (x_17 : Int), (∀ (x_18 : Int), x_15.length ≤ 5 ∧ x_16.length ≤ 6 ∧ (takV x_15 x_16).length ≤ x_16.length ∧ 0 ≤ x_17 ∧ x_17 < LN (takV x_15 x_16) ∧ 0 ≤ x_18 ∧ x_18 ≤ x_17 →
 ((takV x_15 x_16).length - x_17.toNat) * 1000 + (x_17 - x_18).toNat ≤ ((takV x_11 x_12).length - x_13.toNat) * 1000 + (x_13 - x_14).toNat →
 (decide (x_18 < x_17) = true →
 (0 ≤ x_18 ∧ x_18 < LN (takV x_15 x_16)) ∧ (∀ (x_19 : Int), (takV x_15 x_16)[x_18.toNat]? = some x_19 →
 Ok (Ty.int IntKind.i64) x_19 →
 (0 ≤ x_17 ∧ x_17 < LN (takV x_15 x_16)) ∧ (∀ (x_20 : Int), (takV x_15 x_16)[x_17.toNat]? = some x_20 →
 Ok (Ty.int IntKind.i64) x_20 →
 (decide (x_19 = x_20) = true →
 false = true ∧ True) ∧ (decide (x_19 = x_20) = false →
 i64 (x_18 + 1) ∧ (∃ (x_21 : List Objt), (∃ (x_22 : List Member), (∃ (x_23 : Int), (∃ (x_24 : Int), @Eq (List Objt) x_15 x_21 ∧ @Eq (List Member) x_16 x_22 ∧ @Eq (List Int) (takV x_15 x_16) (takV x_21 x_22) ∧ x_17 = x_23 ∧ x_18 + 1 = x_24 ∧ (x_21.length ≤ 5 ∧ x_22.length ≤ 6 ∧ (takV x_21 x_22).length ≤ x_22.length ∧ 0 ≤ x_23 ∧ x_23 < LN (takV x_21 x_22) ∧ 0 ≤ x_24 ∧ x_24 ≤ x_23) ∧ ((takV x_21 x_22).length - x_23.toNat) * 1000 + (x_23 - x_24).toNat < ((takV x_15 x_16).length - x_17.toNat) * 1000 + (x_17 - x_18).toNat)))))))) ∧ (decide (x_18 < x_17) = false →
 i64 (x_17 + 1) ∧ (∃ (x_25 : List Objt), (∃ (x_26 : List Member), (∃ (x_27 : Int), @Eq (List Objt) x_15 x_25 ∧ @Eq (List Member) x_16 x_26 ∧ @Eq (List Int) (takV x_15 x_16) (takV x_25 x_26) ∧ x_17 + 1 = x_27 ∧ (x_25.length ≤ 5 ∧ x_26.length ≤ 6 ∧ (takV x_25 x_26).length ≤ x_26.length ∧ 0 ≤ x_27 ∧ x_27 ≤ LN (takV x_25 x_26)) ∧ (takV x_25 x_26).length - x_27.toNat < (takV x_6 x_7).length - x_8.toNat))))))))))))))))) ∧ (decide (x_8 < LN (takV x_6 x_7)) = false →
 (takV x_6 x_7).length ≤ 9223372036854775807 →
 (decide (LN (takV x_6 x_7) = 0) = true →
 true = true ∧ True) ∧ (decide (LN (takV x_6 x_7) = 0) = false →
 ((0 : Int) ≤ (0 : Int) ∧ 0 < LN (takV x_6 x_7)) ∧ (∀ (x_28 : Int), (takV x_6 x_7)[(0 : Nat)]? = some x_28 →
 Ok (Ty.int IntKind.i64) x_28 →
 (0 ≤ x_28 ∧ x_28 < LN x_7) ∧ (∀ (x_29 : Member), x_7[x_28.toNat]? = some x_29 →
 Ok (Ty.st SN.member) x_29 →
 (∃ (x_30 : List ByteArray), (∃ (x_31 : List ByteArray), (∃ (x_32 : Int), @Eq (List ByteArray) (namesM x_6) x_30 ∧ @Eq (List ByteArray) (namesG (Member.what x_29)) x_31 ∧ 0 = x_32 ∧ (x_30.length ≤ 240 ∧ x_31.length ≤ 12 ∧ 0 ≤ x_32 ∧ x_32 ≤ LN x_30 ∧ hitO x_30 x_31 x_32 = true) ∧ True))) ∧ (∀ (x_33 : List ByteArray), (∀ (x_34 : List ByteArray), (∀ (x_35 : Int), x_33.length ≤ 240 ∧ x_34.length ≤ 12 ∧ 0 ≤ x_35 ∧ x_35 ≤ LN x_33 ∧ hitO x_33 x_34 x_35 = true →
 x_33.length ≤ 9223372036854775807 →
 (decide (x_35 < LN x_33) = true →
 (∃ (x_36 : List ByteArray), (∃ (x_37 : List ByteArray), (∃ (x_38 : Int), (∃ (x_39 : Int), @Eq (List ByteArray) x_33 x_36 ∧ @Eq (List ByteArray) x_34 x_37 ∧ x_35 = x_38 ∧ 0 = x_39 ∧ (x_36.length ≤ 240 ∧ x_37.length ≤ 12 ∧ 0 ≤ x_38 ∧ x_38 < LN x_36 ∧ 0 ≤ x_39 ∧ x_39 ≤ LN x_37 ∧ hitG x_36 x_37 x_38 x_39 = true) ∧ (∀ (x_40 : List ByteArray), (∀ (x_41 : List ByteArray), (∀ (x_42 : Int), (∀ (x_43 : Int), x_40.length ≤ 240 ∧ x_41.length ≤ 12 ∧ 0 ≤ x_42 ∧ x_42 < LN x_40 ∧ 0 ≤ x_43 ∧ x_43 ≤ LN x_41 ∧ hitG x_40 x_41 x_42 x_43 = true →
 (x_40.length - x_42.toNat) * 1000 + (100 - x_43).toNat ≤ (x_36.length - x_38.toNat) * 1000 + (100 - x_39).toNat →
 x_41.length ≤ 9223372036854775807 →
 (decide (x_43 < LN x_41) = true →
 (0 ≤ x_42 ∧ x_42 < LN x_40) ∧ (∀ (x_44 : ByteArray), x_40[x_42.toNat]? = some x_44 →
 Ok Ty.str x_44 →
 (0 ≤ x_43 ∧ x_43 < LN x_41) ∧ (∀ (x_45 : ByteArray), x_41[x_43.toNat]? = some x_45 →
 Ok Ty.str x_45 →
 (decide (@Eq ByteArray x_44 x_45) = true →
 true = true ∧ True) ∧ (decide (@Eq ByteArray x_44 x_45) = false →
 i64 (x_43 + 1) ∧ (∃ (x_46 : List ByteArray), (∃ (x_47 : List ByteArray), (∃ (x_48 : Int), (∃ (x_49 : Int), @Eq (List ByteArray) x_40 x_46 ∧ @Eq (List ByteArray) x_41 x_47 ∧ x_42 = x_48 ∧ x_43 + 1 = x_49 ∧ (x_46.length ≤ 240 ∧ x_47.length ≤ 12 ∧ 0 ≤ x_48 ∧ x_48 < LN x_46 ∧ 0 ≤ x_49 ∧ x_49 ≤ LN x_47 ∧ hitG x_46 x_47 x_48 x_49 = true) ∧ (x_46.length - x_48.toNat) * 1000 + (100 - x_49).toNat < (x_40.length - x_42.toNat) * 1000 + (100 - x_43).toNat)))))))) ∧ (decide (x_43 < LN x_41) = false →
 i64 (x_42 + 1) ∧ (∃ (x_50 : List ByteArray), (∃ (x_51 : List ByteArray), (∃ (x_52 : Int), @Eq (List ByteArray) x_40 x_50 ∧ @Eq (List ByteArray) x_41 x_51 ∧ x_42 + 1 = x_52 ∧ (x_50.length ≤ 240 ∧ x_51.length ≤ 12 ∧ 0 ≤ x_52 ∧ x_52 ≤ LN x_50 ∧ hitO x_50 x_51 x_52 = true) ∧ x_50.length - x_52.toNat < x_33.length - x_35.toNat))))))))))))) ∧ (decide (x_35 < LN x_33) = false →
 false = true ∧ True))))))))))))))))) := by kernel_rfl
theorem det_laws_FnTakeMembers : C_laws_FnTakeMembers.det = true → ∀ x, (C_laws_FnTakeMembers.out x).Det := fun _ _ => Det.vc'
set_option maxRecDepth 200000 in
set_option maxHeartbeats 4000000 in
theorem ok_laws_FnTakeMembers : ConOK Try.prog 7 C_laws_FnTakeMembers := by
  refine con_mk (wr := false) (ty := tyL tys_) (l := L_laws_FnTakeMembers) ⟨⟨ok_spec_DrawTakeMembers, det_spec_DrawTakeMembers⟩, ⟨⟨ok_impl_TakeMembers, det_impl_TakeMembers⟩, ⟨⟨ok_spec_TakeMembers, det_spec_TakeMembers⟩, ⟨⟨ok_laws_sameInts, det_laws_sameInts⟩, ⟨⟨ok_laws_alive, det_laws_alive⟩, ⟨⟨ok_impl_NamesMissing, det_impl_NamesMissing⟩, ⟨⟨ok_impl_NamesGiven, det_impl_NamesGiven⟩, trivial⟩⟩⟩⟩⟩⟩⟩ Try.checked.mixed (fn := Try.f7) (body := Try.f7.body.getD .skip) Try.func7 rfl (by decide) (by kernel_rfl) rfl an_laws_FnTakeMembers fun x ho hx => ?_
  obtain ⟨c, ⟨⟩⟩ := x
  refine Keeps.of (vc_laws_FnTakeMembers c) ?_
  revert c ho hx
  show ∀ (c : List (Int)), _
  intro c ho hx
  dsimp only [C_laws_FnTakeMembers, okPTL, okPT, Ok, Ty.cells, SN.cells, OkL, OkC, okI, ci, cb, cs, cl] at ho
  dsimp only [C_laws_FnTakeMembers, vc, v1, decB, SR.pre] at hx
  have h1 := @takV_rng
  have h2 := @takV_nod
  have h3 := @takV_len
  have h4 := @takV_fst
  have h5 := @hitG_fst
  have h6 := @hitG_next
  have h7 := @hitG_end
  have h8 := @hitO_end
  have h9 := @namesG_12
  have ha := fun l => @namesM_ln l
  (try delta i64 LN); simp only [DRt, ex_sect2]; (repeat' first | apply And.intro | (intro x hq _; replace hq := List.mem_of_getElem? hq; simp only [List.mem_cons, List.not_mem_nil, or_false] at hq) | intro _); all_goals (try omega)
  all_goals (try grind [hitO])

theorem rd_u : Reads Try.prog 5 [.u] := reads_u8 Try.underlying5
theorem rd_uL : Reads Try.prog 22 [(.list .u)] := reads_slice (t' := .u) Try.underlying22 (by kernel_rfl) (by decide) rd_u
set_option maxRecDepth 100000 in
theorem lifted_FnTakeMembers (os : Os) (started : os.Started) (H : Type) (enc : TypeId × Value → H) :
    ReturnsInHanded {} Try.checked os 7 .any (Rows.fnTakeMembersSpec.pre6 enc Try.prog Try.f7 Rows.fnTakeMembersRow.domain false) (Rows.fnTakeMembersSpec.post enc Try.prog Try.f7 false true false false) := by
  refine returnsInHanded_of_change (C := Try.checked) head_own started (by kernel_rfl) Try.func7
    (ChangeSpec.witness6 (enc := enc) (C := Try.checked) false ⟨#[], #[.slice none 0 0], []⟩ 8 (by kernel_rfl) (by kernel_rfl) (by kernel_rfl) (by kernel_rfl)) ?_
  intro W base args ds gs before hval0 hW _ _
  have hval : ∀ (j : Nat) t v, Try.f7.params[j]? = some t → args[j]? = some v → Value.okWide Try.prog W .any base t v := hval0
  have hW' := hW
  obtain ⟨p, q, hA0, hV, rfl, hfz, hnd⟩ := hW
  have hA : DataW.TrodAll enc Try.prog W 0 (fun _ => true) true Try.f7.params.toList args.toList ds p := hA0
  rw [Try.params7] at hA hval
  obtain ⟨v0, vs0, d0, ds0, p0, q0, hargs, rfl, rfl, h0, r0⟩ := trodAll_cons hA
  obtain ⟨rfl, rfl, rfl⟩ := trodAll_nil r0
  obtain rfl : args = #[v0] := by cases args; simp_all
  obtain ⟨rfl, rfl⟩ := trodVars_none hV
  have k0 := h0
  obtain ⟨x0, g0⟩ := open_slice1 Try.underlying22 rd_uL (hval 0 22 v0 rfl rfl) h0
  clear hA0 hval0 hval
  refine (law_calls ok_laws_FnTakeMembers (x0, ()) rfl rfl (W := W) (vals := [v0]) ⟨g0, trivial⟩).mono fun e W' ⟨he, bel⟩ => ?_
  subst he
  exact ⟨_, rfl, _, _, _, [], _, [], hW', trodAll_mk1 (shut_bool Try.underlying4 _), (trodAll_cons_mk (Below.trod head_laid (by kernel_rfl) (of_decide_eq_true (by kernel_rfl)) k0 bel (trod_lt_ k0)) trodAll_mk0), rfl, bel.frame _, fun h => by cases h⟩

theorem over_FnTakeMembers : Rows.fnTakeMembersRow.holds Try.pinned (OpenSpec.ofChange Rows.fnTakeMembersSpec) :=
  OpenClaim.holds_of_wide 7 Try.f7 rfl rfl rfl rfl rfl rfl rfl ⟨rfl, rfl, rfl, rfl, rfl⟩ rfl rfl rfl rfl rfl (by kernel_rfl) Try.func7 (joined_of head_laid head_rowed head_stops head_stopk head_heard head_enter (show (Rows.fnTakeMembersRow.lifted == Try.prog.liftsFinal) = true by rw [head_final]; rfl) (show (Try.prog.make == some Rows.fnTakeMembersRow.make) = true by rw [head_make]; rfl) (by kernel_rfl))
    (of_decide_eq_true (by kernel_rfl)) (by unfold Func.isWrapper; first | (rw [if_pos (by decide +kernel)]; kernel_rfl) | (rw [if_neg (by decide +kernel)]; exact ⟨rfl, rfl⟩))
    (fun os started H enc _ => lifted_FnTakeMembers os started H enc)

theorem proved_FnTakeMembers : Rows.FnTakeMembersSaid := over_FnTakeMembers
#print axioms proved_FnTakeMembers

end Go.Proofs.Ythkefakjihafeaa
