/- The law on names that are missing. -/
import Derived.Test.YthkefakjihafeaaDrawT
import Derived.Test.YthkefakjihafeaaLNamD
import Derived.Test.YthkefakjihafeaaSame
import Derived.Test.YthkefakjihafeaaHead
set_option linter.unusedVariables false
set_option linter.unusedSimpArgs false
namespace Go.Proofs.Ythkefakjihafeaa
open Go Go.RowKit Go.ChangeShapes Go.WideShapes Go.Deep


def C_laws_FnNamesMissing : Con := { ps := [.ro (.list .u)], out := fun x => let c : List (Int) := x.1; vc .bool true, det := true }
abbrev L_laws_FnNamesMissing : List (Nat × Con) := [(19, C_spec_DrawNamesMissing), (20, C_impl_NamesMissing), (21, C_spec_NamesMissing), (12, C_laws_sameTexts), (14, C_impl_FindName), (22, C_impl_NamesWanted), (15, C_laws_alive)]
def G_laws_FnNamesMissing : Cfg := mkG (tyL tys_) L_laws_FnNamesMissing false
def an_laws_FnNamesMissing : PTL C_laws_FnNamesMissing.ps → Nat → Option Ann := fun x kk_ => let c : List (Int) := x.1; if kk_ = 8 then some (.all (List Objt) fun l => .all (Int) fun k => .giv (l.length ≤ 5 ∧ (namesM l).length ≤ 240 ∧ 0 ≤ k ∧ k ≤ (namesM l).length) (.mk [(3, al (.st .obj) l), (4, al .str (namesM l)), (5, ai k)] [] (((namesM l).length - k.toNat)))) else if kk_ = 2013 then some (.all (List Objt) fun l => .all (Int) fun k => .all (Int) fun j => .giv (l.length ≤ 5 ∧ (namesM l).length ≤ 240 ∧ 0 ≤ k ∧ k < (namesM l).length ∧ 0 ≤ j ∧ j ≤ l.length) (.mk [(3, al (.st .obj) l), (4, al .str (namesM l)), (5, ai k), (7, ab false), (9, ai j), (8, ab (wanB l (nthB (namesM l) k) j 0))] [] (((namesM l).length - k.toNat) * 1000000 + (100 - j).toNat * 1000))) else if kk_ = 2017 then some (.all (List Objt) fun l => .all (Int) fun k => .all (Int) fun j => .all (Int) fun i => .giv (l.length ≤ 5 ∧ (namesM l).length ≤ 240 ∧ 0 ≤ k ∧ k < (namesM l).length ∧ 0 ≤ j ∧ j < l.length ∧ 0 ≤ i ∧ i ≤ (wanAt l j).length ∧ (wanAt l j).length ≤ 12) (.mk [(3, al (.st .obj) l), (4, al .str (namesM l)), (5, ai k), (7, ab false), (9, ai j), (11, ai i), (10, al .str (wanAt l j)), (8, ab (wanB l (nthB (namesM l) k) j i))] [] (((namesM l).length - k.toNat) * 1000000 + (100 - j).toNat * 1000 + (100 - i).toNat))) else none
set_option maxRecDepth 200000 in
theorem vc_laws_FnNamesMissing (c : List (Int)) : (keeps Try.prog G_laws_FnNamesMissing (an_laws_FnNamesMissing (c, ())) (Try.f5.body.getD .skip) Try.f5.results.toList C_laws_FnNamesMissing (c, ())) = ((c.length ≤ 9223372036854775807 →
 (decide (1048576 < LN c) = true →
 true = true ∧ True) ∧ (decide (1048576 < LN c) = false →
 (∀ (x_1 : List Objt), x_1.length ≤ 5 ∧ objsA x_1 = true →
 (Bool.not (decide (@Eq (List ByteArray) (namesM x_1) (namesM x_1))) = true →
 false = true ∧ True) ∧ (Bool.not (decide (@Eq (List ByteArray) (namesM x_1) (namesM x_1))) = false →
 (∃ (x_2 : List Objt), (∃ (x_3 : Int), @Eq (List Objt) x_1 x_2 ∧ @Eq (List ByteArray) (namesM x_1) (namesM x_2) ∧ 0 = x_3 ∧ (x_2.length ≤ 5 ∧ (namesM x_2).length ≤ 240 ∧ 0 ≤ x_3 ∧ x_3 ≤ LN (namesM x_2)) ∧ True)) ∧ (∀ (x_4 : List Objt), (∀ (x_5 : Int), x_4.length ≤ 5 ∧ (namesM x_4).length ≤ 240 ∧ 0 ≤ x_5 ∧ x_5 ≤ LN (namesM x_4) →
 (namesM x_4).length ≤ 9223372036854775807 →
 (decide (x_5 < LN (namesM x_4)) = true →
 (0 ≤ x_5 ∧ x_5 < LN (namesM x_4)) ∧ (∀ (x_6 : ByteArray), (namesM x_4)[x_5.toNat]? = some x_6 →
 Ok Ty.str x_6 →
 (∃ (x_7 : List Objt), (∃ (x_8 : Int), (∃ (x_9 : Int), @Eq (List Objt) x_4 x_7 ∧ @Eq (List ByteArray) (namesM x_4) (namesM x_7) ∧ x_5 = x_8 ∧ @Option.isSome Given (fndV x_4 x_6) = false ∧ 0 = x_9 ∧ false = wanB x_7 (nthB (namesM x_7) x_8) x_9 0 ∧ (x_7.length ≤ 5 ∧ (namesM x_7).length ≤ 240 ∧ 0 ≤ x_8 ∧ x_8 < LN (namesM x_7) ∧ 0 ≤ x_9 ∧ x_9 ≤ LN x_7) ∧ (∀ (x_10 : List Objt), (∀ (x_11 : Int), (∀ (x_12 : Int), x_10.length ≤ 5 ∧ (namesM x_10).length ≤ 240 ∧ 0 ≤ x_11 ∧ x_11 < LN (namesM x_10) ∧ 0 ≤ x_12 ∧ x_12 ≤ LN x_10 →
 ((namesM x_10).length - x_11.toNat) * 1000000 + (100 - x_12).toNat * 1000 ≤ ((namesM x_7).length - x_8.toNat) * 1000000 + (100 - x_9).toNat * 1000 →
 x_10.length ≤ 9223372036854775807 →
 (decide (x_12 < LN x_10) = true →
 (0 ≤ x_12 ∧ x_12 < LN x_10) ∧ (∀ (x_13 : Objt), x_10[x_12.toNat]? = some x_13 →
 Ok (Ty.st SN.obj) x_13 →
 (∃ (x_14 : List Objt), (∃ (x_15 : Int), (∃ (x_16 : Int), (∃ (x_17 : Int), @Eq (List Objt) x_10 x_14 ∧ @Eq (List ByteArray) (namesM x_10) (namesM x_14) ∧ x_11 = x_15 ∧ false = false ∧ x_12 = x_16 ∧ 0 = x_17 ∧ @Eq (List ByteArray) (namesW x_13) (wanAt x_14 x_16) ∧ wanB x_10 (nthB (namesM x_10) x_11) x_12 0 = wanB x_14 (nthB (namesM x_14) x_15) x_16 x_17 ∧ (x_14.length ≤ 5 ∧ (namesM x_14).length ≤ 240 ∧ 0 ≤ x_15 ∧ x_15 < LN (namesM x_14) ∧ 0 ≤ x_16 ∧ x_16 < LN x_14 ∧ 0 ≤ x_17 ∧ x_17 ≤ LN (wanAt x_14 x_16) ∧ (wanAt x_14 x_16).length ≤ 12) ∧ (∀ (x_18 : List Objt), (∀ (x_19 : Int), (∀ (x_20 : Int), (∀ (x_21 : Int), x_18.length ≤ 5 ∧ (namesM x_18).length ≤ 240 ∧ 0 ≤ x_19 ∧ x_19 < LN (namesM x_18) ∧ 0 ≤ x_20 ∧ x_20 < LN x_18 ∧ 0 ≤ x_21 ∧ x_21 ≤ LN (wanAt x_18 x_20) ∧ (wanAt x_18 x_20).length ≤ 12 →
 ((namesM x_18).length - x_19.toNat) * 1000000 + (100 - x_20).toNat * 1000 + (100 - x_21).toNat ≤ ((namesM x_14).length - x_15.toNat) * 1000000 + (100 - x_16).toNat * 1000 + (100 - x_17).toNat →
 (wanAt x_18 x_20).length ≤ 9223372036854775807 →
 (decide (x_21 < LN (wanAt x_18 x_20)) = true →
 (wanB x_18 (nthB (namesM x_18) x_19) x_20 x_21 = true →
 i64 (x_21 + 1) ∧ (∃ (x_22 : List Objt), (∃ (x_23 : Int), (∃ (x_24 : Int), (∃ (x_25 : Int), @Eq (List Objt) x_18 x_22 ∧ @Eq (List ByteArray) (namesM x_18) (namesM x_22) ∧ x_19 = x_23 ∧ false = false ∧ x_20 = x_24 ∧ x_21 + 1 = x_25 ∧ @Eq (List ByteArray) (wanAt x_18 x_20) (wanAt x_22 x_24) ∧ true = wanB x_22 (nthB (namesM x_22) x_23) x_24 x_25 ∧ (x_22.length ≤ 5 ∧ (namesM x_22).length ≤ 240 ∧ 0 ≤ x_23 ∧ x_23 < LN (namesM x_22) ∧ 0 ≤ x_24 ∧ x_24 < LN x_22 ∧ 0 ≤ x_25 ∧ x_25 ≤ LN (wanAt x_22 x_24) ∧ (wanAt x_22 x_24).length ≤ 12) ∧ ((namesM x_22).length - x_23.toNat) * 1000000 + (100 - x_24).toNat * 1000 + (100 - x_25).toNat < ((namesM x_18).length - x_19.toNat) * 1000000 + (100 - x_20).toNat * 1000 + (100 - x_21).toNat))))) ∧ (wanB x_18 (nthB (namesM x_18) x_19) x_20 x_21 = false →
 (0 ≤ x_21 ∧ x_21 < LN (wanAt x_18 x_20)) ∧ (∀ (x_26 : ByteArray), (wanAt x_18 x_20)[x_21.toNat]? = some x_26 →
 Ok Ty.str x_26 →
 (0 ≤ x_19 ∧ x_19 < LN (namesM x_18)) ∧ (∀ (x_27 : ByteArray), (namesM x_18)[x_19.toNat]? = some x_27 →
 Ok Ty.str x_27 →
 i64 (x_21 + 1) ∧ (∃ (x_28 : List Objt), (∃ (x_29 : Int), (∃ (x_30 : Int), (∃ (x_31 : Int), @Eq (List Objt) x_18 x_28 ∧ @Eq (List ByteArray) (namesM x_18) (namesM x_28) ∧ x_19 = x_29 ∧ false = false ∧ x_20 = x_30 ∧ x_21 + 1 = x_31 ∧ @Eq (List ByteArray) (wanAt x_18 x_20) (wanAt x_28 x_30) ∧ decide (@Eq ByteArray x_26 x_27) = wanB x_28 (nthB (namesM x_28) x_29) x_30 x_31 ∧ (x_28.length ≤ 5 ∧ (namesM x_28).length ≤ 240 ∧ 0 ≤ x_29 ∧ x_29 < LN (namesM x_28) ∧ 0 ≤ x_30 ∧ x_30 < LN x_28 ∧ 0 ≤ x_31 ∧ x_31 ≤ LN (wanAt x_28 x_30) ∧ (wanAt x_28 x_30).length ≤ 12) ∧ ((namesM x_28).length - x_29.toNat) * 1000000 + (100 - x_30).toNat * 1000 + (100 - x_31).toNat < ((namesM x_18).length - x_19.toNat) * 1000000 + (100 - x_20).toNat * 1000 + (100 - x_21).toNat)))))))) ∧ (decide (x_21 < LN (wanAt x_18 x_20)) = false →
 i64 (x_20 + 1) ∧ (∃ (x_32 : List Objt), (∃ (x_33 : Int), (∃ (x_34 : Int), @Eq (List Objt) x_18 x_32 ∧ @Eq (List ByteArray) (namesM x_18) (namesM x_32) ∧ x_19 = x_33 ∧ false = false ∧ x_20 + 1 = x_34 ∧ wanB x_18 (nthB (namesM x_18) x_19) x_20 x_21 = wanB x_32 (nthB (namesM x_32) x_33) x_34 0 ∧ (x_32.length ≤ 5 ∧ (namesM x_32).length ≤ 240 ∧ 0 ≤ x_33 ∧ x_33 < LN (namesM x_32) ∧ 0 ≤ x_34 ∧ x_34 ≤ LN x_32) ∧ ((namesM x_32).length - x_33.toNat) * 1000000 + (100 - x_34).toNat * 1000 < ((namesM x_10).length - x_11.toNat) * 1000000 + (100 - x_12).toNat * 1000)))))))))))))) ∧ (decide (x_12 < LN x_10) = false →
 (false = true →
 false = true ∧ True) ∧ (false = false →
 (Bool.not (wanB x_10 (nthB (namesM x_10) x_11) x_12 0) = true →
 false = true ∧ True) ∧ (Bool.not (wanB x_10 (nthB (namesM x_10) x_11) x_12 0) = false →
 i64 (x_11 + 1) ∧ (∃ (x_35 : List Objt), (∃ (x_36 : Int), @Eq (List Objt) x_10 x_35 ∧ @Eq (List ByteArray) (namesM x_10) (namesM x_35) ∧ x_11 + 1 = x_36 ∧ (x_35.length ≤ 5 ∧ (namesM x_35).length ≤ 240 ∧ 0 ≤ x_36 ∧ x_36 ≤ LN (namesM x_35)) ∧ (namesM x_35).length - x_36.toNat < (namesM x_4).length - x_5.toNat))))))))))))) ∧ (decide (x_5 < LN (namesM x_4)) = false →
 true = true ∧ True)))))))) := by kernel_rfl
theorem det_laws_FnNamesMissing : C_laws_FnNamesMissing.det = true → ∀ x, (C_laws_FnNamesMissing.out x).Det := fun _ _ => Det.vc'
set_option maxRecDepth 200000 in
set_option maxHeartbeats 4000000 in
theorem ok_laws_FnNamesMissing : ConOK Try.prog 5 C_laws_FnNamesMissing := by
  refine con_mk (wr := false) (ty := tyL tys_) (l := L_laws_FnNamesMissing) ⟨⟨ok_spec_DrawNamesMissing, det_spec_DrawNamesMissing⟩, ⟨⟨ok_impl_NamesMissing, det_impl_NamesMissing⟩, ⟨⟨ok_spec_NamesMissing, det_spec_NamesMissing⟩, ⟨⟨ok_laws_sameTexts, det_laws_sameTexts⟩, ⟨⟨ok_impl_FindName, det_impl_FindName⟩, ⟨⟨ok_impl_NamesWanted, det_impl_NamesWanted⟩, ⟨⟨ok_laws_alive, det_laws_alive⟩, trivial⟩⟩⟩⟩⟩⟩⟩ Try.checked.mixed (fn := Try.f5) (body := Try.f5.body.getD .skip) Try.func5 rfl (by decide) (by kernel_rfl) rfl an_laws_FnNamesMissing fun x ho hx => ?_
  obtain ⟨c, ⟨⟩⟩ := x
  refine Keeps.of (vc_laws_FnNamesMissing c) ?_
  revert c ho hx
  show ∀ (c : List (Int)), _
  intro c ho hx
  dsimp only [C_laws_FnNamesMissing, okPTL, okPT, Ok, Ty.cells, SN.cells, OkL, OkC, okI, ci, cb, cs, cl] at ho
  dsimp only [C_laws_FnNamesMissing, vc, v1, decB, SR.pre] at hx
  have h0 := @wanAt_12
  have h1 := @wanAt_eq
  have h2 := @wanB_first
  have h3 := @wanB_next
  have h4 := @wanB_end
  have h5 := @wanB_all
  have h6 := @miss_none
  have h8 := fun l => @namesM_len l
  have hb := @nthB_eq
  (try delta i64 LN); simp only [DRt, ex_sect2]; (repeat' first | apply And.intro | (intro x hq _; replace hq := List.mem_of_getElem? hq; simp only [List.mem_cons, List.not_mem_nil, or_false] at hq) | intro _); all_goals (try omega)
  all_goals (try grind)

theorem rd_u : Reads Try.prog 5 [.u] := reads_u8 Try.underlying5
theorem rd_uL : Reads Try.prog 22 [(.list .u)] := reads_slice (t' := .u) Try.underlying22 (by kernel_rfl) (by decide) rd_u
set_option maxRecDepth 100000 in
theorem lifted_FnNamesMissing (os : Os) (started : os.Started) (H : Type) (enc : TypeId × Value → H) :
    ReturnsInHanded {} Try.checked os 5 .any (Rows.fnNamesMissingSpec.pre6 enc Try.prog Try.f5 Rows.fnNamesMissingRow.domain false) (Rows.fnNamesMissingSpec.post enc Try.prog Try.f5 false true false false) := by
  refine returnsInHanded_of_change (C := Try.checked) head_own started (by kernel_rfl) Try.func5
    (ChangeSpec.witness6 (enc := enc) (C := Try.checked) false ⟨#[], #[.slice none 0 0], []⟩ 8 (by kernel_rfl) (by kernel_rfl) (by kernel_rfl) (by kernel_rfl)) ?_
  intro W base args ds gs before hval0 hW _ _
  have hval : ∀ (j : Nat) t v, Try.f5.params[j]? = some t → args[j]? = some v → Value.okWide Try.prog W .any base t v := hval0
  have hW' := hW
  obtain ⟨p, q, hA0, hV, rfl, hfz, hnd⟩ := hW
  have hA : DataW.TrodAll enc Try.prog W 0 (fun _ => true) true Try.f5.params.toList args.toList ds p := hA0
  rw [Try.params5] at hA hval
  obtain ⟨v0, vs0, d0, ds0, p0, q0, hargs, rfl, rfl, h0, r0⟩ := trodAll_cons hA
  obtain ⟨rfl, rfl, rfl⟩ := trodAll_nil r0
  obtain rfl : args = #[v0] := by cases args; simp_all
  obtain ⟨rfl, rfl⟩ := trodVars_none hV
  have k0 := h0
  obtain ⟨x0, g0⟩ := open_slice1 Try.underlying22 rd_uL (hval 0 22 v0 rfl rfl) h0
  clear hA0 hval0 hval
  refine (law_calls ok_laws_FnNamesMissing (x0, ()) rfl rfl (W := W) (vals := [v0]) ⟨g0, trivial⟩).mono fun e W' ⟨he, bel⟩ => ?_
  subst he
  exact ⟨_, rfl, _, _, _, [], _, [], hW', trodAll_mk1 (shut_bool Try.underlying4 _), (trodAll_cons_mk (Below.trod head_laid (by kernel_rfl) (of_decide_eq_true (by kernel_rfl)) k0 bel (trod_lt_ k0)) trodAll_mk0), rfl, bel.frame _, fun h => by cases h⟩

theorem over_FnNamesMissing : Rows.fnNamesMissingRow.holds Try.pinned (OpenSpec.ofChange Rows.fnNamesMissingSpec) :=
  OpenClaim.holds_of_wide 5 Try.f5 rfl rfl rfl rfl rfl rfl rfl ⟨rfl, rfl, rfl, rfl, rfl⟩ rfl rfl rfl rfl rfl (by kernel_rfl) Try.func5 (joined_of head_laid head_rowed head_stops head_stopk head_heard head_enter (show (Rows.fnNamesMissingRow.lifted == Try.prog.liftsFinal) = true by rw [head_final]; rfl) (show (Try.prog.make == some Rows.fnNamesMissingRow.make) = true by rw [head_make]; rfl) (by kernel_rfl))
    (of_decide_eq_true (by kernel_rfl)) (by unfold Func.isWrapper; first | (rw [if_pos (by decide +kernel)]; kernel_rfl) | (rw [if_neg (by decide +kernel)]; exact ⟨rfl, rfl⟩))
    (fun os started H enc _ => lifted_FnNamesMissing os started H enc)

theorem proved_FnNamesMissing : Rows.FnNamesMissingSaid := over_FnNamesMissing
#print axioms proved_FnNamesMissing

end Go.Proofs.Ythkefakjihafeaa
