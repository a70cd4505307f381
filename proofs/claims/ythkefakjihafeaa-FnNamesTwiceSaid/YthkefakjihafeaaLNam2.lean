/- The law on names that are given twice. -/
import Derived.Test.YthkefakjihafeaaDrawT
import Derived.Test.YthkefakjihafeaaLNamD
import Derived.Test.YthkefakjihafeaaSame
import Derived.Test.YthkefakjihafeaaHead
set_option linter.unusedVariables false
set_option linter.unusedSimpArgs false
namespace Go.Proofs.Ythkefakjihafeaa
open Go Go.RowKit Go.ChangeShapes Go.WideShapes Go.Deep


def C_laws_FnNamesTwice : Con := { ps := [.ro (.list .u)], out := fun x => let c : List (Int) := x.1; vc .bool true, det := true }
abbrev L_laws_FnNamesTwice : List (Nat × Con) := [(16, C_spec_DrawNamesTwice), (17, C_impl_NamesTwice), (18, C_spec_NamesTwice), (12, C_laws_sameTexts), (11, C_impl_NamesGiven), (15, C_laws_alive)]
def G_laws_FnNamesTwice : Cfg := mkG (tyL tys_) L_laws_FnNamesTwice false
def an_laws_FnNamesTwice : PTL C_laws_FnNamesTwice.ps → Nat → Option Ann := fun x kk_ => let c : List (Int) := x.1; if kk_ = 8 then some (.all (List Objt) fun l => .all (Int) fun k => .giv (l.length ≤ 5 ∧ (namesT l).length ≤ 240 ∧ 0 ≤ k ∧ k ≤ (namesT l).length) (.mk [(3, al (.st .obj) l), (4, al .str (namesT l)), (5, ai k)] [] (((namesT l).length - k.toNat)))) else if kk_ = 2012 then some (.all (List Objt) fun l => .all (Int) fun k => .all (Int) fun j => .giv (l.length ≤ 5 ∧ (namesT l).length ≤ 240 ∧ 0 ≤ k ∧ k < (namesT l).length ∧ 0 ≤ j ∧ j ≤ l.length ∧ cT l (nthB (namesT l) k) j ≤ 12 * j) (.mk [(3, al (.st .obj) l), (4, al .str (namesT l)), (5, ai k), (7, ai j), (6, ai (cT l (nthB (namesT l) k) j))] [] (((namesT l).length - k.toNat) * 1000000 + (100 - j).toNat * 1000))) else if kk_ = 2016 then some (.all (List Objt) fun l => .all (Int) fun k => .all (Int) fun j => .all (Int) fun i => .giv (l.length ≤ 5 ∧ (namesT l).length ≤ 240 ∧ 0 ≤ k ∧ k < (namesT l).length ∧ 0 ≤ j ∧ j < l.length ∧ 0 ≤ i ∧ i ≤ (givAt l j).length ∧ (givAt l j).length ≤ 12 ∧ cT l (nthB (namesT l) k) j ≤ 12 * j) (.mk [(3, al (.st .obj) l), (4, al .str (namesT l)), (5, ai k), (7, ai j), (9, ai i), (8, al .str (givAt l j)), (6, ai (cG l (nthB (namesT l) k) j i))] [] (((namesT l).length - k.toNat) * 1000000 + (100 - j).toNat * 1000 + (100 - i).toNat))) else none
set_option maxRecDepth 200000 in
theorem vc_laws_FnNamesTwice (c : List (Int)) : (keeps Try.prog G_laws_FnNamesTwice (an_laws_FnNamesTwice (c, ())) (Try.f4.body.getD .skip) Try.f4.results.toList C_laws_FnNamesTwice (c, ())) = ((c.length ≤ 9223372036854775807 →
 (decide (1048576 < LN c) = true →
 true = true ∧ True) ∧ (decide (1048576 < LN c) = false →
 (∀ (x_1 : List Objt), x_1.length ≤ 5 ∧ objsA x_1 = true →
 (Bool.not (decide (@Eq (List ByteArray) (namesT x_1) (namesT x_1))) = true →
 false = true ∧ True) ∧ (Bool.not (decide (@Eq (List ByteArray) (namesT x_1) (namesT x_1))) = false →
 (∃ (x_2 : List Objt), (∃ (x_3 : Int), @Eq (List Objt) x_1 x_2 ∧ @Eq (List ByteArray) (namesT x_1) (namesT x_2) ∧ 0 = x_3 ∧ (x_2.length ≤ 5 ∧ (namesT x_2).length ≤ 240 ∧ 0 ≤ x_3 ∧ x_3 ≤ LN (namesT x_2)) ∧ True)) ∧ (∀ (x_4 : List Objt), (∀ (x_5 : Int), x_4.length ≤ 5 ∧ (namesT x_4).length ≤ 240 ∧ 0 ≤ x_5 ∧ x_5 ≤ LN (namesT x_4) →
 (namesT x_4).length ≤ 9223372036854775807 →
 (decide (x_5 < LN (namesT x_4)) = true →
 (∃ (x_6 : List Objt), (∃ (x_7 : Int), (∃ (x_8 : Int), @Eq (List Objt) x_4 x_6 ∧ @Eq (List ByteArray) (namesT x_4) (namesT x_6) ∧ x_5 = x_7 ∧ 0 = x_8 ∧ 0 = cT x_6 (nthB (namesT x_6) x_7) x_8 ∧ (x_6.length ≤ 5 ∧ (namesT x_6).length ≤ 240 ∧ 0 ≤ x_7 ∧ x_7 < LN (namesT x_6) ∧ 0 ≤ x_8 ∧ x_8 ≤ LN x_6 ∧ cT x_6 (nthB (namesT x_6) x_7) x_8 ≤ 12 * x_8) ∧ (∀ (x_9 : List Objt), (∀ (x_10 : Int), (∀ (x_11 : Int), x_9.length ≤ 5 ∧ (namesT x_9).length ≤ 240 ∧ 0 ≤ x_10 ∧ x_10 < LN (namesT x_9) ∧ 0 ≤ x_11 ∧ x_11 ≤ LN x_9 ∧ cT x_9 (nthB (namesT x_9) x_10) x_11 ≤ 12 * x_11 →
 ((namesT x_9).length - x_10.toNat) * 1000000 + (100 - x_11).toNat * 1000 ≤ ((namesT x_6).length - x_7.toNat) * 1000000 + (100 - x_8).toNat * 1000 →
 x_9.length ≤ 9223372036854775807 →
 (decide (x_11 < LN x_9) = true →
 (0 ≤ x_11 ∧ x_11 < LN x_9) ∧ (∀ (x_12 : Objt), x_9[x_11.toNat]? = some x_12 →
 Ok (Ty.st SN.obj) x_12 →
 (∃ (x_13 : List Objt), (∃ (x_14 : Int), (∃ (x_15 : Int), (∃ (x_16 : Int), @Eq (List Objt) x_9 x_13 ∧ @Eq (List ByteArray) (namesT x_9) (namesT x_13) ∧ x_10 = x_14 ∧ x_11 = x_15 ∧ 0 = x_16 ∧ @Eq (List ByteArray) (namesG x_12) (givAt x_13 x_15) ∧ cT x_9 (nthB (namesT x_9) x_10) x_11 = cG x_13 (nthB (namesT x_13) x_14) x_15 x_16 ∧ (x_13.length ≤ 5 ∧ (namesT x_13).length ≤ 240 ∧ 0 ≤ x_14 ∧ x_14 < LN (namesT x_13) ∧ 0 ≤ x_15 ∧ x_15 < LN x_13 ∧ 0 ≤ x_16 ∧ x_16 ≤ LN (givAt x_13 x_15) ∧ (givAt x_13 x_15).length ≤ 12 ∧ cT x_13 (nthB (namesT x_13) x_14) x_15 ≤ 12 * x_15) ∧ (∀ (x_17 : List Objt), (∀ (x_18 : Int), (∀ (x_19 : Int), (∀ (x_20 : Int), x_17.length ≤ 5 ∧ (namesT x_17).length ≤ 240 ∧ 0 ≤ x_18 ∧ x_18 < LN (namesT x_17) ∧ 0 ≤ x_19 ∧ x_19 < LN x_17 ∧ 0 ≤ x_20 ∧ x_20 ≤ LN (givAt x_17 x_19) ∧ (givAt x_17 x_19).length ≤ 12 ∧ cT x_17 (nthB (namesT x_17) x_18) x_19 ≤ 12 * x_19 →
 ((namesT x_17).length - x_18.toNat) * 1000000 + (100 - x_19).toNat * 1000 + (100 - x_20).toNat ≤ ((namesT x_13).length - x_14.toNat) * 1000000 + (100 - x_15).toNat * 1000 + (100 - x_16).toNat →
 (givAt x_17 x_19).length ≤ 9223372036854775807 →
 (decide (x_20 < LN (givAt x_17 x_19)) = true →
 (0 ≤ x_20 ∧ x_20 < LN (givAt x_17 x_19)) ∧ (∀ (x_21 : ByteArray), (givAt x_17 x_19)[x_20.toNat]? = some x_21 →
 Ok Ty.str x_21 →
 (0 ≤ x_18 ∧ x_18 < LN (namesT x_17)) ∧ (∀ (x_22 : ByteArray), (namesT x_17)[x_18.toNat]? = some x_22 →
 Ok Ty.str x_22 →
 (decide (@Eq ByteArray x_21 x_22) = true →
 i64 (cG x_17 (nthB (namesT x_17) x_18) x_19 x_20 + 1) ∧ i64 (x_20 + 1) ∧ (∃ (x_23 : List Objt), (∃ (x_24 : Int), (∃ (x_25 : Int), (∃ (x_26 : Int), @Eq (List Objt) x_17 x_23 ∧ @Eq (List ByteArray) (namesT x_17) (namesT x_23) ∧ x_18 = x_24 ∧ x_19 = x_25 ∧ x_20 + 1 = x_26 ∧ @Eq (List ByteArray) (givAt x_17 x_19) (givAt x_23 x_25) ∧ cG x_17 (nthB (namesT x_17) x_18) x_19 x_20 + 1 = cG x_23 (nthB (namesT x_23) x_24) x_25 x_26 ∧ (x_23.length ≤ 5 ∧ (namesT x_23).length ≤ 240 ∧ 0 ≤ x_24 ∧ x_24 < LN (namesT x_23) ∧ 0 ≤ x_25 ∧ x_25 < LN x_23 ∧ 0 ≤ x_26 ∧ x_26 ≤ LN (givAt x_23 x_25) ∧ (givAt x_23 x_25).length ≤ 12 ∧ cT x_23 (nthB (namesT x_23) x_24) x_25 ≤ 12 * x_25) ∧ ((namesT x_23).length - x_24.toNat) * 1000000 + (100 - x_25).toNat * 1000 + (100 - x_26).toNat < ((namesT x_17).length - x_18.toNat) * 1000000 + (100 - x_19).toNat * 1000 + (100 - x_20).toNat))))) ∧ (decide (@Eq ByteArray x_21 x_22) = false →
 i64 (x_20 + 1) ∧ (∃ (x_27 : List Objt), (∃ (x_28 : Int), (∃ (x_29 : Int), (∃ (x_30 : Int), @Eq (List Objt) x_17 x_27 ∧ @Eq (List ByteArray) (namesT x_17) (namesT x_27) ∧ x_18 = x_28 ∧ x_19 = x_29 ∧ x_20 + 1 = x_30 ∧ @Eq (List ByteArray) (givAt x_17 x_19) (givAt x_27 x_29) ∧ cG x_17 (nthB (namesT x_17) x_18) x_19 x_20 = cG x_27 (nthB (namesT x_27) x_28) x_29 x_30 ∧ (x_27.length ≤ 5 ∧ (namesT x_27).length ≤ 240 ∧ 0 ≤ x_28 ∧ x_28 < LN (namesT x_27) ∧ 0 ≤ x_29 ∧ x_29 < LN x_27 ∧ 0 ≤ x_30 ∧ x_30 ≤ LN (givAt x_27 x_29) ∧ (givAt x_27 x_29).length ≤ 12 ∧ cT x_27 (nthB (namesT x_27) x_28) x_29 ≤ 12 * x_29) ∧ ((namesT x_27).length - x_28.toNat) * 1000000 + (100 - x_29).toNat * 1000 + (100 - x_30).toNat < ((namesT x_17).length - x_18.toNat) * 1000000 + (100 - x_19).toNat * 1000 + (100 - x_20).toNat)))))))) ∧ (decide (x_20 < LN (givAt x_17 x_19)) = false →
 i64 (x_19 + 1) ∧ (∃ (x_31 : List Objt), (∃ (x_32 : Int), (∃ (x_33 : Int), @Eq (List Objt) x_17 x_31 ∧ @Eq (List ByteArray) (namesT x_17) (namesT x_31) ∧ x_18 = x_32 ∧ x_19 + 1 = x_33 ∧ cG x_17 (nthB (namesT x_17) x_18) x_19 x_20 = cT x_31 (nthB (namesT x_31) x_32) x_33 ∧ (x_31.length ≤ 5 ∧ (namesT x_31).length ≤ 240 ∧ 0 ≤ x_32 ∧ x_32 < LN (namesT x_31) ∧ 0 ≤ x_33 ∧ x_33 ≤ LN x_31 ∧ cT x_31 (nthB (namesT x_31) x_32) x_33 ≤ 12 * x_33) ∧ ((namesT x_31).length - x_32.toNat) * 1000000 + (100 - x_33).toNat * 1000 < ((namesT x_9).length - x_10.toNat) * 1000000 + (100 - x_11).toNat * 1000)))))))))))))) ∧ (decide (x_11 < LN x_9) = false →
 (decide (cT x_9 (nthB (namesT x_9) x_10) x_11 < 2) = true →
 false = true ∧ True) ∧ (decide (cT x_9 (nthB (namesT x_9) x_10) x_11 < 2) = false →
 i64 (x_10 + 1) ∧ (∃ (x_34 : List Objt), (∃ (x_35 : Int), @Eq (List Objt) x_9 x_34 ∧ @Eq (List ByteArray) (namesT x_9) (namesT x_34) ∧ x_10 + 1 = x_35 ∧ (x_34.length ≤ 5 ∧ (namesT x_34).length ≤ 240 ∧ 0 ≤ x_35 ∧ x_35 ≤ LN (namesT x_34)) ∧ (namesT x_34).length - x_35.toNat < (namesT x_4).length - x_5.toNat))))))))))) ∧ (decide (x_5 < LN (namesT x_4)) = false →
 x_4.length ≤ 9223372036854775807 →
 (decide (LN x_4 = 0) = true →
 true = true ∧ True) ∧ (decide (LN x_4 = 0) = false →
 ((0 : Int) ≤ (1 : Int) ∧ 1 ≤ LN x_4) ∧ ((namesT ((x_4.drop 0).take 1)).length ≤ 9223372036854775807 →
 (decide (LN (namesT ((x_4.drop 0).take 1)) = 0) = true →
 true = true ∧ True) ∧ (decide (LN (namesT ((x_4.drop 0).take 1)) = 0) = false →
 false = true ∧ True))))))))))) := by kernel_rfl
theorem det_laws_FnNamesTwice : C_laws_FnNamesTwice.det = true → ∀ x, (C_laws_FnNamesTwice.out x).Det := fun _ _ => Det.vc'
set_option maxRecDepth 200000 in
set_option maxHeartbeats 4000000 in
theorem ok_laws_FnNamesTwice : ConOK Try.prog 4 C_laws_FnNamesTwice := by
  refine con_mk (wr := false) (ty := tyL tys_) (l := L_laws_FnNamesTwice) ⟨⟨ok_spec_DrawNamesTwice, det_spec_DrawNamesTwice⟩, ⟨⟨ok_impl_NamesTwice, det_impl_NamesTwice⟩, ⟨⟨ok_spec_NamesTwice, det_spec_NamesTwice⟩, ⟨⟨ok_laws_sameTexts, det_laws_sameTexts⟩, ⟨⟨ok_impl_NamesGiven, det_impl_NamesGiven⟩, ⟨⟨ok_laws_alive, det_laws_alive⟩, trivial⟩⟩⟩⟩⟩⟩ Try.checked.mixed (fn := Try.f4) (body := Try.f4.body.getD .skip) Try.func4 rfl (by decide) (by kernel_rfl) rfl an_laws_FnNamesTwice fun x ho hx => ?_
  obtain ⟨c, ⟨⟩⟩ := x
  refine Keeps.of (vc_laws_FnNamesTwice c) ?_
  revert c ho hx
  show ∀ (c : List (Int)), _
  intro c ho hx
  dsimp only [C_laws_FnNamesTwice, okPTL, okPT, Ok, Ty.cells, SN.cells, OkL, OkC, okI, ci, cb, cs, cl] at ho
  dsimp only [C_laws_FnNamesTwice, vc, v1, decB, SR.pre] at hx
  have h0 := @givAt_12
  have h1 := @givAt_eq
  have h2 := @cG_next
  have h3 := @cG_zero
  have h4 := @cG_bd
  have h5 := @cG_end
  have h10 := @cT_zero
  have h11 := @cT_nn
  have h6 := @twice_two
  have h7 := @twice_one
  have h8 := fun l => @namesT_len l
  (try delta i64 LN); simp only [DRt, ex_sect2]; (repeat' first | apply And.intro | (intro x hq _; replace hq := List.mem_of_getElem? hq; simp only [List.mem_cons, List.not_mem_nil, or_false] at hq) | intro _); all_goals (try omega)
  all_goals first | exact cG_hit (by assumption) (by assumption) (by assumption) (by assumption) | exact cG_mis (by assumption) (by assumption) (by assumption) (by assumption) | exact cT_up (by assumption) (by assumption) (by assumption) | exact twice_no (by assumption) (by assumption) (by assumption) (by assumption) | (try grind)

theorem rd_u : Reads Try.prog 5 [.u] := reads_u8 Try.underlying5
theorem rd_uL : Reads Try.prog 22 [(.list .u)] := reads_slice (t' := .u) Try.underlying22 (by kernel_rfl) (by decide) rd_u
set_option maxRecDepth 100000 in
theorem lifted_FnNamesTwice (os : Os) (started : os.Started) (H : Type) (enc : TypeId × Value → H) :
    ReturnsInHanded {} Try.checked os 4 .any (Rows.fnNamesTwiceSpec.pre6 enc Try.prog Try.f4 Rows.fnNamesTwiceRow.domain false) (Rows.fnNamesTwiceSpec.post enc Try.prog Try.f4 false true false false) := by
  refine returnsInHanded_of_change (C := Try.checked) head_own started (by kernel_rfl) Try.func4
    (ChangeSpec.witness6 (enc := enc) (C := Try.checked) false ⟨#[], #[.slice none 0 0], []⟩ 8 (by kernel_rfl) (by kernel_rfl) (by kernel_rfl) (by kernel_rfl)) ?_
  intro W base args ds gs before hval0 hW _ _
  have hval : ∀ (j : Nat) t v, Try.f4.params[j]? = some t → args[j]? = some v → Value.okWide Try.prog W .any base t v := hval0
  have hW' := hW
  obtain ⟨p, q, hA0, hV, rfl, hfz, hnd⟩ := hW
  have hA : DataW.TrodAll enc Try.prog W 0 (fun _ => true) true Try.f4.params.toList args.toList ds p := hA0
  rw [Try.params4] at hA hval
  obtain ⟨v0, vs0, d0, ds0, p0, q0, hargs, rfl, rfl, h0, r0⟩ := trodAll_cons hA
  obtain ⟨rfl, rfl, rfl⟩ := trodAll_nil r0
  obtain rfl : args = #[v0] := by cases args; simp_all
  obtain ⟨rfl, rfl⟩ := trodVars_none hV
  have k0 := h0
  obtain ⟨x0, g0⟩ := open_slice1 Try.underlying22 rd_uL (hval 0 22 v0 rfl rfl) h0
  clear hA0 hval0 hval
  refine (law_calls ok_laws_FnNamesTwice (x0, ()) rfl rfl (W := W) (vals := [v0]) ⟨g0, trivial⟩).mono fun e W' ⟨he, bel⟩ => ?_
  subst he
  exact ⟨_, rfl, _, _, _, [], _, [], hW', trodAll_mk1 (shut_bool Try.underlying4 _), (trodAll_cons_mk (Below.trod head_laid (by kernel_rfl) (of_decide_eq_true (by kernel_rfl)) k0 bel (trod_lt_ k0)) trodAll_mk0), rfl, bel.frame _, fun h => by cases h⟩

theorem over_FnNamesTwice : Rows.fnNamesTwiceRow.holds Try.pinned (OpenSpec.ofChange Rows.fnNamesTwiceSpec) :=
  OpenClaim.holds_of_wide 4 Try.f4 rfl rfl rfl rfl rfl rfl rfl ⟨rfl, rfl, rfl, rfl, rfl⟩ rfl rfl rfl rfl rfl (by kernel_rfl) Try.func4 (joined_of head_laid head_rowed head_stops head_stopk head_heard head_enter (show (Rows.fnNamesTwiceRow.lifted == Try.prog.liftsFinal) = true by rw [head_final]; rfl) (show (Try.prog.make == some Rows.fnNamesTwiceRow.make) = true by rw [head_make]; rfl) (by kernel_rfl))
    (of_decide_eq_true (by kernel_rfl)) (by unfold Func.isWrapper; first | (rw [if_pos (by decide +kernel)]; kernel_rfl) | (rw [if_neg (by decide +kernel)]; exact ⟨rfl, rfl⟩))
    (fun os started H enc _ => lifted_FnNamesTwice os started H enc)

theorem proved_FnNamesTwice : Rows.FnNamesTwiceSaid := over_FnNamesTwice
#print axioms proved_FnNamesTwice

end Go.Proofs.Ythkefakjihafeaa
