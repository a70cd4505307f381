/- The law that says which members are taken is the reference's. -/
import Derived.Test.YthkefakjihafeaaGreatFamO
import Derived.Test.YthkefakjihafeaaGreatFamP
import Derived.Test.YthkefakjihafeaaGreatFamQ
import Derived.Test.YthkefakjihafeaaGreatTak
import Derived.Test.YthkefakjihafeaaGreatHead
set_option linter.unusedVariables false
set_option linter.unusedSimpArgs false
set_option maxRecDepth 200000
set_option maxHeartbeats 4000000
namespace Go.Proofs.YthkefakjihafeaaGreat
open Go Go.RowKit Go.ChangeShapes Go.WideShapes Go.Deep


theorem takV_bd (l : List Objt) (a : List Member) : (takV l a).length ≤ a.length := by
  unfold takV
  split
  · exact nodup_len (taken_ok l a).nod (taken_ok l a).rng
  · simp
def C_laws_FnExactTakeMembers : Con := { ps := [.ro (.list (.st .obj)), .ro (.list (.st .member))], out := fun x => let l : List (Objt) := x.1; let a : List (Member) := x.2.1; vc .bool true, det := true }
abbrev L_laws_FnExactTakeMembers : List (Nat × Con) := [(4, C_laws_szObjectS), (5, C_laws_szMemberS), (7, C_laws_toObjectS), (8, C_laws_toMemberS), (6, C_spec_TakeMembers), (9, C_impl_TakeMembers), (10, C_laws_eqIntS), (11, C_laws_eqObjectS), (12, C_laws_eqMemberS), (13, C_laws_markObjectS), (14, C_laws_markMemberS), (15, C_laws_markIntS), (16, C_laws_heldIntS)]
def G_laws_FnExactTakeMembers : Cfg := GK L_laws_FnExactTakeMembers
def an_laws_FnExactTakeMembers : PTL C_laws_FnExactTakeMembers.ps → Nat → Option Ann := fun _ _ => none
theorem vc_laws_FnExactTakeMembers (l : List (Objt)) (a : List (Member)) : (KP Tryz.f3 G_laws_FnExactTakeMembers C_laws_FnExactTakeMembers an_laws_FnExactTakeMembers (l, a, ())) = (((0 : Int) ≤ (1048576 : Int) ∧ (1048576 : Int) ≤ (1048576 : Int)) ∧ (decide (szR (LN l + @sumI Objt szOb l) 1048576 < 0) = true →
 true = true ∧ True) ∧ (decide (szR (LN l + @sumI Objt szOb l) 1048576 < 0) = false →
 (0 ≤ szR (LN l + @sumI Objt szOb l) 1048576 ∧ szR (LN l + @sumI Objt szOb l) 1048576 ≤ 1048576) ∧ (decide (szR (LN a + @sumI Member szMb a) (szR (LN l + @sumI Objt szOb l) 1048576) < 0) = true →
 true = true ∧ True) ∧ (decide (szR (LN a + @sumI Member szMb a) (szR (LN l + @sumI Objt szOb l) 1048576) < 0) = false →
 LN l + @sumI Objt szOb l ≤ 1048576 ∧ LN a + @sumI Member szMb a ≤ 1048576 ∧ LN l + @sumI Objt szOb l ≤ 1048576 ∧ LN a + @sumI Member szMb a ≤ 1048576 ∧ (Bool.not (decide (takV l a = takV l a)) = true →
 false = true ∧ True) ∧ (Bool.not (decide (takV l a = takV l a)) = false →
 LN l + @sumI Objt szOb l ≤ 1048576 ∧ (Bool.not (decide (l = l)) = true →
 false = true ∧ True) ∧ (Bool.not (decide (l = l)) = false →
 LN a + @sumI Member szMb a ≤ 1048576 ∧ (Bool.not (decide (a = a)) = true →
 false = true ∧ True) ∧ (Bool.not (decide (a = a)) = false →
 ((0 : Int) ≤ (1 : Int) ∧ 1 + @sumI Objt cOb l ≤ 1000000000000) ∧ (0 ≤ 1 + @sumI Objt cOb l ∧ 1 + @sumI Objt cOb l + @sumI Member cMb a ≤ 1000000000000) ∧ (decide (1 + @sumI Objt cOb l + @sumI Member cMb a < 0) = true →
 false = true ∧ True) ∧ (decide (1 + @sumI Objt cOb l + @sumI Member cMb a < 0) = false →
 (Bool.not (decide (takV l a = takV l a)) = true →
 false = true ∧ True) ∧ (Bool.not (decide (takV l a = takV l a)) = false →
 ((0 : Int) ≤ (1 : Int) ∧ 1 + @sumI Int (@cOne Int) (takV l a) ≤ 1000000000000) ∧ ((0 : Int) ≤ (1 : Int) ∧ 1 + @sumI Int (@cOne Int) (@mkL Int mkI (@cOne Int) (takV l a) (1 : Int)) ≤ 1000000000000) ∧ (decide (@hdL Int hI (@mkL Int mkI (@cOne Int) (takV l a) (1 : Int)) (1 : Int) < 0) = true →
 false = true ∧ True) ∧ (decide (@hdL Int hI (@mkL Int mkI (@cOne Int) (takV l a) (1 : Int)) (1 : Int) < 0) = false →
 (decide (@hdL Int hI (@mkL Int mkI (@cOne Int) (takV l a) (1 : Int)) (1 : Int) ≠ 1 + @sumI Int (@cOne Int) (takV l a)) = true →
 false = true ∧ True) ∧ (decide (@hdL Int hI (@mkL Int mkI (@cOne Int) (takV l a) (1 : Int)) (1 : Int) ≠ 1 + @sumI Int (@cOne Int) (takV l a)) = false →
 LN l + @sumI Objt szOb l ≤ 1048576 ∧ LN a + @sumI Member szMb a ≤ 1048576 ∧ (Bool.not (decide (takV l a = takV l a)) = true →
 false = true ∧ True) ∧ (Bool.not (decide (takV l a = takV l a)) = false →
 ((0 : Int) ≤ (1 : Int) ∧ 1 + @sumI Int (@cOne Int) (@mkL Int mkI (@cOne Int) (takV l a) (1 : Int)) ≤ 1000000000000) ∧ (decide (@hdL Int hI (@mkL Int mkI (@cOne Int) (takV l a) (1 : Int)) (1 : Int) < 0) = true →
 false = true ∧ True) ∧ (decide (@hdL Int hI (@mkL Int mkI (@cOne Int) (takV l a) (1 : Int)) (1 : Int) < 0) = false →
 (decide (@hdL Int hI (@mkL Int mkI (@cOne Int) (takV l a) (1 : Int)) (1 : Int) ≠ 1 + @sumI Int (@cOne Int) (takV l a)) = true →
 false = true ∧ True) ∧ (decide (@hdL Int hI (@mkL Int mkI (@cOne Int) (takV l a) (1 : Int)) (1 : Int) ≠ 1 + @sumI Int (@cOne Int) (takV l a)) = false →
 true = true ∧ True))))))))))))) := by kernel_rfl
theorem det_laws_FnExactTakeMembers : C_laws_FnExactTakeMembers.det = true → ∀ x, (C_laws_FnExactTakeMembers.out x).Det := fun _ _ => Det.vc'
theorem ok_laws_FnExactTakeMembers : ConOK Tryz.prog 3 C_laws_FnExactTakeMembers := by
  refine con_q (l := L_laws_FnExactTakeMembers) ⟨⟨ok_laws_szObjectS, det_laws_szObjectS⟩, ⟨⟨ok_laws_szMemberS, det_laws_szMemberS⟩, ⟨⟨ok_laws_toObjectS, det_laws_toObjectS⟩, ⟨⟨ok_laws_toMemberS, det_laws_toMemberS⟩, ⟨⟨ok_spec_TakeMembers, det_spec_TakeMembers⟩, ⟨⟨ok_impl_TakeMembers, det_impl_TakeMembers⟩, ⟨⟨ok_laws_eqIntS, det_laws_eqIntS⟩, ⟨⟨ok_laws_eqObjectS, det_laws_eqObjectS⟩, ⟨⟨ok_laws_eqMemberS, det_laws_eqMemberS⟩, ⟨⟨ok_laws_markObjectS, det_laws_markObjectS⟩, ⟨⟨ok_laws_markMemberS, det_laws_markMemberS⟩, ⟨⟨ok_laws_markIntS, det_laws_markIntS⟩, ⟨⟨ok_laws_heldIntS, det_laws_heldIntS⟩, trivial⟩⟩⟩⟩⟩⟩⟩⟩⟩⟩⟩⟩⟩ Tryz.func3 rfl (by decide) (by kernel_rfl) rfl an_laws_FnExactTakeMembers fun x ho hx => ?_
  obtain ⟨l, a, ⟨⟩⟩ := x
  refine Keeps.of (vc_laws_FnExactTakeMembers l a) ?_
  revert l a ho hx
  show ∀ (l : List (Objt)) (a : List (Member)), _
  intro l a ho hx
  dsimp only [C_laws_FnExactTakeMembers, okPTL, okPT, Ok, Ty.cells, SN.cells, OkL, OkC, okI, ci, cb, cs, cl] at ho
  dsimp only [C_laws_FnExactTakeMembers, vc, v1, decB, SR.pre] at hx
  have sn := sumI_nn szOb_nn l
  have sm := sumI_nn szMb_nn a
  have q1 := cOb_all l
  have q2 := sumI_nn cOb_nn l
  have q5 := cMb_all a
  have q6 := sumI_nn cMb_nn a
  have q3 := takV_bd l a
  have q4 := cOne_len (takV l a)
  have hm := held_mk cOne_nn hI_mk (takV l a)
  have hc := cOne_mk (mk := mkI) (c := cOne) (takV l a) 1
  (try delta i64 LN); simp only [VBt]; (repeat' first | intro _ | apply And.intro); all_goals (try omega); all_goals (try have hz := szR_nn (by assumption)); all_goals (try have hz1 := szR_nn (s := l.length + sumI szOb l) (n := 1048576) (by assumption)); all_goals first | omega | (rw [hc] at *; omega) | (try grind)

theorem rd_s : Reads Tryz.prog 9 [.str] := reads_string Tryz.underlying9
theorem rd_i : Reads Tryz.prog 3 [.i] := reads_int Tryz.underlying3
theorem rd_u : Reads Tryz.prog 5 [.u] := reads_u8 Tryz.underlying5
theorem rd_uL : Reads Tryz.prog 89 [(.list .u)] := reads_slice (t' := .u) Tryz.underlying89 (by kernel_rfl) (by decide) rd_u
theorem rd_fixup : Reads Tryz.prog 135 (SN.sig .fixup) := reads_fs (sig := SN.sig .fixup) Tryz.underlying135 (by kernel_rfl) (fs_cons (sig := [.i]) rfl (by kernel_rfl) rd_i (fs_cons (sig := [.i]) rfl (by kernel_rfl) rd_i (fs_cons (sig := [.i]) rfl (by kernel_rfl) rd_i (fs_cons (sig := [.i]) rfl (by kernel_rfl) rd_i fs_nil))))
theorem rd_fixupL : Reads Tryz.prog 96 [(.list (.st .fixup))] := reads_slice (t' := (.st .fixup)) Tryz.underlying96 (by kernel_rfl) (by decide) rd_fixup
theorem rd_sect : Reads Tryz.prog 98 (SN.sig .sect) := reads_fs (sig := SN.sig .sect) Tryz.underlying98 (by kernel_rfl) (fs_cons (sig := [.str]) rfl (by kernel_rfl) rd_s (fs_cons (sig := [.i]) rfl (by kernel_rfl) rd_i (fs_cons (sig := [.i]) rfl (by kernel_rfl) rd_i (fs_cons (sig := [(.list .u)]) rfl (by kernel_rfl) rd_uL (fs_cons (sig := [.i]) rfl (by kernel_rfl) rd_i (fs_cons (sig := [(.list (.st .fixup))]) rfl (by kernel_rfl) rd_fixupL fs_nil))))))
theorem rd_sectL : Reads Tryz.prog 40 [(.list (.st .sect))] := reads_slice (t' := (.st .sect)) Tryz.underlying40 (by kernel_rfl) (by decide) rd_sect
theorem rd_sym : Reads Tryz.prog 100 (SN.sig .sym) := reads_fs (sig := SN.sig .sym) Tryz.underlying100 (by kernel_rfl) (fs_cons (sig := [.str]) rfl (by kernel_rfl) rd_s (fs_cons (sig := [.i]) rfl (by kernel_rfl) rd_i (fs_cons (sig := [.i]) rfl (by kernel_rfl) rd_i (fs_cons (sig := [.i]) rfl (by kernel_rfl) rd_i fs_nil))))
theorem rd_symL : Reads Tryz.prog 41 [(.list (.st .sym))] := reads_slice (t' := (.st .sym)) Tryz.underlying41 (by kernel_rfl) (by decide) rd_sym
theorem rd_obj : Reads Tryz.prog 43 (SN.sig .obj) := reads_fs (sig := SN.sig .obj) Tryz.underlying43 (by kernel_rfl) (fs_cons (sig := [(.list (.st .sect))]) rfl (by kernel_rfl) rd_sectL (fs_cons (sig := [(.list (.st .sym))]) rfl (by kernel_rfl) rd_symL fs_nil))
theorem rd_objL : Reads Tryz.prog 22 [(.list (.st .obj))] := reads_slice (t' := (.st .obj)) Tryz.underlying22 (by kernel_rfl) (by decide) rd_obj
theorem rd_member : Reads Tryz.prog 46 (SN.sig .member) := reads_fs (sig := SN.sig .member) Tryz.underlying46 (by kernel_rfl) (fs_cons (sig := [.str]) rfl (by kernel_rfl) rd_s (fs_cons (sig := [(.list (.st .sect)), (.list (.st .sym))]) rfl (by kernel_rfl) rd_obj fs_nil))
theorem rd_memberL : Reads Tryz.prog 23 [(.list (.st .member))] := reads_slice (t' := (.st .member)) Tryz.underlying23 (by kernel_rfl) (by decide) rd_member
set_option maxRecDepth 100000 in
theorem lifted_FnExactTakeMembers (os : Os) (started : os.Started) (H : Type) (enc : TypeId × Value → H) :
    ReturnsInHanded {} Tryz.checked os 3 .any (Rows.fnExactTakeMembersSpec.pre6 enc Tryz.prog Tryz.f3 Rows.fnExactTakeMembersRow.domain false) (Rows.fnExactTakeMembersSpec.post enc Tryz.prog Tryz.f3 false true false false) := by
  refine returnsInHanded_of_change (C := Tryz.checked) head_own started (by kernel_rfl) Tryz.func3
    (ChangeSpec.witness6 (enc := enc) (C := Tryz.checked) false ⟨#[], #[.slice none 0 0, .slice none 0 0], []⟩ 8 (by kernel_rfl) (by kernel_rfl) (by kernel_rfl) (by kernel_rfl)) ?_
  intro W base args ds gs before hval0 hW _ _
  have hval : ∀ (j : Nat) t v, Tryz.f3.params[j]? = some t → args[j]? = some v → Value.okWide Tryz.prog W .any base t v := hval0
  have hW' := hW
  obtain ⟨p, q, hA0, hV, rfl, hfz, hnd⟩ := hW
  have hA : DataW.TrodAll enc Tryz.prog W 0 (fun _ => true) true Tryz.f3.params.toList args.toList ds p := hA0
  rw [Tryz.params3] at hA hval
  obtain ⟨v0, vs0, d0, ds0, p0, q0, hargs, rfl, rfl, h0, r0⟩ := trodAll_cons hA
  obtain ⟨v1, vs1, d1, ds1, p1, q1, rfl, rfl, rfl, h1, r1⟩ := trodAll_cons r0
  obtain ⟨rfl, rfl, rfl⟩ := trodAll_nil r1
  obtain rfl : args = #[v0, v1] := by cases args; simp_all
  obtain ⟨rfl, rfl⟩ := trodVars_none hV
  have k0 := h0
  obtain ⟨x0, g0⟩ := open_slice1 Tryz.underlying22 rd_objL (hval 0 22 v0 rfl rfl) h0
  have k1 := h1
  obtain ⟨x1, g1⟩ := open_slice1 Tryz.underlying23 rd_memberL (hval 1 23 v1 rfl rfl) h1
  clear hA0 hval0 hval
  refine (law_calls ok_laws_FnExactTakeMembers (x0, x1, ()) rfl rfl (W := W) (vals := [v0, v1]) ⟨g0, g1, trivial⟩).mono fun e W' ⟨he, bel⟩ => ?_
  subst he
  exact ⟨_, rfl, _, _, _, [], _, [], hW', trodAll_mk1 (shut_bool Tryz.underlying4 _), (trodAll_cons_mk (Below.trod head_laid (by kernel_rfl) (of_decide_eq_true (by kernel_rfl)) k0 bel (trod_lt_ k0)) (trodAll_cons_mk (Below.trod head_laid (by kernel_rfl) (of_decide_eq_true (by kernel_rfl)) k1 bel (trod_lt_ k1)) trodAll_mk0)), rfl, bel.frame _, fun h => by cases h⟩

theorem over_FnExactTakeMembers : Rows.fnExactTakeMembersRow.holds Tryz.pinned (OpenSpec.ofChange Rows.fnExactTakeMembersSpec) :=
  OpenClaim.holds_of_wide 3 Tryz.f3 rfl rfl rfl rfl rfl rfl rfl ⟨rfl, rfl, rfl, rfl, rfl⟩ rfl rfl rfl rfl rfl (by kernel_rfl) Tryz.func3 (joined_of head_laid head_rowed head_stops head_stopk head_heard head_enter (show (Rows.fnExactTakeMembersRow.lifted == Tryz.prog.liftsFinal) = true by rw [head_final]; rfl) (show (Tryz.prog.make == some Rows.fnExactTakeMembersRow.make) = true by rw [head_make]; rfl) (by kernel_rfl))
    (of_decide_eq_true (by kernel_rfl)) (by unfold Func.isWrapper; first | (rw [if_pos (by decide +kernel)]; kernel_rfl) | (rw [if_neg (by decide +kernel)]; exact ⟨rfl, rfl⟩))
    (fun os started H enc _ => lifted_FnExactTakeMembers os started H enc)

theorem proved_FnExactTakeMembers : Rows.FnExactTakeMembersSaid := over_FnExactTakeMembers
#print axioms proved_FnExactTakeMembers

end Go.Proofs.YthkefakjihafeaaGreat
