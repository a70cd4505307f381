/- The laws that say names that are given twice, and names that are missing, are the reference's. -/
import Derived.Test.YthkefakjihafeaaFamO
import Derived.Test.YthkefakjihafeaaFamQ
import Derived.Test.YthkefakjihafeaaResT
import Derived.Test.YthkefakjihafeaaHead
set_option linter.unusedVariables false
set_option linter.unusedSimpArgs false
namespace Go.Proofs.Ythkefakjihafeaa
open Go Go.RowKit Go.ChangeShapes Go.WideShapes Go.Deep


theorem namesT_bd (l : List Objt) : (namesT l).length ≤ 48 := by
  unfold namesT
  split
  · rename_i ho
    have h1 := (sortU_len (dups [] (flt strongS l))).1
    have h2 := dups_len (flt strongS l) []
    have h3 := flt_len (p := strongS) (objsB_all ho).1
    have h4 := (objsB_all ho).2
    unfold nTw
    omega
  · simp
theorem namesM_bd (l : List Objt) : (namesM l).length ≤ 48 := by
  unfold namesM
  split
  · rename_i ho
    have h1 := (sortU_len (flt (missS l) l)).1
    have h3 := flt_len (p := missS l) (objsB_all ho).1
    have h4 := (objsB_all ho).2
    unfold nMs
    omega
  · simp
def C_laws_FnExactNamesTwice : Con := { ps := [.ro (.list (.st .obj))], out := fun x => let l : List (Objt) := x.1; vc .bool true, det := true }
abbrev L_laws_FnExactNamesTwice : List (Nat × Con) := [(27, C_laws_szObjectS), (28, C_laws_toObjectS), (18, C_spec_NamesTwice), (17, C_impl_NamesTwice), (29, C_laws_eqStringS), (30, C_laws_eqObjectS), (31, C_laws_markObjectS), (32, C_laws_markStringS), (33, C_laws_heldStringS)]
def G_laws_FnExactNamesTwice : Cfg := mkG (tyL tys_) L_laws_FnExactNamesTwice false
def an_laws_FnExactNamesTwice : PTL C_laws_FnExactNamesTwice.ps → Nat → Option Ann := fun _ _ => none
set_option maxRecDepth 200000 in
theorem vc_laws_FnExactNamesTwice (l : List (Objt)) : (keeps Try.prog G_laws_FnExactNamesTwice (an_laws_FnExactNamesTwice (l, ())) (Try.f9.body.getD .skip) Try.f9.results.toList C_laws_FnExactNamesTwice (l, ())) = ((((0 : Int) ≤ (1048576 : Int) ∧ (1048576 : Int) ≤ (1048576 : Int)) ∧ (decide (szR (LN l + @sumI Objt szOb l) 1048576 < 0) = true →
 true = true ∧ True) ∧ (decide (szR (LN l + @sumI Objt szOb l) 1048576 < 0) = false →
 LN l + @sumI Objt szOb l ≤ 1048576 ∧ LN l + @sumI Objt szOb l ≤ 1048576 ∧ (Bool.not (decide (@Eq (List ByteArray) (namesT l) (namesT l))) = true →
 false = true ∧ True) ∧ (Bool.not (decide (@Eq (List ByteArray) (namesT l) (namesT l))) = false →
 LN l + @sumI Objt szOb l ≤ 1048576 ∧ (Bool.not (decide (@Eq (List Objt) l l)) = true →
 false = true ∧ True) ∧ (Bool.not (decide (@Eq (List Objt) l l)) = false →
 ((0 : Int) ≤ (1 : Int) ∧ 1 + @sumI Objt cOb l ≤ 1000000000000) ∧ (decide (1 + @sumI Objt cOb l < 0) = true →
 false = true ∧ True) ∧ (decide (1 + @sumI Objt cOb l < 0) = false →
 (Bool.not (decide (@Eq (List ByteArray) (namesT l) (namesT l))) = true →
 false = true ∧ True) ∧ (Bool.not (decide (@Eq (List ByteArray) (namesT l) (namesT l))) = false →
 ((0 : Int) ≤ (1 : Int) ∧ 1 + @sumI ByteArray (@cOne ByteArray) (namesT l) ≤ 1000000000000) ∧ ((0 : Int) ≤ (1 : Int) ∧ 1 + @sumI ByteArray (@cOne ByteArray) (@mkL ByteArray mkSt (@cOne ByteArray) (namesT l) (1 : Int)) ≤ 1000000000000) ∧ (decide (@hdL ByteArray hSt (@mkL ByteArray mkSt (@cOne ByteArray) (namesT l) (1 : Int)) (1 : Int) < 0) = true →
 false = true ∧ True) ∧ (decide (@hdL ByteArray hSt (@mkL ByteArray mkSt (@cOne ByteArray) (namesT l) (1 : Int)) (1 : Int) < 0) = false →
 (decide (@hdL ByteArray hSt (@mkL ByteArray mkSt (@cOne ByteArray) (namesT l) (1 : Int)) (1 : Int) ≠ 1 + @sumI ByteArray (@cOne ByteArray) (namesT l)) = true →
 false = true ∧ True) ∧ (decide (@hdL ByteArray hSt (@mkL ByteArray mkSt (@cOne ByteArray) (namesT l) (1 : Int)) (1 : Int) ≠ 1 + @sumI ByteArray (@cOne ByteArray) (namesT l)) = false →
 LN l + @sumI Objt szOb l ≤ 1048576 ∧ (Bool.not (decide (@Eq (List ByteArray) (namesT l) (namesT l))) = true →
 false = true ∧ True) ∧ (Bool.not (decide (@Eq (List ByteArray) (namesT l) (namesT l))) = false →
 ((0 : Int) ≤ (1 : Int) ∧ 1 + @sumI ByteArray (@cOne ByteArray) (@mkL ByteArray mkSt (@cOne ByteArray) (namesT l) (1 : Int)) ≤ 1000000000000) ∧ (decide (@hdL ByteArray hSt (@mkL ByteArray mkSt (@cOne ByteArray) (namesT l) (1 : Int)) (1 : Int) < 0) = true →
 false = true ∧ True) ∧ (decide (@hdL ByteArray hSt (@mkL ByteArray mkSt (@cOne ByteArray) (namesT l) (1 : Int)) (1 : Int) < 0) = false →
 (decide (@hdL ByteArray hSt (@mkL ByteArray mkSt (@cOne ByteArray) (namesT l) (1 : Int)) (1 : Int) ≠ 1 + @sumI ByteArray (@cOne ByteArray) (namesT l)) = true →
 false = true ∧ True) ∧ (decide (@hdL ByteArray hSt (@mkL ByteArray mkSt (@cOne ByteArray) (namesT l) (1 : Int)) (1 : Int) ≠ 1 + @sumI ByteArray (@cOne ByteArray) (namesT l)) = false →
 true = true ∧ True)))))))))))) := by kernel_rfl
theorem det_laws_FnExactNamesTwice : C_laws_FnExactNamesTwice.det = true → ∀ x, (C_laws_FnExactNamesTwice.out x).Det := fun _ _ => Det.vc'
set_option maxRecDepth 200000 in
set_option maxHeartbeats 4000000 in
theorem ok_laws_FnExactNamesTwice : ConOK Try.prog 9 C_laws_FnExactNamesTwice := by
  refine con_mk (wr := false) (ty := tyL tys_) (l := L_laws_FnExactNamesTwice) ⟨⟨ok_laws_szObjectS, det_laws_szObjectS⟩, ⟨⟨ok_laws_toObjectS, det_laws_toObjectS⟩, ⟨⟨ok_spec_NamesTwice, det_spec_NamesTwice⟩, ⟨⟨ok_impl_NamesTwice, det_impl_NamesTwice⟩, ⟨⟨ok_laws_eqStringS, det_laws_eqStringS⟩, ⟨⟨ok_laws_eqObjectS, det_laws_eqObjectS⟩, ⟨⟨ok_laws_markObjectS, det_laws_markObjectS⟩, ⟨⟨ok_laws_markStringS, det_laws_markStringS⟩, ⟨⟨ok_laws_heldStringS, det_laws_heldStringS⟩, trivial⟩⟩⟩⟩⟩⟩⟩⟩⟩ Try.checked.mixed (fn := Try.f9) (body := Try.f9.body.getD .skip) Try.func9 rfl (by decide) (by kernel_rfl) rfl an_laws_FnExactNamesTwice fun x ho hx => ?_
  obtain ⟨l, ⟨⟩⟩ := x
  refine Keeps.of (vc_laws_FnExactNamesTwice l) ?_
  revert l ho hx
  show ∀ (l : List (Objt)), _
  intro l ho hx
  dsimp only [C_laws_FnExactNamesTwice, okPTL, okPT, Ok, Ty.cells, SN.cells, OkL, OkC, okI, ci, cb, cs, cl] at ho
  dsimp only [C_laws_FnExactNamesTwice, vc, v1, decB, SR.pre] at hx
  have sn := sumI_nn szOb_nn l
  have q1 := cOb_all l
  have q2 := sumI_nn cOb_nn l
  have q3 := namesT_bd l
  have q4 := cOne_len (namesT l)
  have hm := held_mk cOne_nn hSt_mk (namesT l)
  have hc := cOne_mk (mk := mkSt) (c := cOne) (namesT l) 1
  (try delta i64 LN); simp only [VBt]; (repeat' first | intro _ | apply And.intro); all_goals (try omega); all_goals (try have hz := szR_nn (by assumption)); all_goals first | omega | (rw [hc] at *; omega) | (try grind)
def C_laws_FnExactNamesMissing : Con := { ps := [.ro (.list (.st .obj))], out := fun x => let l : List (Objt) := x.1; vc .bool true, det := true }
abbrev L_laws_FnExactNamesMissing : List (Nat × Con) := [(27, C_laws_szObjectS), (28, C_laws_toObjectS), (21, C_spec_NamesMissing), (20, C_impl_NamesMissing), (29, C_laws_eqStringS), (30, C_laws_eqObjectS), (31, C_laws_markObjectS), (32, C_laws_markStringS), (33, C_laws_heldStringS)]
def G_laws_FnExactNamesMissing : Cfg := mkG (tyL tys_) L_laws_FnExactNamesMissing false
def an_laws_FnExactNamesMissing : PTL C_laws_FnExactNamesMissing.ps → Nat → Option Ann := fun _ _ => none
set_option maxRecDepth 200000 in
theorem vc_laws_FnExactNamesMissing (l : List (Objt)) : (keeps Try.prog G_laws_FnExactNamesMissing (an_laws_FnExactNamesMissing (l, ())) (Try.f8.body.getD .skip) Try.f8.results.toList C_laws_FnExactNamesMissing (l, ())) = ((((0 : Int) ≤ (1048576 : Int) ∧ (1048576 : Int) ≤ (1048576 : Int)) ∧ (decide (szR (LN l + @sumI Objt szOb l) 1048576 < 0) = true →
 true = true ∧ True) ∧ (decide (szR (LN l + @sumI Objt szOb l) 1048576 < 0) = false →
 LN l + @sumI Objt szOb l ≤ 1048576 ∧ LN l + @sumI Objt szOb l ≤ 1048576 ∧ (Bool.not (decide (@Eq (List ByteArray) (namesM l) (namesM l))) = true →
 false = true ∧ True) ∧ (Bool.not (decide (@Eq (List ByteArray) (namesM l) (namesM l))) = false →
 LN l + @sumI Objt szOb l ≤ 1048576 ∧ (Bool.not (decide (@Eq (List Objt) l l)) = true →
 false = true ∧ True) ∧ (Bool.not (decide (@Eq (List Objt) l l)) = false →
 ((0 : Int) ≤ (1 : Int) ∧ 1 + @sumI Objt cOb l ≤ 1000000000000) ∧ (decide (1 + @sumI Objt cOb l < 0) = true →
 false = true ∧ True) ∧ (decide (1 + @sumI Objt cOb l < 0) = false →
 (Bool.not (decide (@Eq (List ByteArray) (namesM l) (namesM l))) = true →
 false = true ∧ True) ∧ (Bool.not (decide (@Eq (List ByteArray) (namesM l) (namesM l))) = false →
 ((0 : Int) ≤ (1 : Int) ∧ 1 + @sumI ByteArray (@cOne ByteArray) (namesM l) ≤ 1000000000000) ∧ ((0 : Int) ≤ (1 : Int) ∧ 1 + @sumI ByteArray (@cOne ByteArray) (@mkL ByteArray mkSt (@cOne ByteArray) (namesM l) (1 : Int)) ≤ 1000000000000) ∧ (decide (@hdL ByteArray hSt (@mkL ByteArray mkSt (@cOne ByteArray) (namesM l) (1 : Int)) (1 : Int) < 0) = true →
 false = true ∧ True) ∧ (decide (@hdL ByteArray hSt (@mkL ByteArray mkSt (@cOne ByteArray) (namesM l) (1 : Int)) (1 : Int) < 0) = false →
 (decide (@hdL ByteArray hSt (@mkL ByteArray mkSt (@cOne ByteArray) (namesM l) (1 : Int)) (1 : Int) ≠ 1 + @sumI ByteArray (@cOne ByteArray) (namesM l)) = true →
 false = true ∧ True) ∧ (decide (@hdL ByteArray hSt (@mkL ByteArray mkSt (@cOne ByteArray) (namesM l) (1 : Int)) (1 : Int) ≠ 1 + @sumI ByteArray (@cOne ByteArray) (namesM l)) = false →
 LN l + @sumI Objt szOb l ≤ 1048576 ∧ (Bool.not (decide (@Eq (List ByteArray) (namesM l) (namesM l))) = true →
 false = true ∧ True) ∧ (Bool.not (decide (@Eq (List ByteArray) (namesM l) (namesM l))) = false →
 ((0 : Int) ≤ (1 : Int) ∧ 1 + @sumI ByteArray (@cOne ByteArray) (@mkL ByteArray mkSt (@cOne ByteArray) (namesM l) (1 : Int)) ≤ 1000000000000) ∧ (decide (@hdL ByteArray hSt (@mkL ByteArray mkSt (@cOne ByteArray) (namesM l) (1 : Int)) (1 : Int) < 0) = true →
 false = true ∧ True) ∧ (decide (@hdL ByteArray hSt (@mkL ByteArray mkSt (@cOne ByteArray) (namesM l) (1 : Int)) (1 : Int) < 0) = false →
 (decide (@hdL ByteArray hSt (@mkL ByteArray mkSt (@cOne ByteArray) (namesM l) (1 : Int)) (1 : Int) ≠ 1 + @sumI ByteArray (@cOne ByteArray) (namesM l)) = true →
 false = true ∧ True) ∧ (decide (@hdL ByteArray hSt (@mkL ByteArray mkSt (@cOne ByteArray) (namesM l) (1 : Int)) (1 : Int) ≠ 1 + @sumI ByteArray (@cOne ByteArray) (namesM l)) = false →
 true = true ∧ True)))))))))))) := by kernel_rfl
theorem det_laws_FnExactNamesMissing : C_laws_FnExactNamesMissing.det = true → ∀ x, (C_laws_FnExactNamesMissing.out x).Det := fun _ _ => Det.vc'
set_option maxRecDepth 200000 in
set_option maxHeartbeats 4000000 in
theorem ok_laws_FnExactNamesMissing : ConOK Try.prog 8 C_laws_FnExactNamesMissing := by
  refine con_mk (wr := false) (ty := tyL tys_) (l := L_laws_FnExactNamesMissing) ⟨⟨ok_laws_szObjectS, det_laws_szObjectS⟩, ⟨⟨ok_laws_toObjectS, det_laws_toObjectS⟩, ⟨⟨ok_spec_NamesMissing, det_spec_NamesMissing⟩, ⟨⟨ok_impl_NamesMissing, det_impl_NamesMissing⟩, ⟨⟨ok_laws_eqStringS, det_laws_eqStringS⟩, ⟨⟨ok_laws_eqObjectS, det_laws_eqObjectS⟩, ⟨⟨ok_laws_markObjectS, det_laws_markObjectS⟩, ⟨⟨ok_laws_markStringS, det_laws_markStringS⟩, ⟨⟨ok_laws_heldStringS, det_laws_heldStringS⟩, trivial⟩⟩⟩⟩⟩⟩⟩⟩⟩ Try.checked.mixed (fn := Try.f8) (body := Try.f8.body.getD .skip) Try.func8 rfl (by decide) (by kernel_rfl) rfl an_laws_FnExactNamesMissing fun x ho hx => ?_
  obtain ⟨l, ⟨⟩⟩ := x
  refine Keeps.of (vc_laws_FnExactNamesMissing l) ?_
  revert l ho hx
  show ∀ (l : List (Objt)), _
  intro l ho hx
  dsimp only [C_laws_FnExactNamesMissing, okPTL, okPT, Ok, Ty.cells, SN.cells, OkL, OkC, okI, ci, cb, cs, cl] at ho
  dsimp only [C_laws_FnExactNamesMissing, vc, v1, decB, SR.pre] at hx
  have sn := sumI_nn szOb_nn l
  have q1 := cOb_all l
  have q2 := sumI_nn cOb_nn l
  have q3 := namesM_bd l
  have q4 := cOne_len (namesM l)
  have hm := held_mk cOne_nn hSt_mk (namesM l)
  have hc := cOne_mk (mk := mkSt) (c := cOne) (namesM l) 1
  (try delta i64 LN); simp only [VBt]; (repeat' first | intro _ | apply And.intro); all_goals (try omega); all_goals (try have hz := szR_nn (by assumption)); all_goals first | omega | (rw [hc] at *; omega) | (try grind)

theorem rd_s : Reads Try.prog 9 [.str] := reads_string Try.underlying9
theorem rd_i : Reads Try.prog 3 [.i] := reads_int Try.underlying3
theorem rd_u : Reads Try.prog 5 [.u] := reads_u8 Try.underlying5
theorem rd_uL : Reads Try.prog 22 [(.list .u)] := reads_slice (t' := .u) Try.underlying22 (by kernel_rfl) (by decide) rd_u
theorem rd_fixup : Reads Try.prog 159 (SN.sig .fixup) := reads_fs (sig := SN.sig .fixup) Try.underlying159 (by kernel_rfl) (fs_cons (sig := [.i]) rfl (by kernel_rfl) rd_i (fs_cons (sig := [.i]) rfl (by kernel_rfl) rd_i (fs_cons (sig := [.i]) rfl (by kernel_rfl) rd_i (fs_cons (sig := [.i]) rfl (by kernel_rfl) rd_i fs_nil))))
theorem rd_fixupL : Reads Try.prog 127 [(.list (.st .fixup))] := reads_slice (t' := (.st .fixup)) Try.underlying127 (by kernel_rfl) (by decide) rd_fixup
theorem rd_sect : Reads Try.prog 129 (SN.sig .sect) := reads_fs (sig := SN.sig .sect) Try.underlying129 (by kernel_rfl) (fs_cons (sig := [.str]) rfl (by kernel_rfl) rd_s (fs_cons (sig := [.i]) rfl (by kernel_rfl) rd_i (fs_cons (sig := [.i]) rfl (by kernel_rfl) rd_i (fs_cons (sig := [(.list .u)]) rfl (by kernel_rfl) rd_uL (fs_cons (sig := [.i]) rfl (by kernel_rfl) rd_i (fs_cons (sig := [(.list (.st .fixup))]) rfl (by kernel_rfl) rd_fixupL fs_nil))))))
theorem rd_sectL : Reads Try.prog 75 [(.list (.st .sect))] := reads_slice (t' := (.st .sect)) Try.underlying75 (by kernel_rfl) (by decide) rd_sect
theorem rd_sym : Reads Try.prog 131 (SN.sig .sym) := reads_fs (sig := SN.sig .sym) Try.underlying131 (by kernel_rfl) (fs_cons (sig := [.str]) rfl (by kernel_rfl) rd_s (fs_cons (sig := [.i]) rfl (by kernel_rfl) rd_i (fs_cons (sig := [.i]) rfl (by kernel_rfl) rd_i (fs_cons (sig := [.i]) rfl (by kernel_rfl) rd_i fs_nil))))
theorem rd_symL : Reads Try.prog 76 [(.list (.st .sym))] := reads_slice (t' := (.st .sym)) Try.underlying76 (by kernel_rfl) (by decide) rd_sym
theorem rd_obj : Reads Try.prog 78 (SN.sig .obj) := reads_fs (sig := SN.sig .obj) Try.underlying78 (by kernel_rfl) (fs_cons (sig := [(.list (.st .sect))]) rfl (by kernel_rfl) rd_sectL (fs_cons (sig := [(.list (.st .sym))]) rfl (by kernel_rfl) rd_symL fs_nil))
theorem rd_objL : Reads Try.prog 50 [(.list (.st .obj))] := reads_slice (t' := (.st .obj)) Try.underlying50 (by kernel_rfl) (by decide) rd_obj
set_option maxRecDepth 100000 in
theorem lifted_FnExactNamesTwice (os : Os) (started : os.Started) (H : Type) (enc : TypeId × Value → H) :
    ReturnsInHanded {} Try.checked os 9 .any (Rows.fnExactNamesTwiceSpec.pre6 enc Try.prog Try.f9 Rows.fnExactNamesTwiceRow.domain false) (Rows.fnExactNamesTwiceSpec.post enc Try.prog Try.f9 false true false false) := by
  refine returnsInHanded_of_change (C := Try.checked) head_own started (by kernel_rfl) Try.func9
    (ChangeSpec.witness6 (enc := enc) (C := Try.checked) false ⟨#[], #[.slice none 0 0], []⟩ 8 (by kernel_rfl) (by kernel_rfl) (by kernel_rfl) (by kernel_rfl)) ?_
  intro W base args ds gs before hval0 hW _ _
  have hval : ∀ (j : Nat) t v, Try.f9.params[j]? = some t → args[j]? = some v → Value.okWide Try.prog W .any base t v := hval0
  have hW' := hW
  obtain ⟨p, q, hA0, hV, rfl, hfz, hnd⟩ := hW
  have hA : DataW.TrodAll enc Try.prog W 0 (fun _ => true) true Try.f9.params.toList args.toList ds p := hA0
  rw [Try.params9] at hA hval
  obtain ⟨v0, vs0, d0, ds0, p0, q0, hargs, rfl, rfl, h0, r0⟩ := trodAll_cons hA
  obtain ⟨rfl, rfl, rfl⟩ := trodAll_nil r0
  obtain rfl : args = #[v0] := by cases args; simp_all
  obtain ⟨rfl, rfl⟩ := trodVars_none hV
  have k0 := h0
  obtain ⟨x0, g0⟩ := open_slice1 Try.underlying50 rd_objL (hval 0 50 v0 rfl rfl) h0
  clear hA0 hval0 hval
  refine (law_calls ok_laws_FnExactNamesTwice (x0, ()) rfl rfl (W := W) (vals := [v0]) ⟨g0, trivial⟩).mono fun e W' ⟨he, bel⟩ => ?_
  subst he
  exact ⟨_, rfl, _, _, _, [], _, [], hW', trodAll_mk1 (shut_bool Try.underlying4 _), (trodAll_cons_mk (Below.trod head_laid (by kernel_rfl) (of_decide_eq_true (by kernel_rfl)) k0 bel (trod_lt_ k0)) trodAll_mk0), rfl, bel.frame _, fun h => by cases h⟩

theorem over_FnExactNamesTwice : Rows.fnExactNamesTwiceRow.holds Try.pinned (OpenSpec.ofChange Rows.fnExactNamesTwiceSpec) :=
  OpenClaim.holds_of_wide 9 Try.f9 rfl rfl rfl rfl rfl rfl rfl ⟨rfl, rfl, rfl, rfl, rfl⟩ rfl rfl rfl rfl rfl (by kernel_rfl) Try.func9 (joined_of head_laid head_rowed head_stops head_stopk head_heard head_enter (show (Rows.fnExactNamesTwiceRow.lifted == Try.prog.liftsFinal) = true by rw [head_final]; rfl) (show (Try.prog.make == some Rows.fnExactNamesTwiceRow.make) = true by rw [head_make]; rfl) (by kernel_rfl))
    (of_decide_eq_true (by kernel_rfl)) (by unfold Func.isWrapper; first | (rw [if_pos (by decide +kernel)]; kernel_rfl) | (rw [if_neg (by decide +kernel)]; exact ⟨rfl, rfl⟩))
    (fun os started H enc _ => lifted_FnExactNamesTwice os started H enc)

theorem proved_FnExactNamesTwice : Rows.FnExactNamesTwiceSaid := over_FnExactNamesTwice
#print axioms proved_FnExactNamesTwice


set_option maxRecDepth 100000 in
theorem lifted_FnExactNamesMissing (os : Os) (started : os.Started) (H : Type) (enc : TypeId × Value → H) :
    ReturnsInHanded {} Try.checked os 8 .any (Rows.fnExactNamesMissingSpec.pre6 enc Try.prog Try.f8 Rows.fnExactNamesMissingRow.domain false) (Rows.fnExactNamesMissingSpec.post enc Try.prog Try.f8 false true false false) := by
  refine returnsInHanded_of_change (C := Try.checked) head_own started (by kernel_rfl) Try.func8
    (ChangeSpec.witness6 (enc := enc) (C := Try.checked) false ⟨#[], #[.slice none 0 0], []⟩ 8 (by kernel_rfl) (by kernel_rfl) (by kernel_rfl) (by kernel_rfl)) ?_
  intro W base args ds gs before hval0 hW _ _
  have hval : ∀ (j : Nat) t v, Try.f8.params[j]? = some t → args[j]? = some v → Value.okWide Try.prog W .any base t v := hval0
  have hW' := hW
  obtain ⟨p, q, hA0, hV, rfl, hfz, hnd⟩ := hW
  have hA : DataW.TrodAll enc Try.prog W 0 (fun _ => true) true Try.f8.params.toList args.toList ds p := hA0
  rw [Try.params8] at hA hval
  obtain ⟨v0, vs0, d0, ds0, p0, q0, hargs, rfl, rfl, h0, r0⟩ := trodAll_cons hA
  obtain ⟨rfl, rfl, rfl⟩ := trodAll_nil r0
  obtain rfl : args = #[v0] := by cases args; simp_all
  obtain ⟨rfl, rfl⟩ := trodVars_none hV
  have k0 := h0
  obtain ⟨x0, g0⟩ := open_slice1 Try.underlying50 rd_objL (hval 0 50 v0 rfl rfl) h0
  clear hA0 hval0 hval
  refine (law_calls ok_laws_FnExactNamesMissing (x0, ()) rfl rfl (W := W) (vals := [v0]) ⟨g0, trivial⟩).mono fun e W' ⟨he, bel⟩ => ?_
  subst he
  exact ⟨_, rfl, _, _, _, [], _, [], hW', trodAll_mk1 (shut_bool Try.underlying4 _), (trodAll_cons_mk (Below.trod head_laid (by kernel_rfl) (of_decide_eq_true (by kernel_rfl)) k0 bel (trod_lt_ k0)) trodAll_mk0), rfl, bel.frame _, fun h => by cases h⟩

theorem over_FnExactNamesMissing : Rows.fnExactNamesMissingRow.holds Try.pinned (OpenSpec.ofChange Rows.fnExactNamesMissingSpec) :=
  OpenClaim.holds_of_wide 8 Try.f8 rfl rfl rfl rfl rfl rfl rfl ⟨rfl, rfl, rfl, rfl, rfl⟩ rfl rfl rfl rfl rfl (by kernel_rfl) Try.func8 (joined_of head_laid head_rowed head_stops head_stopk head_heard head_enter (show (Rows.fnExactNamesMissingRow.lifted == Try.prog.liftsFinal) = true by rw [head_final]; rfl) (show (Try.prog.make == some Rows.fnExactNamesMissingRow.make) = true by rw [head_make]; rfl) (by kernel_rfl))
    (of_decide_eq_true (by kernel_rfl)) (by unfold Func.isWrapper; first | (rw [if_pos (by decide +kernel)]; kernel_rfl) | (rw [if_neg (by decide +kernel)]; exact ⟨rfl, rfl⟩))
    (fun os started H enc _ => lifted_FnExactNamesMissing os started H enc)

theorem proved_FnExactNamesMissing : Rows.FnExactNamesMissingSaid := over_FnExactNamesMissing
#print axioms proved_FnExactNamesMissing

end Go.Proofs.Ythkefakjihafeaa
