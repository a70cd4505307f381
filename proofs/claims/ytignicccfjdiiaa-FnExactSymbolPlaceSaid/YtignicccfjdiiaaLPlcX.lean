/- The laws that say places are the reference's: of symbols, of names. -/
import Derived.Test.YtignicccfjdiiaaFamO
import Derived.Test.YtignicccfjdiiaaLnk
import Derived.Test.YtignicccfjdiiaaHead
set_option linter.unusedVariables false
set_option linter.unusedSimpArgs false
namespace Go.Proofs.Ytignicccfjdiiaa
open Go Go.RowKit Go.ChangeShapes Go.WideShapes Go.Deep


def C_laws_FnExactSymbolPlace : Con := { ps := [.ro (.list (.st .obj)), .ro .i, .ro .i, .ro .i], out := fun x => let l : List (Objt) := x.1; let b : Int := x.2.1; let k : Int := x.2.2.1; let j : Int := x.2.2.2.1; vc .bool true, det := true }
abbrev L_laws_FnExactSymbolPlace : List (Nat × Con) := [(40, C_laws_szObjectS), (41, C_laws_toObjectS), (35, C_spec_SymbolPlace), (34, C_impl_SymbolPlace), (42, C_laws_eqObjectS)]
def G_laws_FnExactSymbolPlace : Cfg := mkG (tyL tys_) L_laws_FnExactSymbolPlace false
def an_laws_FnExactSymbolPlace : PTL C_laws_FnExactSymbolPlace.ps → Nat → Option Ann := fun _ _ => none
set_option maxRecDepth 200000 in
theorem vc_laws_FnExactSymbolPlace (l : List (Objt)) (b : Int) (k : Int) (j : Int) : (keeps Try.prog G_laws_FnExactSymbolPlace (an_laws_FnExactSymbolPlace (l, b, k, j, ())) (Try.f10.body.getD .skip) Try.f10.results.toList C_laws_FnExactSymbolPlace (l, b, k, j, ())) = (((((0 : Int) ≤ (1048576 : Int)) ∧
 ((1048576 : Int) ≤ (1048576 : Int))) ∧
 ((((decide ((szR ((LN l) + (@sumI Objt szOb l)) (1048576 : Int)) < 0)) = true) →
 ((true = true) ∧
 True)) ∧
 (((decide ((szR ((LN l) + (@sumI Objt szOb l)) (1048576 : Int)) < 0)) = false) →
 ((((LN l) + (@sumI Objt szOb l)) ≤ 1048576) ∧
 ((((LN l) + (@sumI Objt szOb l)) ≤ 1048576) ∧
 ((((LN l) + (@sumI Objt szOb l)) ≤ 1048576) ∧
 ((((decide ((@Option.getD Int (syPl l b k j) (0 : Int)) ≠ (@Option.getD Int (syPl l b k j) (0 : Int)))) = true) →
 ((false = true) ∧
 True)) ∧
 (((decide ((@Option.getD Int (syPl l b k j) (0 : Int)) ≠ (@Option.getD Int (syPl l b k j) (0 : Int)))) = false) →
 ((((decide ((@Option.isSome Int (syPl l b k j)) ≠ (@Option.isSome Int (syPl l b k j)))) = true) →
 ((false = true) ∧
 True)) ∧
 (((decide ((@Option.isSome Int (syPl l b k j)) ≠ (@Option.isSome Int (syPl l b k j)))) = false) →
 ((((LN l) + (@sumI Objt szOb l)) ≤ 1048576) ∧
 ((((Bool.not (decide (@Eq (List Objt) l l))) = true) →
 ((false = true) ∧
 True)) ∧
 (((Bool.not (decide (@Eq (List Objt) l l))) = false) →
 ((true = true) ∧
 True))))))))))))))) := by kernel_rfl
theorem det_laws_FnExactSymbolPlace : C_laws_FnExactSymbolPlace.det = true → ∀ x, (C_laws_FnExactSymbolPlace.out x).Det := fun _ _ => Det.vc'
set_option maxRecDepth 200000 in
set_option maxHeartbeats 4000000 in
theorem ok_laws_FnExactSymbolPlace : ConOK Try.prog 10 C_laws_FnExactSymbolPlace := by
  refine con_mk (wr := false) (ty := tyL tys_) (l := L_laws_FnExactSymbolPlace) ⟨⟨ok_laws_szObjectS, det_laws_szObjectS⟩, ⟨⟨ok_laws_toObjectS, det_laws_toObjectS⟩, ⟨⟨ok_spec_SymbolPlace, det_spec_SymbolPlace⟩, ⟨⟨ok_impl_SymbolPlace, det_impl_SymbolPlace⟩, ⟨⟨ok_laws_eqObjectS, det_laws_eqObjectS⟩, trivial⟩⟩⟩⟩⟩ Try.checked.mixed (fn := Try.f10) (body := Try.f10.body.getD .skip) Try.func10 rfl (by decide) (by kernel_rfl) rfl an_laws_FnExactSymbolPlace fun x ho hx => ?_
  obtain ⟨l, b, k, j, ⟨⟩⟩ := x
  refine Keeps.of (vc_laws_FnExactSymbolPlace l b k j) ?_
  revert l b k j ho hx
  show ∀ (l : List (Objt)) (b : Int) (k : Int) (j : Int), _
  intro l b k j ho hx
  dsimp only [C_laws_FnExactSymbolPlace, okPTL, okPT, Ok, Ty.cells, SN.cells, OkL, OkC, okI, ci, cb, cs, cl] at ho
  dsimp only [C_laws_FnExactSymbolPlace, vc, v1, decB, SR.pre] at hx
  have sn := sumI_nn szOb_nn l
  (try delta i64 LN); simp only [VBt]; (repeat' first | intro _ | apply And.intro); all_goals (try omega)
  all_goals (try grind [szR])

theorem rd_s : Reads Try.prog 9 [.str] := reads_string Try.underlying9
theorem rd_i : Reads Try.prog 3 [.i] := reads_int Try.underlying3
theorem rd_u : Reads Try.prog 5 [.u] := reads_u8 Try.underlying5
theorem rd_uL : Reads Try.prog 22 [(.list .u)] := reads_slice (t' := .u) Try.underlying22 (by kernel_rfl) (by decide) rd_u
theorem rd_fixup : Reads Try.prog 177 (SN.sig .fixup) := reads_fs (sig := SN.sig .fixup) Try.underlying177 (by kernel_rfl) (fs_cons (sig := [.i]) rfl (by kernel_rfl) rd_i (fs_cons (sig := [.i]) rfl (by kernel_rfl) rd_i (fs_cons (sig := [.i]) rfl (by kernel_rfl) rd_i (fs_cons (sig := [.i]) rfl (by kernel_rfl) rd_i fs_nil))))
theorem rd_fixupL : Reads Try.prog 159 [(.list (.st .fixup))] := reads_slice (t' := (.st .fixup)) Try.underlying159 (by kernel_rfl) (by decide) rd_fixup
theorem rd_sect : Reads Try.prog 161 (SN.sig .sect) := reads_fs (sig := SN.sig .sect) Try.underlying161 (by kernel_rfl) (fs_cons (sig := [.str]) rfl (by kernel_rfl) rd_s (fs_cons (sig := [.i]) rfl (by kernel_rfl) rd_i (fs_cons (sig := [.i]) rfl (by kernel_rfl) rd_i (fs_cons (sig := [(.list .u)]) rfl (by kernel_rfl) rd_uL (fs_cons (sig := [.i]) rfl (by kernel_rfl) rd_i (fs_cons (sig := [(.list (.st .fixup))]) rfl (by kernel_rfl) rd_fixupL fs_nil))))))
theorem rd_sectL : Reads Try.prog 97 [(.list (.st .sect))] := reads_slice (t' := (.st .sect)) Try.underlying97 (by kernel_rfl) (by decide) rd_sect
theorem rd_sym : Reads Try.prog 163 (SN.sig .sym) := reads_fs (sig := SN.sig .sym) Try.underlying163 (by kernel_rfl) (fs_cons (sig := [.str]) rfl (by kernel_rfl) rd_s (fs_cons (sig := [.i]) rfl (by kernel_rfl) rd_i (fs_cons (sig := [.i]) rfl (by kernel_rfl) rd_i (fs_cons (sig := [.i]) rfl (by kernel_rfl) rd_i fs_nil))))
theorem rd_symL : Reads Try.prog 98 [(.list (.st .sym))] := reads_slice (t' := (.st .sym)) Try.underlying98 (by kernel_rfl) (by decide) rd_sym
theorem rd_obj : Reads Try.prog 100 (SN.sig .obj) := reads_fs (sig := SN.sig .obj) Try.underlying100 (by kernel_rfl) (fs_cons (sig := [(.list (.st .sect))]) rfl (by kernel_rfl) rd_sectL (fs_cons (sig := [(.list (.st .sym))]) rfl (by kernel_rfl) rd_symL fs_nil))
theorem rd_objL : Reads Try.prog 72 [(.list (.st .obj))] := reads_slice (t' := (.st .obj)) Try.underlying72 (by kernel_rfl) (by decide) rd_obj
set_option maxRecDepth 100000 in
theorem lifted_FnExactSymbolPlace (os : Os) (started : os.Started) (H : Type) (enc : TypeId × Value → H) :
    ReturnsInHanded {} Try.checked os 10 .any (Rows.fnExactSymbolPlaceSpec.pre6 enc Try.prog Try.f10 Rows.fnExactSymbolPlaceRow.domain false) (Rows.fnExactSymbolPlaceSpec.post enc Try.prog Try.f10 false true false false) := by
  refine returnsInHanded_of_change (C := Try.checked) head_own started (by kernel_rfl) Try.func10
    (ChangeSpec.witness6 (enc := enc) (C := Try.checked) false ⟨#[], #[.slice none 0 0, .int .i64 0, .int .i64 0, .int .i64 0], []⟩ 8 (by kernel_rfl) (by kernel_rfl) (by kernel_rfl) (by kernel_rfl)) ?_
  intro W base args ds gs before hval0 hW _ _
  have hval : ∀ (j : Nat) t v, Try.f10.params[j]? = some t → args[j]? = some v → Value.okWide Try.prog W .any base t v := hval0
  have hW' := hW
  obtain ⟨p, q, hA0, hV, rfl, hfz, hnd⟩ := hW
  have hA : DataW.TrodAll enc Try.prog W 0 (fun _ => true) true Try.f10.params.toList args.toList ds p := hA0
  rw [Try.params10] at hA hval
  obtain ⟨v0, vs0, d0, ds0, p0, q0, hargs, rfl, rfl, h0, r0⟩ := trodAll_cons hA
  obtain ⟨v1, vs1, d1, ds1, p1, q1, rfl, rfl, rfl, h1, r1⟩ := trodAll_cons r0
  obtain ⟨v2, vs2, d2, ds2, p2, q2, rfl, rfl, rfl, h2, r2⟩ := trodAll_cons r1
  obtain ⟨v3, vs3, d3, ds3, p3, q3, rfl, rfl, rfl, h3, r3⟩ := trodAll_cons r2
  obtain ⟨rfl, rfl, rfl⟩ := trodAll_nil r3
  obtain rfl : args = #[v0, v1, v2, v3] := by cases args; simp_all
  obtain ⟨rfl, rfl⟩ := trodVars_none hV
  have k0 := h0
  obtain ⟨x0, g0⟩ := open_slice1 Try.underlying72 rd_objL (hval 0 72 v0 rfl rfl) h0
  have k1 := h1
  obtain ⟨n1, hn1, _, _, _⟩ := open_int Try.underlying3 (hval 1 3 v1 rfl rfl) h1
  obtain ⟨x1, g1⟩ := open_one (by rw [hn1]; rfl) rd_i h1
  have k2 := h2
  obtain ⟨n2, hn2, _, _, _⟩ := open_int Try.underlying3 (hval 2 3 v2 rfl rfl) h2
  obtain ⟨x2, g2⟩ := open_one (by rw [hn2]; rfl) rd_i h2
  have k3 := h3
  obtain ⟨n3, hn3, _, _, _⟩ := open_int Try.underlying3 (hval 3 3 v3 rfl rfl) h3
  obtain ⟨x3, g3⟩ := open_one (by rw [hn3]; rfl) rd_i h3
  clear hA0 hval0 hval
  refine (law_calls ok_laws_FnExactSymbolPlace (x0, x1, x2, x3, ()) rfl rfl (W := W) (vals := [v0, v1, v2, v3]) ⟨g0, g1, g2, g3, trivial⟩).mono fun e W' ⟨he, bel⟩ => ?_
  subst he
  exact ⟨_, rfl, _, _, _, [], _, [], hW', trodAll_mk1 (shut_bool Try.underlying4 _), (trodAll_cons_mk (Below.trod head_laid (by kernel_rfl) (of_decide_eq_true (by kernel_rfl)) k0 bel (trod_lt_ k0)) (trodAll_cons_mk (Below.trod head_laid (by kernel_rfl) (of_decide_eq_true (by kernel_rfl)) k1 bel (trod_lt_ k1)) (trodAll_cons_mk (Below.trod head_laid (by kernel_rfl) (of_decide_eq_true (by kernel_rfl)) k2 bel (trod_lt_ k2)) (trodAll_cons_mk (Below.trod head_laid (by kernel_rfl) (of_decide_eq_true (by kernel_rfl)) k3 bel (trod_lt_ k3)) trodAll_mk0)))), rfl, bel.frame _, fun h => by cases h⟩

theorem over_FnExactSymbolPlace : Rows.fnExactSymbolPlaceRow.holds Try.pinned (OpenSpec.ofChange Rows.fnExactSymbolPlaceSpec) :=
  OpenClaim.holds_of_wide 10 Try.f10 rfl rfl rfl rfl rfl rfl rfl ⟨rfl, rfl, rfl, rfl, rfl⟩ rfl rfl rfl rfl rfl (by kernel_rfl) Try.func10 (joined_of head_laid head_rowed head_stops head_stopk head_heard head_enter (show (Rows.fnExactSymbolPlaceRow.lifted == Try.prog.liftsFinal) = true by rw [head_final]; rfl) (show (Try.prog.make == some Rows.fnExactSymbolPlaceRow.make) = true by rw [head_make]; rfl) (by kernel_rfl))
    (of_decide_eq_true (by kernel_rfl)) (by unfold Func.isWrapper; first | (rw [if_pos (by decide +kernel)]; kernel_rfl) | (rw [if_neg (by decide +kernel)]; exact ⟨rfl, rfl⟩))
    (fun os started H enc _ => lifted_FnExactSymbolPlace os started H enc)

theorem proved_FnExactSymbolPlace : Rows.FnExactSymbolPlaceSaid := over_FnExactSymbolPlace
#print axioms proved_FnExactSymbolPlace

end Go.Proofs.Ytignicccfjdiiaa
