/- The laws that say places are the reference's: of names. -/
import Derived.Test.YtignicccfjdiiaaFamO
import Derived.Test.YtignicccfjdiiaaFamQ
import Derived.Test.YtignicccfjdiiaaLnk
import Derived.Test.YtignicccfjdiiaaHead
set_option linter.unusedVariables false
set_option linter.unusedSimpArgs false
namespace Go.Proofs.Ytignicccfjdiiaa
open Go Go.RowKit Go.ChangeShapes Go.WideShapes Go.Deep


def C_laws_FnExactNamePlaces : Con := { ps := [.ro (.list (.st .obj)), .ro .i, .ro (.list .str)], out := fun x => let l : List (Objt) := x.1; let b : Int := x.2.1; let ns : List (ByteArray) := x.2.2.1; vc .bool true, det := true }
abbrev L_laws_FnExactNamePlaces : List (Nat × Con) := [(40, C_laws_szObjectS), (50, C_laws_szStringS), (41, C_laws_toObjectS), (51, C_laws_toStringS), (38, C_spec_NamePlaces), (37, C_impl_NamePlaces), (52, C_laws_eqIntS), (42, C_laws_eqObjectS), (53, C_laws_eqStringS), (44, C_laws_markObjectS), (54, C_laws_markStringS), (55, C_laws_markIntS), (56, C_laws_heldIntS)]
def G_laws_FnExactNamePlaces : Cfg := mkG (tyL tys_) L_laws_FnExactNamePlaces false
def an_laws_FnExactNamePlaces : PTL C_laws_FnExactNamePlaces.ps → Nat → Option Ann := fun _ _ => none
set_option maxRecDepth 200000 in
theorem vc_laws_FnExactNamePlaces (l : List (Objt)) (b : Int) (ns : List (ByteArray)) : (keeps Try.prog G_laws_FnExactNamePlaces (an_laws_FnExactNamePlaces (l, b, ns, ())) (Try.f14.body.getD .skip) Try.f14.results.toList C_laws_FnExactNamePlaces (l, b, ns, ())) = ((((0 : Int) ≤ (1048576 : Int) ∧ (1048576 : Int) ≤ (1048576 : Int)) ∧ (decide (szR (LN l + @sumI Objt szOb l) 1048576 < 0) = true →
 true = true ∧ True) ∧ (decide (szR (LN l + @sumI Objt szOb l) 1048576 < 0) = false →
 (0 ≤ szR (LN l + @sumI Objt szOb l) 1048576 ∧ szR (LN l + @sumI Objt szOb l) 1048576 ≤ 1048576) ∧ (decide (szR (LN ns + @sumI ByteArray (fun (s_1 : ByteArray) => @Nat.cast Int _ (ByteArray.size s_1)) ns) (szR (LN l + @sumI Objt szOb l) 1048576) < 0) = true →
 true = true ∧ True) ∧ (decide (szR (LN ns + @sumI ByteArray (fun (s_2 : ByteArray) => @Nat.cast Int _ (ByteArray.size s_2)) ns) (szR (LN l + @sumI Objt szOb l) 1048576) < 0) = false →
 LN l + @sumI Objt szOb l ≤ 1048576 ∧ LN ns + @sumI ByteArray (fun (s_3 : ByteArray) => @Nat.cast Int _ (ByteArray.size s_3)) ns ≤ 1048576 ∧ (ns.length ≤ 1048576 ∧ LN l + @sumI Objt szOb l ≤ 1048576) ∧ LN l + @sumI Objt szOb l ≤ 1048576 ∧ LN ns + @sumI ByteArray (fun (s_4 : ByteArray) => @Nat.cast Int _ (ByteArray.size s_4)) ns ≤ 1048576 ∧ ns.length ≤ 1048576 ∧ (Bool.not (decide (@Eq (List Int) (nmP l b ns) (nmP l b ns))) = true →
 false = true ∧ True) ∧ (Bool.not (decide (@Eq (List Int) (nmP l b ns) (nmP l b ns))) = false →
 (decide (nmOk l b ns ≠ nmOk l b ns) = true →
 false = true ∧ True) ∧ (decide (nmOk l b ns ≠ nmOk l b ns) = false →
 LN l + @sumI Objt szOb l ≤ 1048576 ∧ (Bool.not (decide (@Eq (List Objt) l l)) = true →
 false = true ∧ True) ∧ (Bool.not (decide (@Eq (List Objt) l l)) = false →
 LN ns + @sumI ByteArray (fun (s_5 : ByteArray) => @Nat.cast Int _ (ByteArray.size s_5)) ns ≤ 1048576 ∧ (Bool.not (decide (@Eq (List ByteArray) ns ns)) = true →
 false = true ∧ True) ∧ (Bool.not (decide (@Eq (List ByteArray) ns ns)) = false →
 ((0 : Int) ≤ (1 : Int) ∧ 1 + @sumI Objt cOb l ≤ 1000000000000) ∧ (0 ≤ 1 + @sumI Objt cOb l ∧ 1 + @sumI Objt cOb l + @sumI ByteArray (@cOne ByteArray) ns ≤ 1000000000000) ∧ (decide (1 + @sumI Objt cOb l + @sumI ByteArray (@cOne ByteArray) ns < 0) = true →
 false = true ∧ True) ∧ (decide (1 + @sumI Objt cOb l + @sumI ByteArray (@cOne ByteArray) ns < 0) = false →
 (Bool.not (decide (@Eq (List Int) (nmP l b ns) (nmP l b ns))) = true →
 false = true ∧ True) ∧ (Bool.not (decide (@Eq (List Int) (nmP l b ns) (nmP l b ns))) = false →
 (decide (nmOk l b ns ≠ nmOk l b ns) = true →
 false = true ∧ True) ∧ (decide (nmOk l b ns ≠ nmOk l b ns) = false →
 ((0 : Int) ≤ (1 : Int) ∧ 1 + @sumI Int (@cOne Int) (nmP l b ns) ≤ 1000000000000) ∧ ((0 : Int) ≤ (1 : Int) ∧ 1 + @sumI Int (@cOne Int) (@mkL Int mkI (@cOne Int) (nmP l b ns) (1 : Int)) ≤ 1000000000000) ∧ (decide (@hdL Int hI (@mkL Int mkI (@cOne Int) (nmP l b ns) (1 : Int)) (1 : Int) < 0) = true →
 false = true ∧ True) ∧ (decide (@hdL Int hI (@mkL Int mkI (@cOne Int) (nmP l b ns) (1 : Int)) (1 : Int) < 0) = false →
 (decide (@hdL Int hI (@mkL Int mkI (@cOne Int) (nmP l b ns) (1 : Int)) (1 : Int) ≠ 1 + @sumI Int (@cOne Int) (nmP l b ns)) = true →
 false = true ∧ True) ∧ (decide (@hdL Int hI (@mkL Int mkI (@cOne Int) (nmP l b ns) (1 : Int)) (1 : Int) ≠ 1 + @sumI Int (@cOne Int) (nmP l b ns)) = false →
 LN l + @sumI Objt szOb l ≤ 1048576 ∧ LN ns + @sumI ByteArray (fun (s_6 : ByteArray) => @Nat.cast Int _ (ByteArray.size s_6)) ns ≤ 1048576 ∧ ns.length ≤ 1048576 ∧ (Bool.not (decide (@Eq (List Int) (nmP l b ns) (nmP l b ns))) = true →
 false = true ∧ True) ∧ (Bool.not (decide (@Eq (List Int) (nmP l b ns) (nmP l b ns))) = false →
 (decide (nmOk l b ns ≠ nmOk l b ns) = true →
 false = true ∧ True) ∧ (decide (nmOk l b ns ≠ nmOk l b ns) = false →
 ((0 : Int) ≤ (1 : Int) ∧ 1 + @sumI Int (@cOne Int) (@mkL Int mkI (@cOne Int) (nmP l b ns) (1 : Int)) ≤ 1000000000000) ∧ (decide (@hdL Int hI (@mkL Int mkI (@cOne Int) (nmP l b ns) (1 : Int)) (1 : Int) < 0) = true →
 false = true ∧ True) ∧ (decide (@hdL Int hI (@mkL Int mkI (@cOne Int) (nmP l b ns) (1 : Int)) (1 : Int) < 0) = false →
 (decide (@hdL Int hI (@mkL Int mkI (@cOne Int) (nmP l b ns) (1 : Int)) (1 : Int) ≠ 1 + @sumI Int (@cOne Int) (nmP l b ns)) = true →
 false = true ∧ True) ∧ (decide (@hdL Int hI (@mkL Int mkI (@cOne Int) (nmP l b ns) (1 : Int)) (1 : Int) ≠ 1 + @sumI Int (@cOne Int) (nmP l b ns)) = false →
 true = true ∧ True))))))))))))))))) := by kernel_rfl
theorem det_laws_FnExactNamePlaces : C_laws_FnExactNamePlaces.det = true → ∀ x, (C_laws_FnExactNamePlaces.out x).Det := fun _ _ => Det.vc'
set_option maxRecDepth 200000 in
set_option maxHeartbeats 4000000 in
theorem ok_laws_FnExactNamePlaces : ConOK Try.prog 14 C_laws_FnExactNamePlaces := by
  refine con_mk (wr := false) (ty := tyL tys_) (l := L_laws_FnExactNamePlaces) ⟨⟨ok_laws_szObjectS, det_laws_szObjectS⟩, ⟨⟨ok_laws_szStringS, det_laws_szStringS⟩, ⟨⟨ok_laws_toObjectS, det_laws_toObjectS⟩, ⟨⟨ok_laws_toStringS, det_laws_toStringS⟩, ⟨⟨ok_spec_NamePlaces, det_spec_NamePlaces⟩, ⟨⟨ok_impl_NamePlaces, det_impl_NamePlaces⟩, ⟨⟨ok_laws_eqIntS, det_laws_eqIntS⟩, ⟨⟨ok_laws_eqObjectS, det_laws_eqObjectS⟩, ⟨⟨ok_laws_eqStringS, det_laws_eqStringS⟩, ⟨⟨ok_laws_markObjectS, det_laws_markObjectS⟩, ⟨⟨ok_laws_markStringS, det_laws_markStringS⟩, ⟨⟨ok_laws_markIntS, det_laws_markIntS⟩, ⟨⟨ok_laws_heldIntS, det_laws_heldIntS⟩, trivial⟩⟩⟩⟩⟩⟩⟩⟩⟩⟩⟩⟩⟩ Try.checked.mixed (fn := Try.f14) (body := Try.f14.body.getD .skip) Try.func14 rfl (by decide) (by kernel_rfl) rfl an_laws_FnExactNamePlaces fun x ho hx => ?_
  obtain ⟨l, b, ns, ⟨⟩⟩ := x
  refine Keeps.of (vc_laws_FnExactNamePlaces l b ns) ?_
  revert l b ns ho hx
  show ∀ (l : List (Objt)) (b : Int) (ns : List (ByteArray)), _
  intro l b ns ho hx
  dsimp only [C_laws_FnExactNamePlaces, okPTL, okPT, Ok, Ty.cells, SN.cells, OkL, OkC, okI, ci, cb, cs, cl] at ho
  dsimp only [C_laws_FnExactNamePlaces, vc, v1, decB, SR.pre] at hx
  have sn := sumI_nn szOb_nn l
  have s2 := sumI_nn (f := fun s : ByteArray => (s.size : Int)) szStr_nn ns
  have q1 := cOb_all l
  have q2 := sumI_nn cOb_nn l
  have nl : (nmP l b ns).length ≤ ns.length := by
    unfold nmP
    split
    · rw [nmV_len]; omega
    · simp
  have hm := held_mk cOne_nn hI_mk (nmP l b ns)
  have hc := cOne_mk (mk := mkI) (c := cOne) (nmP l b ns) 1
  have hl := cOne_len (nmP l b ns)
  have hs := cOne_len ns
  have hs2 := cOne_nn (α := Int)
  (try delta i64 LN); simp only [VBt]; (repeat' first | intro _ | apply And.intro); all_goals (try omega)
  all_goals (try have hz := szR_nn (by assumption))
  all_goals (try have hz2 : LN l + sumI szOb l ≤ 1048576 := by unfold szR at *; split at * <;> omega)
  all_goals first | omega | (try grind [szR])

theorem rd_s : Reads Try.prog 9 [.str] := reads_string Try.underlying9
theorem rd_i : Reads Try.prog 3 [.i] := reads_int Try.underlying3
theorem rd_u : Reads Try.prog 5 [.u] := reads_u8 Try.underlying5
theorem rd_uL : Reads Try.prog 22 [(.list .u)] := reads_slice (t' := .u) Try.underlying22 (by kernel_rfl) (by decide) rd_u
theorem rd_fixup : Reads Try.prog 177 (SN.sig .fixup) := reads_fs (sig := SN.sig .fixup) Try.underlying177 (by kernel_rfl) (fs_cons (sig := [.i]) rfl (by kernel_rfl) rd_i (fs_cons (sig := [.i]) rfl (by kernel_rfl) rd_i (fs_cons (sig := [.i]) rfl (by kernel_rfl) rd_i (fs_cons (sig := [.i]) rfl (by kernel_rfl) rd_i fs_nil))))
theorem rd_fixupL : Reads Try.prog 159 [(.list (.st .fixup))] := reads_slice (t' := (.st .fixup)) Try.underlying159 (by kernel_rfl) (by decide) rd_fixup
theorem rd_sect : Reads Try.prog 161 (SN.sig .sect) := reads_fs (sig := SN.sig .sect) Try.underlying161 (by kernel_rfl) (fs_cons (sig := [.str]) rfl (by kernel_rfl) rd_s (fs_cons (sig := [.i]) rfl (by kernel_rfl) rd_i (fs_cons (sig := [.i]) rfl (by kernel_rfl) rd_i (fs_cons (sig := [(.list .u)]) rfl (by kernel_rfl) rd_uL (fs_cons (sig := [.i]) rfl (by kernel_rfl) rd_i (fs_cons (sig := [(.list (.st .fixup))]) rfl (by kernel_rfl) rd_fixupL fs_nil))))))
theorem rd_sectL : Reads Try.prog 97 [(.list (.st .sect))] := reads_slice (t' := (.st .sect)) Try.underlying97 (by kernel_rfl) (by decide) rd_sect
theorem rd_sym : Reads Try.prog 163 (SN.sig .sym) := reads_fs (sig := SN.sig .sym) Try.underlying163 (by kernel_rfl) (fs_cons (sig := [.str]) rfl (by kernel_rfl) rd_s (fs_cons (sig := [.i]) rfl (by kernel_rfl) rd_i (fs_cons (sig := [.i]) rfl (by kernel_rfl) rd_i (fs_cons (sig := [.i]) rfl (by kernel_rfl) rd_i fs_nil))))
theorem rd_symL : Reads Try.prog 98 [(.list (.st .sym))] := reads_slice (t' := (.st .sym)) Try.underlying98 (by kernel_rfl) (by decide) rd_sym
theorem rd_obj : Reads Try.prog 100 (SN.sig .obj) := reads_fs (sig := SN.sig .obj) Try.underlying100 (by kernel_rfl) (fs_cons (sig := [(.list (.st .sect))]) rfl (by kernel_rfl) rd_sectL (fs_cons (sig := [(.list (.st .sym))]) rfl (by kernel_rfl) rd_symL fs_nil))
theorem rd_objL : Reads Try.prog 72 [(.list (.st .obj))] := reads_slice (t' := (.st .obj)) Try.underlying72 (by kernel_rfl) (by decide) rd_obj
theorem rd_sL : Reads Try.prog 63 [(.list .str)] := reads_slice (t' := .str) Try.underlying63 (by kernel_rfl) (by decide) rd_s
set_option maxRecDepth 100000 in
theorem lifted_FnExactNamePlaces (os : Os) (started : os.Started) (H : Type) (enc : TypeId × Value → H) :
    ReturnsInHanded {} Try.checked os 14 .any (Rows.fnExactNamePlacesSpec.pre6 enc Try.prog Try.f14 Rows.fnExactNamePlacesRow.domain false) (Rows.fnExactNamePlacesSpec.post enc Try.prog Try.f14 false true false false) := by
  refine returnsInHanded_of_change (C := Try.checked) head_own started (by kernel_rfl) Try.func14
    (ChangeSpec.witness6 (enc := enc) (C := Try.checked) false ⟨#[], #[.slice none 0 0, .int .i64 0, .slice none 0 0], []⟩ 8 (by kernel_rfl) (by kernel_rfl) (by kernel_rfl) (by kernel_rfl)) ?_
  intro W base args ds gs before hval0 hW _ _
  have hval : ∀ (j : Nat) t v, Try.f14.params[j]? = some t → args[j]? = some v → Value.okWide Try.prog W .any base t v := hval0
  have hW' := hW
  obtain ⟨p, q, hA0, hV, rfl, hfz, hnd⟩ := hW
  have hA : DataW.TrodAll enc Try.prog W 0 (fun _ => true) true Try.f14.params.toList args.toList ds p := hA0
  rw [Try.params14] at hA hval
  obtain ⟨v0, vs0, d0, ds0, p0, q0, hargs, rfl, rfl, h0, r0⟩ := trodAll_cons hA
  obtain ⟨v1, vs1, d1, ds1, p1, q1, rfl, rfl, rfl, h1, r1⟩ := trodAll_cons r0
  obtain ⟨v2, vs2, d2, ds2, p2, q2, rfl, rfl, rfl, h2, r2⟩ := trodAll_cons r1
  obtain ⟨rfl, rfl, rfl⟩ := trodAll_nil r2
  obtain rfl : args = #[v0, v1, v2] := by cases args; simp_all
  obtain ⟨rfl, rfl⟩ := trodVars_none hV
  have k0 := h0
  obtain ⟨x0, g0⟩ := open_slice1 Try.underlying72 rd_objL (hval 0 72 v0 rfl rfl) h0
  have k1 := h1
  obtain ⟨n1, hn1, _, _, _⟩ := open_int Try.underlying3 (hval 1 3 v1 rfl rfl) h1
  obtain ⟨x1, g1⟩ := open_one (by rw [hn1]; rfl) rd_i h1
  have k2 := h2
  obtain ⟨x2, g2⟩ := open_slice1 Try.underlying63 rd_sL (hval 2 63 v2 rfl rfl) h2
  clear hA0 hval0 hval
  refine (law_calls ok_laws_FnExactNamePlaces (x0, x1, x2, ()) rfl rfl (W := W) (vals := [v0, v1, v2]) ⟨g0, g1, g2, trivial⟩).mono fun e W' ⟨he, bel⟩ => ?_
  subst he
  exact ⟨_, rfl, _, _, _, [], _, [], hW', trodAll_mk1 (shut_bool Try.underlying4 _), (trodAll_cons_mk (Below.trod head_laid (by kernel_rfl) (of_decide_eq_true (by kernel_rfl)) k0 bel (trod_lt_ k0)) (trodAll_cons_mk (Below.trod head_laid (by kernel_rfl) (of_decide_eq_true (by kernel_rfl)) k1 bel (trod_lt_ k1)) (trodAll_cons_mk (Below.trod head_laid (by kernel_rfl) (of_decide_eq_true (by kernel_rfl)) k2 bel (trod_lt_ k2)) trodAll_mk0))), rfl, bel.frame _, fun h => by cases h⟩

theorem over_FnExactNamePlaces : Rows.fnExactNamePlacesRow.holds Try.pinned (OpenSpec.ofChange Rows.fnExactNamePlacesSpec) :=
  OpenClaim.holds_of_wide 14 Try.f14 rfl rfl rfl rfl rfl rfl rfl ⟨rfl, rfl, rfl, rfl, rfl⟩ rfl rfl rfl rfl rfl (by kernel_rfl) Try.func14 (joined_of head_laid head_rowed head_stops head_stopk head_heard head_enter (show (Rows.fnExactNamePlacesRow.lifted == Try.prog.liftsFinal) = true by rw [head_final]; rfl) (show (Try.prog.make == some Rows.fnExactNamePlacesRow.make) = true by rw [head_make]; rfl) (by kernel_rfl))
    (of_decide_eq_true (by kernel_rfl)) (by unfold Func.isWrapper; first | (rw [if_pos (by decide +kernel)]; kernel_rfl) | (rw [if_neg (by decide +kernel)]; exact ⟨rfl, rfl⟩))
    (fun os started H enc _ => lifted_FnExactNamePlaces os started H enc)

theorem proved_FnExactNamePlaces : Rows.FnExactNamePlacesSaid := over_FnExactNamePlaces
#print axioms proved_FnExactNamePlaces

end Go.Proofs.Ytignicccfjdiiaa
