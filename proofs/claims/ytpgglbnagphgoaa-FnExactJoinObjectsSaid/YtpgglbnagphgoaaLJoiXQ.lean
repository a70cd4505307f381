/- The law that the joined object is the reference's. -/
import Derived.Test.YtpgglbnagphgoaaFamOQ
import Derived.Test.YtpgglbnagphgoaaFamQQ
import Derived.Test.YtpgglbnagphgoaaJoinQ
import Derived.Test.YtpgglbnagphgoaaHeadQ
set_option linter.unusedVariables false
set_option linter.unusedSimpArgs false
set_option maxRecDepth 200000
set_option maxHeartbeats 4000000
namespace Go.Proofs.Ytpgglbnagphgoaa
open Go Go.RowKit Go.ChangeShapes Go.WideShapes Go.Deep


theorem EJ_h (o : Objt) : hOb ⟨mkL mkSe cSe o.sects 1, mkL mkSy c4 o.syms (1 + sumI cSe o.sects)⟩ 1 = 1 + cOb o := hOb_mk o 1 (by omega)
theorem EJ_c (o : Objt) : cOb ⟨mkL mkSe cSe o.sects 1, mkL mkSy c4 o.syms (1 + sumI cSe o.sects)⟩ = cOb o := cOb_mk o 1
theorem joinV_sz (a b : Objt) : szOb (joinV a b) ≤ 5000 := by
 cases h : joinOk a b with
 | false => rw [joinV_no h]; decide
 | true => rw [joinV_yes h]; exact objB_sz (joinOk_iff.1 h).x
def C_laws_FnExactJoinObjects : Con := { ps := [.ro (.st .obj), .ro (.st .obj)], out := fun x => let a : Objt := x.1; let b : Objt := x.2.1; vc .bool true, det := true }
abbrev L_laws_FnExactJoinObjects : List (Nat × Con) := [(18, C_laws_szObject), (19, C_laws_toObject), (8, C_spec_JoinObjects), (7, C_impl_JoinObjects), (20, C_laws_eqObject), (21, C_laws_markObject), (22, C_laws_heldObject)]
def G_laws_FnExactJoinObjects : Cfg := GK L_laws_FnExactJoinObjects
def an_laws_FnExactJoinObjects : PTL C_laws_FnExactJoinObjects.ps → Nat → Option Ann := fun _ _ => none
theorem vc_laws_FnExactJoinObjects (a : Objt) (b : Objt) : (KP Try.f5 G_laws_FnExactJoinObjects C_laws_FnExactJoinObjects an_laws_FnExactJoinObjects (a, b, ())) = (((0 : Int) ≤ (1048576 : Int) ∧ (1048576 : Int) ≤ (1048576 : Int)) ∧ (decide (szR (szOb a) 1048576 < 0) = true →
 true = true ∧ True) ∧ (decide (szR (szOb a) 1048576 < 0) = false →
 (0 ≤ szR (szOb a) 1048576 ∧ szR (szOb a) 1048576 ≤ 1048576) ∧ (decide (szR (szOb b) (szR (szOb a) 1048576) < 0) = true →
 true = true ∧ True) ∧ (decide (szR (szOb b) (szR (szOb a) 1048576) < 0) = false →
 szOb a ≤ 1048576 ∧ szOb b ≤ 1048576 ∧ szOb a ≤ 1048576 ∧ szOb b ≤ 1048576 ∧ (Bool.not (decide (joinV a b = joinV a b)) = true →
 false = true ∧ True) ∧ (Bool.not (decide (joinV a b = joinV a b)) = false →
 (decide (joinOk a b ≠ joinOk a b) = true →
 false = true ∧ True) ∧ (decide (joinOk a b ≠ joinOk a b) = false →
 szOb a ≤ 1048576 ∧ (Bool.not (decide (a = a)) = true →
 false = true ∧ True) ∧ (Bool.not (decide (a = a)) = false →
 szOb b ≤ 1048576 ∧ (Bool.not (decide (b = b)) = true →
 false = true ∧ True) ∧ (Bool.not (decide (b = b)) = false →
 ((0 : Int) ≤ (1 : Int) ∧ 1 + cOb a ≤ 1000000000000) ∧ (0 ≤ 1 + cOb a ∧ 1 + cOb a + cOb b ≤ 1000000000000) ∧ (decide (1 + cOb a + cOb b < 0) = true →
 false = true ∧ True) ∧ (decide (1 + cOb a + cOb b < 0) = false →
 (Bool.not (decide (joinV a b = joinV a b)) = true →
 false = true ∧ True) ∧ (Bool.not (decide (joinV a b = joinV a b)) = false →
 (decide (joinOk a b ≠ joinOk a b) = true →
 false = true ∧ True) ∧ (decide (joinOk a b ≠ joinOk a b) = false →
 ((0 : Int) ≤ (1 : Int) ∧ 1 + cOb (joinV a b) ≤ 1000000000000) ∧ ((0 : Int) ≤ (1 : Int) ∧ 1 + cOb (Objt.mk (@mkL Sect mkSe cSe (joinV a b).sects (1 : Int)) (@mkL Sym mkSy (@c4 Sym) (joinV a b).syms (1 + @sumI Sect cSe (joinV a b).sects))) ≤ 1000000000000) ∧ (decide (hOb (Objt.mk (@mkL Sect mkSe cSe (joinV a b).sects (1 : Int)) (@mkL Sym mkSy (@c4 Sym) (joinV a b).syms (1 + @sumI Sect cSe (joinV a b).sects))) 1 < 0) = true →
 false = true ∧ True) ∧ (decide (hOb (Objt.mk (@mkL Sect mkSe cSe (joinV a b).sects (1 : Int)) (@mkL Sym mkSy (@c4 Sym) (joinV a b).syms (1 + @sumI Sect cSe (joinV a b).sects))) 1 < 0) = false →
 (decide (hOb (Objt.mk (@mkL Sect mkSe cSe (joinV a b).sects (1 : Int)) (@mkL Sym mkSy (@c4 Sym) (joinV a b).syms (1 + @sumI Sect cSe (joinV a b).sects))) 1 ≠ 1 + cOb (joinV a b)) = true →
 false = true ∧ True) ∧ (decide (hOb (Objt.mk (@mkL Sect mkSe cSe (joinV a b).sects (1 : Int)) (@mkL Sym mkSy (@c4 Sym) (joinV a b).syms (1 + @sumI Sect cSe (joinV a b).sects))) 1 ≠ 1 + cOb (joinV a b)) = false →
 szOb a ≤ 1048576 ∧ szOb b ≤ 1048576 ∧ (Bool.not (decide (joinV a b = joinV a b)) = true →
 false = true ∧ True) ∧ (Bool.not (decide (joinV a b = joinV a b)) = false →
 (decide (joinOk a b ≠ joinOk a b) = true →
 false = true ∧ True) ∧ (decide (joinOk a b ≠ joinOk a b) = false →
 ((0 : Int) ≤ (1 : Int) ∧ 1 + cOb (Objt.mk (@mkL Sect mkSe cSe (joinV a b).sects (1 : Int)) (@mkL Sym mkSy (@c4 Sym) (joinV a b).syms (1 + @sumI Sect cSe (joinV a b).sects))) ≤ 1000000000000) ∧ (decide (hOb (Objt.mk (@mkL Sect mkSe cSe (joinV a b).sects (1 : Int)) (@mkL Sym mkSy (@c4 Sym) (joinV a b).syms (1 + @sumI Sect cSe (joinV a b).sects))) 1 < 0) = true →
 false = true ∧ True) ∧ (decide (hOb (Objt.mk (@mkL Sect mkSe cSe (joinV a b).sects (1 : Int)) (@mkL Sym mkSy (@c4 Sym) (joinV a b).syms (1 + @sumI Sect cSe (joinV a b).sects))) 1 < 0) = false →
 (decide (hOb (Objt.mk (@mkL Sect mkSe cSe (joinV a b).sects (1 : Int)) (@mkL Sym mkSy (@c4 Sym) (joinV a b).syms (1 + @sumI Sect cSe (joinV a b).sects))) 1 ≠ 1 + cOb (joinV a b)) = true →
 false = true ∧ True) ∧ (decide (hOb (Objt.mk (@mkL Sect mkSe cSe (joinV a b).sects (1 : Int)) (@mkL Sym mkSy (@c4 Sym) (joinV a b).syms (1 + @sumI Sect cSe (joinV a b).sects))) 1 ≠ 1 + cOb (joinV a b)) = false →
 true = true ∧ True)))))))))))))))) := by kernel_rfl
theorem ok_laws_FnExactJoinObjects : ConOK Try.prog 5 C_laws_FnExactJoinObjects := by
 refine con_q (l := L_laws_FnExactJoinObjects) ⟨⟨ok_laws_szObject, det_laws_szObject⟩, ⟨⟨ok_laws_toObject, det_laws_toObject⟩, ⟨⟨ok_spec_JoinObjects, det_spec_JoinObjects⟩, ⟨⟨ok_impl_JoinObjects, det_impl_JoinObjects⟩, ⟨⟨ok_laws_eqObject, det_laws_eqObject⟩, ⟨⟨ok_laws_markObject, det_laws_markObject⟩, ⟨⟨ok_laws_heldObject, det_laws_heldObject⟩, trivial⟩⟩⟩⟩⟩⟩⟩ Try.func5 rfl (by decide) (by kernel_rfl) rfl an_laws_FnExactJoinObjects fun x ho hx => ?_
 obtain ⟨a, b, ⟨⟩⟩ := x
 refine Keeps.of (vc_laws_FnExactJoinObjects a b) ?_
 revert a b ho hx
 show ∀ (a : Objt) (b : Objt), _
 intro a b ho hx
 dsimp only [C_laws_FnExactJoinObjects, okPTL, okPT, Ok, Ty.cells, SN.cells, OkL, OkC, okI, ci, cb, cs, cl] at ho
 dsimp only [C_laws_FnExactJoinObjects, vc, v1, decB, SR.pre] at hx
 have e1 := EJ_h (joinV a b)
 have e2 := EJ_c (joinV a b)
 have b1 := cOb_le a
 have b2 := cOb_le b
 have b3 := cOb_le (joinV a b)
 have b4 := joinV_sz a b
 have n1 := cOb_nn a
 have n2 := cOb_nn b
 have n3 := cOb_nn (joinV a b)
 have n4 := szOb_nn a
 have n5 := szOb_nn b
 (try delta i64 LN); simp only [VBt]; (repeat' first | intro _ | apply And.intro); all_goals (try omega)
 all_goals (try have z1 := szR_nn (s := szOb a) (n := 1048576) (by assumption))
 all_goals (try have z2 := szR_nn (s := szOb b) (n := szR (szOb a) 1048576) (by assumption))
 all_goals first
  | omega
  | exact absurd trivial (by assumption)
  | exact absurd rfl (by assumption)
  | skip

theorem rd_s : Reads Try.prog 9 [.str] := reads_string Try.underlying9
theorem rd_i : Reads Try.prog 3 [.i] := reads_int Try.underlying3
theorem rd_u : Reads Try.prog 5 [.u] := reads_u8 Try.underlying5
theorem rd_uL : Reads Try.prog 22 [(.list .u)] := reads_slice (t' := .u) Try.underlying22 (by kernel_rfl) (by decide) rd_u
theorem rd_fixup : Reads Try.prog 155 (SN.sig .fixup) := reads_fs (sig := SN.sig .fixup) Try.underlying155 (by kernel_rfl) (fs_cons (sig := [.i]) rfl (by kernel_rfl) rd_i (fs_cons (sig := [.i]) rfl (by kernel_rfl) rd_i (fs_cons (sig := [.i]) rfl (by kernel_rfl) rd_i (fs_cons (sig := [.i]) rfl (by kernel_rfl) rd_i fs_nil))))
theorem rd_fixupL : Reads Try.prog 132 [(.list (.st .fixup))] := reads_slice (t' := (.st .fixup)) Try.underlying132 (by kernel_rfl) (by decide) rd_fixup
theorem rd_sect : Reads Try.prog 134 (SN.sig .sect) := reads_fs (sig := SN.sig .sect) Try.underlying134 (by kernel_rfl) (fs_cons (sig := [.str]) rfl (by kernel_rfl) rd_s (fs_cons (sig := [.i]) rfl (by kernel_rfl) rd_i (fs_cons (sig := [.i]) rfl (by kernel_rfl) rd_i (fs_cons (sig := [(.list .u)]) rfl (by kernel_rfl) rd_uL (fs_cons (sig := [.i]) rfl (by kernel_rfl) rd_i (fs_cons (sig := [(.list (.st .fixup))]) rfl (by kernel_rfl) rd_fixupL fs_nil))))))
theorem rd_sectL : Reads Try.prog 47 [(.list (.st .sect))] := reads_slice (t' := (.st .sect)) Try.underlying47 (by kernel_rfl) (by decide) rd_sect
theorem rd_sym : Reads Try.prog 136 (SN.sig .sym) := reads_fs (sig := SN.sig .sym) Try.underlying136 (by kernel_rfl) (fs_cons (sig := [.str]) rfl (by kernel_rfl) rd_s (fs_cons (sig := [.i]) rfl (by kernel_rfl) rd_i (fs_cons (sig := [.i]) rfl (by kernel_rfl) rd_i (fs_cons (sig := [.i]) rfl (by kernel_rfl) rd_i fs_nil))))
theorem rd_symL : Reads Try.prog 48 [(.list (.st .sym))] := reads_slice (t' := (.st .sym)) Try.underlying48 (by kernel_rfl) (by decide) rd_sym
theorem rd_obj : Reads Try.prog 50 (SN.sig .obj) := reads_fs (sig := SN.sig .obj) Try.underlying50 (by kernel_rfl) (fs_cons (sig := [(.list (.st .sect))]) rfl (by kernel_rfl) rd_sectL (fs_cons (sig := [(.list (.st .sym))]) rfl (by kernel_rfl) rd_symL fs_nil))
set_option maxRecDepth 100000 in
theorem lifted_FnExactJoinObjects (os : Os) (started : os.Started) (H : Type) (enc : TypeId × Value → H) :
  ReturnsInHanded {} Try.checked os 5 .any (Rows.fnExactJoinObjectsSpec.pre6 enc Try.prog Try.f5 Rows.fnExactJoinObjectsRow.domain false) (Rows.fnExactJoinObjectsSpec.post enc Try.prog Try.f5 false true false false) := by
 refine returnsInHanded_of_change (C := Try.checked) head_own started (by kernel_rfl) Try.func5
  (ChangeSpec.witness6 (enc := enc) (C := Try.checked) false ⟨#[], #[.agg #[.slice none 0 0, .slice none 0 0], .agg #[.slice none 0 0, .slice none 0 0]], []⟩ 8 (by kernel_rfl) (by kernel_rfl) (by kernel_rfl) (by kernel_rfl)) ?_
 intro W base args ds gs before hval0 hW _ _
 have hval : ∀ (j : Nat) t v, Try.f5.params[j]? = some t → args[j]? = some v → Value.okWide Try.prog W .any base t v := hval0
 have hW' := hW
 obtain ⟨p, q, hA0, hV, rfl, hfz, hnd⟩ := hW
 have hA : DataW.TrodAll enc Try.prog W 0 (fun _ => true) true Try.f5.params.toList args.toList ds p := hA0
 rw [Try.params5] at hA hval
 obtain ⟨v0, vs0, d0, ds0, p0, q0, hargs, rfl, rfl, h0, r0⟩ := trodAll_cons hA
 obtain ⟨v1, vs1, d1, ds1, p1, q1, rfl, rfl, rfl, h1, r1⟩ := trodAll_cons r0
 obtain ⟨rfl, rfl, rfl⟩ := trodAll_nil r1
 obtain rfl : args = #[v0, v1] := by cases args; simp_all
 obtain ⟨rfl, rfl⟩ := trodVars_none hV
 have k0 := h0
 obtain ⟨x0, g0⟩ := open_agg Try.underlying50 rd_obj (hval 0 50 v0 rfl rfl) h0
 have k1 := h1
 obtain ⟨x1, g1⟩ := open_agg Try.underlying50 rd_obj (hval 1 50 v1 rfl rfl) h1
 clear hA0 hval0 hval
 refine (law_calls ok_laws_FnExactJoinObjects (x0, x1, ()) rfl rfl (W := W) (vals := [v0, v1]) ⟨g0, g1, trivial⟩).mono fun e W' ⟨he, bel⟩ => ?_
 subst he
 exact ⟨_, rfl, _, _, _, [], _, [], hW', trodAll_mk1 (shut_bool Try.underlying4 _), (trodAll_cons_mk (Below.trod head_laid (by kernel_rfl) (of_decide_eq_true (by kernel_rfl)) k0 bel (trod_lt_ k0)) (trodAll_cons_mk (Below.trod head_laid (by kernel_rfl) (of_decide_eq_true (by kernel_rfl)) k1 bel (trod_lt_ k1)) trodAll_mk0)), rfl, bel.frame _, fun h => by cases h⟩

theorem over_FnExactJoinObjects : Rows.fnExactJoinObjectsRow.holds Try.pinned (OpenSpec.ofChange Rows.fnExactJoinObjectsSpec) :=
 OpenClaim.holds_of_wide 5 Try.f5 rfl rfl rfl rfl rfl rfl rfl ⟨rfl, rfl, rfl, rfl, rfl⟩ rfl rfl rfl rfl rfl (by kernel_rfl) Try.func5 (joined_of head_laid head_rowed head_stops head_stopk head_heard head_enter (show (Rows.fnExactJoinObjectsRow.lifted == Try.prog.liftsFinal) = true by rw [head_final]; rfl) (show (Try.prog.make == some Rows.fnExactJoinObjectsRow.make) = true by rw [head_make]; rfl) (by kernel_rfl))
  (of_decide_eq_true (by kernel_rfl)) (by unfold Func.isWrapper; first | (rw [if_pos (by decide +kernel)]; kernel_rfl) | (rw [if_neg (by decide +kernel)]; exact ⟨rfl, rfl⟩))
  (fun os started H enc _ => lifted_FnExactJoinObjects os started H enc)

theorem proved_FnExactJoinObjects : Rows.FnExactJoinObjectsSaid := over_FnExactJoinObjects
#print axioms proved_FnExactJoinObjects

end Go.Proofs.Ytpgglbnagphgoaa
