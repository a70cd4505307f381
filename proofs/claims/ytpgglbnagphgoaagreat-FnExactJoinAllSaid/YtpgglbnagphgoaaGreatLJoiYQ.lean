/- The law that all objects joined are the reference's. -/
import Derived.Test.YtpgglbnagphgoaaGreatFamOQ
import Derived.Test.YtpgglbnagphgoaaGreatFamQQ
import Derived.Test.YtpgglbnagphgoaaGreatJoiAQ
import Derived.Test.YtpgglbnagphgoaaGreatHeadQ
set_option linter.unusedVariables false
set_option linter.unusedSimpArgs false
set_option maxRecDepth 200000
set_option maxHeartbeats 4000000
namespace Go.Proofs.YtpgglbnagphgoaaGreat
open Go Go.RowKit Go.ChangeShapes Go.WideShapes Go.Deep


theorem EJ_h (o : Objt) : hOb ⟨mkL mkSe cSe o.sects 1, mkL mkSy c4 o.syms (1 + sumI cSe o.sects)⟩ 1 = 1 + cOb o := hOb_mk o 1 (by omega)
theorem EJ_c (o : Objt) : cOb ⟨mkL mkSe cSe o.sects 1, mkL mkSy c4 o.syms (1 + sumI cSe o.sects)⟩ = cOb o := cOb_mk o 1
theorem joinR_objB : ∀ {l : List Objt} {x y : Objt}, joinR l x = some y → objB x = true → objB y = true := by
 intro l
 induction l with
 | nil => intro x y h hx; simp only [joinR, Option.some.injEq] at h; rw [← h]; exact hx
 | cons o l ih =>
  intro x y h hx
  simp only [joinR] at h
  split at h
  ·rename_i hj
   exact ih h (joinOk_iff.1 hj).x
  ·cases h
theorem jAV_sz (l : List Objt) : szOb (jAV l) ≤ 5000 := by
 unfold jAV
 cases h : joinA l with
 | none => decide
 | some y =>
  refine objB_sz ?_
  have hb : objsB l = true := by
   cases hb : objsB l with
   | true => rfl
   | false => rw [jA_no hb] at h; cases h
  rw [jA_yes hb] at h
  cases l with
  | nil => cases h
  | cons o l => exact joinR_objB h (objs_at (k := 0) hb rfl)
def C_laws_FnExactJoinAll : Con := { ps := [.ro (.list (.st .obj))], out := fun x => let l : List (Objt) := x.1; vc .bool true, det := true }
abbrev L_laws_FnExactJoinAll : List (Nat × Con) := [(19, C_laws_szObjectS), (20, C_laws_toObjectS), (18, C_spec_JoinAll), (17, C_impl_JoinAll), (21, C_laws_eqObject), (22, C_laws_eqObjectS), (23, C_laws_markObjectS), (24, C_laws_markObject), (25, C_laws_heldObject)]
def G_laws_FnExactJoinAll : Cfg := GK L_laws_FnExactJoinAll
def an_laws_FnExactJoinAll : PTL C_laws_FnExactJoinAll.ps → Nat → Option Ann := fun _ _ => none
theorem vc_laws_FnExactJoinAll (l : List (Objt)) : (KP Tryz.f5 G_laws_FnExactJoinAll C_laws_FnExactJoinAll an_laws_FnExactJoinAll (l, ())) = (((0 : Int) ≤ (1048576 : Int) ∧ (1048576 : Int) ≤ (1048576 : Int)) ∧ (decide (szR (LN l + @sumI Objt szOb l) 1048576 < 0) = true →
 true = true ∧ True) ∧ (decide (szR (LN l + @sumI Objt szOb l) 1048576 < 0) = false →
 LN l + @sumI Objt szOb l ≤ 1048576 ∧ LN l + @sumI Objt szOb l ≤ 1048576 ∧ (Bool.not (decide (jAV l = jAV l)) = true →
 false = true ∧ True) ∧ (Bool.not (decide (jAV l = jAV l)) = false →
 (decide (jAB l ≠ jAB l) = true →
 false = true ∧ True) ∧ (decide (jAB l ≠ jAB l) = false →
 LN l + @sumI Objt szOb l ≤ 1048576 ∧ (Bool.not (decide (l = l)) = true →
 false = true ∧ True) ∧ (Bool.not (decide (l = l)) = false →
 ((0 : Int) ≤ (1 : Int) ∧ 1 + @sumI Objt cOb l ≤ 1000000000000) ∧ (decide (1 + @sumI Objt cOb l < 0) = true →
 false = true ∧ True) ∧ (decide (1 + @sumI Objt cOb l < 0) = false →
 (Bool.not (decide (jAV l = jAV l)) = true →
 false = true ∧ True) ∧ (Bool.not (decide (jAV l = jAV l)) = false →
 (decide (jAB l ≠ jAB l) = true →
 false = true ∧ True) ∧ (decide (jAB l ≠ jAB l) = false →
 ((0 : Int) ≤ (1 : Int) ∧ 1 + cOb (jAV l) ≤ 1000000000000) ∧ ((0 : Int) ≤ (1 : Int) ∧ 1 + cOb (Objt.mk (@mkL Sect mkSe cSe (jAV l).sects (1 : Int)) (@mkL Sym mkSy (@c4 Sym) (jAV l).syms (1 + @sumI Sect cSe (jAV l).sects))) ≤ 1000000000000) ∧ (decide (hOb (Objt.mk (@mkL Sect mkSe cSe (jAV l).sects (1 : Int)) (@mkL Sym mkSy (@c4 Sym) (jAV l).syms (1 + @sumI Sect cSe (jAV l).sects))) 1 < 0) = true →
 false = true ∧ True) ∧ (decide (hOb (Objt.mk (@mkL Sect mkSe cSe (jAV l).sects (1 : Int)) (@mkL Sym mkSy (@c4 Sym) (jAV l).syms (1 + @sumI Sect cSe (jAV l).sects))) 1 < 0) = false →
 (decide (hOb (Objt.mk (@mkL Sect mkSe cSe (jAV l).sects (1 : Int)) (@mkL Sym mkSy (@c4 Sym) (jAV l).syms (1 + @sumI Sect cSe (jAV l).sects))) 1 ≠ 1 + cOb (jAV l)) = true →
 false = true ∧ True) ∧ (decide (hOb (Objt.mk (@mkL Sect mkSe cSe (jAV l).sects (1 : Int)) (@mkL Sym mkSy (@c4 Sym) (jAV l).syms (1 + @sumI Sect cSe (jAV l).sects))) 1 ≠ 1 + cOb (jAV l)) = false →
 LN l + @sumI Objt szOb l ≤ 1048576 ∧ (Bool.not (decide (jAV l = jAV l)) = true →
 false = true ∧ True) ∧ (Bool.not (decide (jAV l = jAV l)) = false →
 (decide (jAB l ≠ jAB l) = true →
 false = true ∧ True) ∧ (decide (jAB l ≠ jAB l) = false →
 ((0 : Int) ≤ (1 : Int) ∧ 1 + cOb (Objt.mk (@mkL Sect mkSe cSe (jAV l).sects (1 : Int)) (@mkL Sym mkSy (@c4 Sym) (jAV l).syms (1 + @sumI Sect cSe (jAV l).sects))) ≤ 1000000000000) ∧ (decide (hOb (Objt.mk (@mkL Sect mkSe cSe (jAV l).sects (1 : Int)) (@mkL Sym mkSy (@c4 Sym) (jAV l).syms (1 + @sumI Sect cSe (jAV l).sects))) 1 < 0) = true →
 false = true ∧ True) ∧ (decide (hOb (Objt.mk (@mkL Sect mkSe cSe (jAV l).sects (1 : Int)) (@mkL Sym mkSy (@c4 Sym) (jAV l).syms (1 + @sumI Sect cSe (jAV l).sects))) 1 < 0) = false →
 (decide (hOb (Objt.mk (@mkL Sect mkSe cSe (jAV l).sects (1 : Int)) (@mkL Sym mkSy (@c4 Sym) (jAV l).syms (1 + @sumI Sect cSe (jAV l).sects))) 1 ≠ 1 + cOb (jAV l)) = true →
 false = true ∧ True) ∧ (decide (hOb (Objt.mk (@mkL Sect mkSe cSe (jAV l).sects (1 : Int)) (@mkL Sym mkSy (@c4 Sym) (jAV l).syms (1 + @sumI Sect cSe (jAV l).sects))) 1 ≠ 1 + cOb (jAV l)) = false →
 true = true ∧ True)))))))))))))) := by kernel_rfl
theorem ok_laws_FnExactJoinAll : ConOK Tryz.prog 5 C_laws_FnExactJoinAll := by
 refine con_q (l := L_laws_FnExactJoinAll) ⟨⟨ok_laws_szObjectS, det_laws_szObjectS⟩, ⟨⟨ok_laws_toObjectS, det_laws_toObjectS⟩, ⟨⟨ok_spec_JoinAll, det_spec_JoinAll⟩, ⟨⟨ok_impl_JoinAll, det_impl_JoinAll⟩, ⟨⟨ok_laws_eqObject, det_laws_eqObject⟩, ⟨⟨ok_laws_eqObjectS, det_laws_eqObjectS⟩, ⟨⟨ok_laws_markObjectS, det_laws_markObjectS⟩, ⟨⟨ok_laws_markObject, det_laws_markObject⟩, ⟨⟨ok_laws_heldObject, det_laws_heldObject⟩, trivial⟩⟩⟩⟩⟩⟩⟩⟩⟩ Tryz.func5 rfl (by decide) (by kernel_rfl) rfl an_laws_FnExactJoinAll fun x ho hx => ?_
 obtain ⟨l, ⟨⟩⟩ := x
 refine Keeps.of (vc_laws_FnExactJoinAll l) ?_
 revert l ho hx
 show ∀ (l : List (Objt)), _
 intro l ho hx
 dsimp only [C_laws_FnExactJoinAll, okPTL, okPT, Ok, Ty.cells, SN.cells, OkL, OkC, okI, ci, cb, cs, cl] at ho
 dsimp only [C_laws_FnExactJoinAll, vc, v1, decB, SR.pre] at hx
 have e1 := EJ_h (jAV l)
 have e2 := EJ_c (jAV l)
 have b1 := cOb_all l
 have b3 := cOb_le (jAV l)
 have b4 := jAV_sz l
 have n1 := sumI_nn cOb_nn l
 have n3 := cOb_nn (jAV l)
 have n4 := sumI_nn szOb_nn l
 (try delta i64 LN); simp only [VBt]; (repeat' first | intro _ | apply And.intro); all_goals (try omega)
 all_goals (try have z1 := szR_nn (s := l.length + sumI szOb l) (n := 1048576) (by assumption))
 all_goals first
  | omega
  | exact absurd trivial (by assumption)
  | exact absurd rfl (by assumption)
  | skip

theorem rd_s : Reads Tryz.prog 9 [.str] := reads_string Tryz.underlying9
theorem rd_i : Reads Tryz.prog 3 [.i] := reads_int Tryz.underlying3
theorem rd_u : Reads Tryz.prog 5 [.u] := reads_u8 Tryz.underlying5
theorem rd_uL : Reads Tryz.prog 22 [(.list .u)] := reads_slice (t' := .u) Tryz.underlying22 (by kernel_rfl) (by decide) rd_u
theorem rd_fixup : Reads Tryz.prog 163 (SN.sig .fixup) := reads_fs (sig := SN.sig .fixup) Tryz.underlying163 (by kernel_rfl) (fs_cons (sig := [.i]) rfl (by kernel_rfl) rd_i (fs_cons (sig := [.i]) rfl (by kernel_rfl) rd_i (fs_cons (sig := [.i]) rfl (by kernel_rfl) rd_i (fs_cons (sig := [.i]) rfl (by kernel_rfl) rd_i fs_nil))))
theorem rd_fixupL : Reads Tryz.prog 136 [(.list (.st .fixup))] := reads_slice (t' := (.st .fixup)) Tryz.underlying136 (by kernel_rfl) (by decide) rd_fixup
theorem rd_sect : Reads Tryz.prog 138 (SN.sig .sect) := reads_fs (sig := SN.sig .sect) Tryz.underlying138 (by kernel_rfl) (fs_cons (sig := [.str]) rfl (by kernel_rfl) rd_s (fs_cons (sig := [.i]) rfl (by kernel_rfl) rd_i (fs_cons (sig := [.i]) rfl (by kernel_rfl) rd_i (fs_cons (sig := [(.list .u)]) rfl (by kernel_rfl) rd_uL (fs_cons (sig := [.i]) rfl (by kernel_rfl) rd_i (fs_cons (sig := [(.list (.st .fixup))]) rfl (by kernel_rfl) rd_fixupL fs_nil))))))
theorem rd_sectL : Reads Tryz.prog 91 [(.list (.st .sect))] := reads_slice (t' := (.st .sect)) Tryz.underlying91 (by kernel_rfl) (by decide) rd_sect
theorem rd_sym : Reads Tryz.prog 140 (SN.sig .sym) := reads_fs (sig := SN.sig .sym) Tryz.underlying140 (by kernel_rfl) (fs_cons (sig := [.str]) rfl (by kernel_rfl) rd_s (fs_cons (sig := [.i]) rfl (by kernel_rfl) rd_i (fs_cons (sig := [.i]) rfl (by kernel_rfl) rd_i (fs_cons (sig := [.i]) rfl (by kernel_rfl) rd_i fs_nil))))
theorem rd_symL : Reads Tryz.prog 92 [(.list (.st .sym))] := reads_slice (t' := (.st .sym)) Tryz.underlying92 (by kernel_rfl) (by decide) rd_sym
theorem rd_obj : Reads Tryz.prog 94 (SN.sig .obj) := reads_fs (sig := SN.sig .obj) Tryz.underlying94 (by kernel_rfl) (fs_cons (sig := [(.list (.st .sect))]) rfl (by kernel_rfl) rd_sectL (fs_cons (sig := [(.list (.st .sym))]) rfl (by kernel_rfl) rd_symL fs_nil))
theorem rd_objL : Reads Tryz.prog 49 [(.list (.st .obj))] := reads_slice (t' := (.st .obj)) Tryz.underlying49 (by kernel_rfl) (by decide) rd_obj
set_option maxRecDepth 100000 in
theorem lifted_FnExactJoinAll (os : Os) (started : os.Started) (H : Type) (enc : TypeId × Value → H) :
  ReturnsInHanded {} Tryz.checked os 5 .any (Rows.fnExactJoinAllSpec.pre6 enc Tryz.prog Tryz.f5 Rows.fnExactJoinAllRow.domain false) (Rows.fnExactJoinAllSpec.post enc Tryz.prog Tryz.f5 false true false false) := by
 refine returnsInHanded_of_change (C := Tryz.checked) head_own started (by kernel_rfl) Tryz.func5
  (ChangeSpec.witness6 (enc := enc) (C := Tryz.checked) false ⟨#[], #[.slice none 0 0], []⟩ 8 (by kernel_rfl) (by kernel_rfl) (by kernel_rfl) (by kernel_rfl)) ?_
 intro W base args ds gs before hval0 hW _ _
 have hval : ∀ (j : Nat) t v, Tryz.f5.params[j]? = some t → args[j]? = some v → Value.okWide Tryz.prog W .any base t v := hval0
 have hW' := hW
 obtain ⟨p, q, hA0, hV, rfl, hfz, hnd⟩ := hW
 have hA : DataW.TrodAll enc Tryz.prog W 0 (fun _ => true) true Tryz.f5.params.toList args.toList ds p := hA0
 rw [Tryz.params5] at hA hval
 obtain ⟨v0, vs0, d0, ds0, p0, q0, hargs, rfl, rfl, h0, r0⟩ := trodAll_cons hA
 obtain ⟨rfl, rfl, rfl⟩ := trodAll_nil r0
 obtain rfl : args = #[v0] := by cases args; simp_all
 obtain ⟨rfl, rfl⟩ := trodVars_none hV
 have k0 := h0
 obtain ⟨x0, g0⟩ := open_slice1 Tryz.underlying49 rd_objL (hval 0 49 v0 rfl rfl) h0
 clear hA0 hval0 hval
 refine (law_calls ok_laws_FnExactJoinAll (x0, ()) rfl rfl (W := W) (vals := [v0]) ⟨g0, trivial⟩).mono fun e W' ⟨he, bel⟩ => ?_
 subst he
 exact ⟨_, rfl, _, _, _, [], _, [], hW', trodAll_mk1 (shut_bool Tryz.underlying4 _), (trodAll_cons_mk (Below.trod head_laid (by kernel_rfl) (of_decide_eq_true (by kernel_rfl)) k0 bel (trod_lt_ k0)) trodAll_mk0), rfl, bel.frame _, fun h => by cases h⟩

theorem over_FnExactJoinAll : Rows.fnExactJoinAllRow.holds Tryz.pinned (OpenSpec.ofChange Rows.fnExactJoinAllSpec) :=
 OpenClaim.holds_of_wide 5 Tryz.f5 rfl rfl rfl rfl rfl rfl rfl ⟨rfl, rfl, rfl, rfl, rfl⟩ rfl rfl rfl rfl rfl (by kernel_rfl) Tryz.func5 (joined_of head_laid head_rowed head_stops head_stopk head_heard head_enter (show (Rows.fnExactJoinAllRow.lifted == Tryz.prog.liftsFinal) = true by rw [head_final]; rfl) (show (Tryz.prog.make == some Rows.fnExactJoinAllRow.make) = true by rw [head_make]; rfl) (by kernel_rfl))
  (of_decide_eq_true (by kernel_rfl)) (by unfold Func.isWrapper; first | (rw [if_pos (by decide +kernel)]; kernel_rfl) | (rw [if_neg (by decide +kernel)]; exact ⟨rfl, rfl⟩))
  (fun os started H enc _ => lifted_FnExactJoinAll os started H enc)

theorem proved_FnExactJoinAll : Rows.FnExactJoinAllSaid := over_FnExactJoinAll
#print axioms proved_FnExactJoinAll

end Go.Proofs.YtpgglbnagphgoaaGreat
