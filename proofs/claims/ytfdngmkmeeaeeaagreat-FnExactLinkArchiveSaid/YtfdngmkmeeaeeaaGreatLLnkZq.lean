/- The law that images of objects and of those that are taken are the reference's. -/
import Derived.Test.YtfdngmkmeeaeeaaGreatFamPq
import Derived.Test.YtfdngmkmeeaeeaaGreatFamQq
import Derived.Test.YtfdngmkmeeaeeaaGreatMemOq
import Derived.Test.YtfdngmkmeeaeeaaGreatLnkLq
import Derived.Test.YtfdngmkmeeaeeaaGreatHeadq
set_option linter.unusedVariables false
set_option linter.unusedSimpArgs false
set_option maxRecDepth 200000
set_option maxHeartbeats 4000000
namespace Go.Proofs.YtfdngmkmeeaeeaaGreat
open Go Go.RowKit Go.ChangeShapes Go.WideShapes Go.Deep


theorem lnkAV_ln (l : List Objt) (a : List Member) (b : Int) : (lnkAV l a b).1.bytes.length ≤ 10000 := by
 unfold lnkAV
 split
 ·exact link_len _ b
 ·simp
def C_laws_FnExactLinkArchive : Con := { ps := [.ro (.list (.st .obj)), .ro (.list (.st .member)), .ro .i], out := fun x => let l : List (Objt) := x.1; let a : List (Member) := x.2.1; let b : Int := x.2.2.1; vc .bool true, det := true }
abbrev L_laws_FnExactLinkArchive : List (Nat × Con) := [(12, C_laws_szObjectS), (26, C_laws_szMemberS), (14, C_laws_toObjectS), (28, C_laws_toMemberS), (27, C_spec_LinkArchive), (29, C_impl_LinkArchive), (16, C_laws_eqImage), (17, C_laws_eqObjectS), (30, C_laws_eqMemberS), (18, C_laws_markObjectS), (31, C_laws_markMemberS), (19, C_laws_markImage), (20, C_laws_heldImage)]
def G_laws_FnExactLinkArchive : Cfg := GK L_laws_FnExactLinkArchive
def an_laws_FnExactLinkArchive : PTL C_laws_FnExactLinkArchive.ps → Nat → Option Ann := fun _ _ => none
theorem vc_laws_FnExactLinkArchive (l : List (Objt)) (a : List (Member)) (b : Int) : (KP Tryz.f5 G_laws_FnExactLinkArchive C_laws_FnExactLinkArchive an_laws_FnExactLinkArchive (l, a, b, ())) = (((0 : Int) ≤ (1048576 : Int) ∧ (1048576 : Int) ≤ (1048576 : Int)) ∧ (decide (szR (LN l + @sumI Objt szOb l) 1048576 < 0) = true →
 true = true ∧ True) ∧ (decide (szR (LN l + @sumI Objt szOb l) 1048576 < 0) = false →
 (0 ≤ szR (LN l + @sumI Objt szOb l) 1048576 ∧ szR (LN l + @sumI Objt szOb l) 1048576 ≤ 1048576) ∧ (decide (szR (LN a + @sumI Member szMb a) (szR (LN l + @sumI Objt szOb l) 1048576) < 0) = true →
 true = true ∧ True) ∧ (decide (szR (LN a + @sumI Member szMb a) (szR (LN l + @sumI Objt szOb l) 1048576) < 0) = false →
 LN l + @sumI Objt szOb l ≤ 1048576 ∧ LN a + @sumI Member szMb a ≤ 1048576 ∧ (LN l + @sumI Objt szOb l ≤ 1048576 ∧ LN a + @sumI Member szMb a ≤ 1048576) ∧ LN l + @sumI Objt szOb l ≤ 1048576 ∧ LN a + @sumI Member szMb a ≤ 1048576 ∧ (Bool.not (decide ((lnkAV l a b).fst = (lnkAV l a b).fst)) = true →
 false = true ∧ True) ∧ (Bool.not (decide ((lnkAV l a b).fst = (lnkAV l a b).fst)) = false →
 (decide ((lnkAV l a b).snd ≠ (lnkAV l a b).snd) = true →
 false = true ∧ True) ∧ (decide ((lnkAV l a b).snd ≠ (lnkAV l a b).snd) = false →
 LN l + @sumI Objt szOb l ≤ 1048576 ∧ (Bool.not (decide (l = l)) = true →
 false = true ∧ True) ∧ (Bool.not (decide (l = l)) = false →
 LN a + @sumI Member szMb a ≤ 1048576 ∧ (Bool.not (decide (a = a)) = true →
 false = true ∧ True) ∧ (Bool.not (decide (a = a)) = false →
 ((0 : Int) ≤ (1 : Int) ∧ 1 + @sumI Objt cOb l ≤ 1000000000000) ∧ (0 ≤ 1 + @sumI Objt cOb l ∧ 1 + @sumI Objt cOb l + @sumI Member cMb a ≤ 1000000000000) ∧ (decide (1 + @sumI Objt cOb l + @sumI Member cMb a < 0) = true →
 false = true ∧ True) ∧ (decide (1 + @sumI Objt cOb l + @sumI Member cMb a < 0) = false →
 (Bool.not (decide ((lnkAV l a b).fst = (lnkAV l a b).fst)) = true →
 false = true ∧ True) ∧ (Bool.not (decide ((lnkAV l a b).fst = (lnkAV l a b).fst)) = false →
 (decide ((lnkAV l a b).snd ≠ (lnkAV l a b).snd) = true →
 false = true ∧ True) ∧ (decide ((lnkAV l a b).snd ≠ (lnkAV l a b).snd) = false →
 ((0 : Int) ≤ (1 : Int) ∧ 1 + cIm (lnkAV l a b).fst ≤ 1000000000000) ∧ ((0 : Int) ≤ (1 : Int) ∧ 1 + cIm (Img.mk (lnkAV l a b).fst.base (@mkL Int mkU (@cOne Int) (lnkAV l a b).fst.bytes (1 : Int))) ≤ 1000000000000) ∧ (decide (hIm (Img.mk (lnkAV l a b).fst.base (@mkL Int mkU (@cOne Int) (lnkAV l a b).fst.bytes (1 : Int))) 1 < 0) = true →
 false = true ∧ True) ∧ (decide (hIm (Img.mk (lnkAV l a b).fst.base (@mkL Int mkU (@cOne Int) (lnkAV l a b).fst.bytes (1 : Int))) 1 < 0) = false →
 (decide (hIm (Img.mk (lnkAV l a b).fst.base (@mkL Int mkU (@cOne Int) (lnkAV l a b).fst.bytes (1 : Int))) 1 ≠ 1 + cIm (lnkAV l a b).fst) = true →
 false = true ∧ True) ∧ (decide (hIm (Img.mk (lnkAV l a b).fst.base (@mkL Int mkU (@cOne Int) (lnkAV l a b).fst.bytes (1 : Int))) 1 ≠ 1 + cIm (lnkAV l a b).fst) = false →
 LN l + @sumI Objt szOb l ≤ 1048576 ∧ LN a + @sumI Member szMb a ≤ 1048576 ∧ (Bool.not (decide ((lnkAV l a b).fst = (lnkAV l a b).fst)) = true →
 false = true ∧ True) ∧ (Bool.not (decide ((lnkAV l a b).fst = (lnkAV l a b).fst)) = false →
 (decide ((lnkAV l a b).snd ≠ (lnkAV l a b).snd) = true →
 false = true ∧ True) ∧ (decide ((lnkAV l a b).snd ≠ (lnkAV l a b).snd) = false →
 ((0 : Int) ≤ (1 : Int) ∧ 1 + cIm (Img.mk (lnkAV l a b).fst.base (@mkL Int mkU (@cOne Int) (lnkAV l a b).fst.bytes (1 : Int))) ≤ 1000000000000) ∧ (decide (hIm (Img.mk (lnkAV l a b).fst.base (@mkL Int mkU (@cOne Int) (lnkAV l a b).fst.bytes (1 : Int))) 1 < 0) = true →
 false = true ∧ True) ∧ (decide (hIm (Img.mk (lnkAV l a b).fst.base (@mkL Int mkU (@cOne Int) (lnkAV l a b).fst.bytes (1 : Int))) 1 < 0) = false →
 (decide (hIm (Img.mk (lnkAV l a b).fst.base (@mkL Int mkU (@cOne Int) (lnkAV l a b).fst.bytes (1 : Int))) 1 ≠ 1 + cIm (lnkAV l a b).fst) = true →
 false = true ∧ True) ∧ (decide (hIm (Img.mk (lnkAV l a b).fst.base (@mkL Int mkU (@cOne Int) (lnkAV l a b).fst.bytes (1 : Int))) 1 ≠ 1 + cIm (lnkAV l a b).fst) = false →
 true = true ∧ True)))))))))))))))) := by kernel_rfl
theorem ok_laws_FnExactLinkArchive : ConOK Tryz.prog 5 C_laws_FnExactLinkArchive := by
 refine con_q (l := L_laws_FnExactLinkArchive) ⟨⟨ok_laws_szObjectS, det_laws_szObjectS⟩, ⟨⟨ok_laws_szMemberS, det_laws_szMemberS⟩, ⟨⟨ok_laws_toObjectS, det_laws_toObjectS⟩, ⟨⟨ok_laws_toMemberS, det_laws_toMemberS⟩, ⟨⟨ok_spec_LinkArchive, det_spec_LinkArchive⟩, ⟨⟨ok_impl_LinkArchive, det_impl_LinkArchive⟩, ⟨⟨ok_laws_eqImage, det_laws_eqImage⟩, ⟨⟨ok_laws_eqObjectS, det_laws_eqObjectS⟩, ⟨⟨ok_laws_eqMemberS, det_laws_eqMemberS⟩, ⟨⟨ok_laws_markObjectS, det_laws_markObjectS⟩, ⟨⟨ok_laws_markMemberS, det_laws_markMemberS⟩, ⟨⟨ok_laws_markImage, det_laws_markImage⟩, ⟨⟨ok_laws_heldImage, det_laws_heldImage⟩, trivial⟩⟩⟩⟩⟩⟩⟩⟩⟩⟩⟩⟩⟩ Tryz.func5 rfl (by decide) (by kernel_rfl) rfl an_laws_FnExactLinkArchive fun x ho hx => ?_
 obtain ⟨l, a, b, ⟨⟩⟩ := x
 refine Keeps.of (vc_laws_FnExactLinkArchive l a b) ?_
 revert l a b ho hx
 show ∀ (l : List (Objt)) (a : List (Member)) (b : Int), _
 intro l a b ho hx
 dsimp only [C_laws_FnExactLinkArchive, okPTL, okPT, Ok, Ty.cells, SN.cells, OkL, OkC, okI, ci, cb, cs, cl] at ho
 dsimp only [C_laws_FnExactLinkArchive, vc, v1, decB, SR.pre] at hx
 have sn := sumI_nn szOb_nn l
 have sm := sumI_nn szMb_nn a
 have q1 := cOb_all l
 have q2 := sumI_nn cOb_nn l
 have q6 := cMb_all a
 have q7 := sumI_nn cMb_nn a
 have q3 := lnkAV_ln l a b
 have q4 : cIm (lnkAV l a b).1 = (lnkAV l a b).1.bytes.length := cOne_len _
 have q5 : cIm (mkIm (lnkAV l a b).1 1) = cIm (lnkAV l a b).1 := by unfold cIm mkIm; exact cOne_mk _ _
 have hm := hIm_mk (lnkAV l a b).1 1 (by omega)
 unfold mkIm at hm q5
 (try delta i64 LN); simp only [VBt]; (repeat' first | intro _ | apply And.intro); all_goals (try omega)
 all_goals (try have hz := szR_nn (by assumption))
 all_goals first | omega | (try grind [szR])

theorem rd_s : Reads Tryz.prog 9 [.str] := reads_string Tryz.underlying9
theorem rd_i : Reads Tryz.prog 3 [.i] := reads_int Tryz.underlying3
theorem rd_u : Reads Tryz.prog 5 [.u] := reads_u8 Tryz.underlying5
theorem rd_uL : Reads Tryz.prog 24 [(.list .u)] := reads_slice (t' := .u) Tryz.underlying24 (by kernel_rfl) (by decide) rd_u
theorem rd_fixup : Reads Tryz.prog 214 (SN.sig .fixup) := reads_fs (sig := SN.sig .fixup) Tryz.underlying214 (by kernel_rfl) (fs_cons (sig := [.i]) rfl (by kernel_rfl) rd_i (fs_cons (sig := [.i]) rfl (by kernel_rfl) rd_i (fs_cons (sig := [.i]) rfl (by kernel_rfl) rd_i (fs_cons (sig := [.i]) rfl (by kernel_rfl) rd_i fs_nil))))
theorem rd_fixupL : Reads Tryz.prog 185 [(.list (.st .fixup))] := reads_slice (t' := (.st .fixup)) Tryz.underlying185 (by kernel_rfl) (by decide) rd_fixup
theorem rd_sect : Reads Tryz.prog 187 (SN.sig .sect) := reads_fs (sig := SN.sig .sect) Tryz.underlying187 (by kernel_rfl) (fs_cons (sig := [.str]) rfl (by kernel_rfl) rd_s (fs_cons (sig := [.i]) rfl (by kernel_rfl) rd_i (fs_cons (sig := [.i]) rfl (by kernel_rfl) rd_i (fs_cons (sig := [(.list .u)]) rfl (by kernel_rfl) rd_uL (fs_cons (sig := [.i]) rfl (by kernel_rfl) rd_i (fs_cons (sig := [(.list (.st .fixup))]) rfl (by kernel_rfl) rd_fixupL fs_nil))))))
theorem rd_sectL : Reads Tryz.prog 82 [(.list (.st .sect))] := reads_slice (t' := (.st .sect)) Tryz.underlying82 (by kernel_rfl) (by decide) rd_sect
theorem rd_sym : Reads Tryz.prog 189 (SN.sig .sym) := reads_fs (sig := SN.sig .sym) Tryz.underlying189 (by kernel_rfl) (fs_cons (sig := [.str]) rfl (by kernel_rfl) rd_s (fs_cons (sig := [.i]) rfl (by kernel_rfl) rd_i (fs_cons (sig := [.i]) rfl (by kernel_rfl) rd_i (fs_cons (sig := [.i]) rfl (by kernel_rfl) rd_i fs_nil))))
theorem rd_symL : Reads Tryz.prog 83 [(.list (.st .sym))] := reads_slice (t' := (.st .sym)) Tryz.underlying83 (by kernel_rfl) (by decide) rd_sym
theorem rd_obj : Reads Tryz.prog 85 (SN.sig .obj) := reads_fs (sig := SN.sig .obj) Tryz.underlying85 (by kernel_rfl) (fs_cons (sig := [(.list (.st .sect))]) rfl (by kernel_rfl) rd_sectL (fs_cons (sig := [(.list (.st .sym))]) rfl (by kernel_rfl) rd_symL fs_nil))
theorem rd_objL : Reads Tryz.prog 22 [(.list (.st .obj))] := reads_slice (t' := (.st .obj)) Tryz.underlying22 (by kernel_rfl) (by decide) rd_obj
theorem rd_member : Reads Tryz.prog 107 (SN.sig .member) := reads_fs (sig := SN.sig .member) Tryz.underlying107 (by kernel_rfl) (fs_cons (sig := [.str]) rfl (by kernel_rfl) rd_s (fs_cons (sig := [(.list (.st .sect)), (.list (.st .sym))]) rfl (by kernel_rfl) rd_obj fs_nil))
theorem rd_memberL : Reads Tryz.prog 43 [(.list (.st .member))] := reads_slice (t' := (.st .member)) Tryz.underlying43 (by kernel_rfl) (by decide) rd_member
set_option maxRecDepth 100000 in
theorem lifted_FnExactLinkArchive (os : Os) (started : os.Started) (H : Type) (enc : TypeId × Value → H) :
  ReturnsInHanded {} Tryz.checked os 5 .any (Rows.fnExactLinkArchiveSpec.pre6 enc Tryz.prog Tryz.f5 Rows.fnExactLinkArchiveRow.domain false) (Rows.fnExactLinkArchiveSpec.post enc Tryz.prog Tryz.f5 false true false false) := by
 refine returnsInHanded_of_change (C := Tryz.checked) head_own started (by kernel_rfl) Tryz.func5
  (ChangeSpec.witness6 (enc := enc) (C := Tryz.checked) false ⟨#[], #[.slice none 0 0, .slice none 0 0, .int .i64 0], []⟩ 8 (by kernel_rfl) (by kernel_rfl) (by kernel_rfl) (by kernel_rfl)) ?_
 intro W base args ds gs before hval0 hW _ _
 have hval : ∀ (j : Nat) t v, Tryz.f5.params[j]? = some t → args[j]? = some v → Value.okWide Tryz.prog W .any base t v := hval0
 have hW' := hW
 obtain ⟨p, q, hA0, hV, rfl, hfz, hnd⟩ := hW
 have hA : DataW.TrodAll enc Tryz.prog W 0 (fun _ => true) true Tryz.f5.params.toList args.toList ds p := hA0
 rw [Tryz.params5] at hA hval
 obtain ⟨v0, vs0, d0, ds0, p0, q0, hargs, rfl, rfl, h0, r0⟩ := trodAll_cons hA
 obtain ⟨v1, vs1, d1, ds1, p1, q1, rfl, rfl, rfl, h1, r1⟩ := trodAll_cons r0
 obtain ⟨v2, vs2, d2, ds2, p2, q2, rfl, rfl, rfl, h2, r2⟩ := trodAll_cons r1
 obtain ⟨rfl, rfl, rfl⟩ := trodAll_nil r2
 obtain rfl : args = #[v0, v1, v2] := by cases args; simp_all
 obtain ⟨rfl, rfl⟩ := trodVars_none hV
 have k0 := h0
 obtain ⟨x0, g0⟩ := open_slice1 Tryz.underlying22 rd_objL (hval 0 22 v0 rfl rfl) h0
 have k1 := h1
 obtain ⟨x1, g1⟩ := open_slice1 Tryz.underlying43 rd_memberL (hval 1 43 v1 rfl rfl) h1
 have k2 := h2
 obtain ⟨n2, hn2, _, _, _⟩ := open_int Tryz.underlying3 (hval 2 3 v2 rfl rfl) h2
 obtain ⟨x2, g2⟩ := open_one (by rw [hn2]; rfl) rd_i h2
 clear hA0 hval0 hval
 refine (law_calls ok_laws_FnExactLinkArchive (x0, x1, x2, ()) rfl rfl (W := W) (vals := [v0, v1, v2]) ⟨g0, g1, g2, trivial⟩).mono fun e W' ⟨he, bel⟩ => ?_
 subst he
 exact ⟨_, rfl, _, _, _, [], _, [], hW', trodAll_mk1 (shut_bool Tryz.underlying4 _), (trodAll_cons_mk (Below.trod head_laid (by kernel_rfl) (of_decide_eq_true (by kernel_rfl)) k0 bel (trod_lt_ k0)) (trodAll_cons_mk (Below.trod head_laid (by kernel_rfl) (of_decide_eq_true (by kernel_rfl)) k1 bel (trod_lt_ k1)) (trodAll_cons_mk (Below.trod head_laid (by kernel_rfl) (of_decide_eq_true (by kernel_rfl)) k2 bel (trod_lt_ k2)) trodAll_mk0))), rfl, bel.frame _, fun h => by cases h⟩

theorem over_FnExactLinkArchive : Rows.fnExactLinkArchiveRow.holds Tryz.pinned (OpenSpec.ofChange Rows.fnExactLinkArchiveSpec) :=
 OpenClaim.holds_of_wide 5 Tryz.f5 rfl rfl rfl rfl rfl rfl rfl ⟨rfl, rfl, rfl, rfl, rfl⟩ rfl rfl rfl rfl rfl (by kernel_rfl) Tryz.func5 (joined_of head_laid head_rowed head_stops head_stopk head_heard head_enter (show (Rows.fnExactLinkArchiveRow.lifted == Tryz.prog.liftsFinal) = true by rw [head_final]; rfl) (show (Tryz.prog.make == some Rows.fnExactLinkArchiveRow.make) = true by rw [head_make]; rfl) (by kernel_rfl))
  (of_decide_eq_true (by kernel_rfl)) (by unfold Func.isWrapper; first | (rw [if_pos (by decide +kernel)]; kernel_rfl) | (rw [if_neg (by decide +kernel)]; exact ⟨rfl, rfl⟩))
  (fun os started H enc _ => lifted_FnExactLinkArchive os started H enc)

theorem proved_FnExactLinkArchive : Rows.FnExactLinkArchiveSaid := over_FnExactLinkArchive
#print axioms proved_FnExactLinkArchive

end Go.Proofs.YtfdngmkmeeaeeaaGreat
