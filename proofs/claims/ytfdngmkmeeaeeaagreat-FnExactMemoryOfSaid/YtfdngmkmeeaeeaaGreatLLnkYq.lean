/- The law that memories of objects are the reference's. -/
import Derived.Test.YtfdngmkmeeaeeaaGreatFamOq
import Derived.Test.YtfdngmkmeeaeeaaGreatFamCq
import Derived.Test.YtfdngmkmeeaeeaaGreatFamQq
import Derived.Test.YtfdngmkmeeaeeaaGreatMemOq
import Derived.Test.YtfdngmkmeeaeeaaGreatLnkLq
import Derived.Test.YtfdngmkmeeaeeaaGreatHeadq
set_option linter.unusedVariables false
set_option linter.unusedSimpArgs false
set_option maxRecDepth 200000
set_option maxHeartbeats 4000000
namespace Go.Proofs.YtfdngmkmeeaeeaaGreat
open Go Go.RowKit Go.ChangeShapes Go.WideShapes Go.Deep


theorem memOV_ln (l : List Objt) (b : Int) : (memOV l b).what.bytes.length ≤ 10000 ∧ (memOV l b).regions.length ≤ 3 := by
 by_cases h : (link l b).2 = 0
 ·rw [(memOV_yes h).1]
  obtain ⟨h1, _⟩ := lay_ends2 l b
  have := regs_len (layout l b).ends 0
  exact ⟨link_len l b, by simp only; omega⟩
 ·rw [(memOV_no h).1]; simp
def C_laws_FnExactMemoryOf : Con := { ps := [.ro (.list (.st .obj)), .ro .i], out := fun x => let l : List (Objt) := x.1; let b : Int := x.2.1; vc .bool true, det := true }
abbrev L_laws_FnExactMemoryOf : List (Nat × Con) := [(12, C_laws_szObjectS), (14, C_laws_toObjectS), (21, C_spec_MemoryOf), (22, C_impl_MemoryOf), (23, C_laws_eqMemory), (17, C_laws_eqObjectS), (18, C_laws_markObjectS), (24, C_laws_markMemory), (25, C_laws_heldMemory)]
def G_laws_FnExactMemoryOf : Cfg := GK L_laws_FnExactMemoryOf
def an_laws_FnExactMemoryOf : PTL C_laws_FnExactMemoryOf.ps → Nat → Option Ann := fun _ _ => none
theorem vc_laws_FnExactMemoryOf (l : List (Objt)) (b : Int) : (KP Tryz.f4 G_laws_FnExactMemoryOf C_laws_FnExactMemoryOf an_laws_FnExactMemoryOf (l, b, ())) = (((0 : Int) ≤ (1048576 : Int) ∧ (1048576 : Int) ≤ (1048576 : Int)) ∧ (decide (szR (LN l + @sumI Objt szOb l) 1048576 < 0) = true →
 true = true ∧ True) ∧ (decide (szR (LN l + @sumI Objt szOb l) 1048576 < 0) = false →
 LN l + @sumI Objt szOb l ≤ 1048576 ∧ LN l + @sumI Objt szOb l ≤ 1048576 ∧ LN l + @sumI Objt szOb l ≤ 1048576 ∧ (Bool.not (decide (memOV l b = memOV l b)) = true →
 false = true ∧ True) ∧ (Bool.not (decide (memOV l b = memOV l b)) = false →
 (decide (memOB l b ≠ memOB l b) = true →
 false = true ∧ True) ∧ (decide (memOB l b ≠ memOB l b) = false →
 LN l + @sumI Objt szOb l ≤ 1048576 ∧ (Bool.not (decide (l = l)) = true →
 false = true ∧ True) ∧ (Bool.not (decide (l = l)) = false →
 ((0 : Int) ≤ (1 : Int) ∧ 1 + @sumI Objt cOb l ≤ 1000000000000) ∧ (decide (1 + @sumI Objt cOb l < 0) = true →
 false = true ∧ True) ∧ (decide (1 + @sumI Objt cOb l < 0) = false →
 (Bool.not (decide (memOV l b = memOV l b)) = true →
 false = true ∧ True) ∧ (Bool.not (decide (memOV l b = memOV l b)) = false →
 (decide (memOB l b ≠ memOB l b) = true →
 false = true ∧ True) ∧ (decide (memOB l b ≠ memOB l b) = false →
 ((0 : Int) ≤ (1 : Int) ∧ 1 + cMe (memOV l b) ≤ 1000000000000) ∧ ((0 : Int) ≤ (1 : Int) ∧ 1 + cMe (Memo.mk (Img.mk (memOV l b).what.base (@mkL Int mkU (@cOne Int) (memOV l b).what.bytes (1 : Int))) (@mkL Region mkRg (@c4 Region) (memOV l b).regions (1 + @sumI Int (@cOne Int) (memOV l b).what.bytes))) ≤ 1000000000000) ∧ (decide (hMe (Memo.mk (Img.mk (memOV l b).what.base (@mkL Int mkU (@cOne Int) (memOV l b).what.bytes (1 : Int))) (@mkL Region mkRg (@c4 Region) (memOV l b).regions (1 + @sumI Int (@cOne Int) (memOV l b).what.bytes))) 1 < 0) = true →
 false = true ∧ True) ∧ (decide (hMe (Memo.mk (Img.mk (memOV l b).what.base (@mkL Int mkU (@cOne Int) (memOV l b).what.bytes (1 : Int))) (@mkL Region mkRg (@c4 Region) (memOV l b).regions (1 + @sumI Int (@cOne Int) (memOV l b).what.bytes))) 1 < 0) = false →
 (decide (hMe (Memo.mk (Img.mk (memOV l b).what.base (@mkL Int mkU (@cOne Int) (memOV l b).what.bytes (1 : Int))) (@mkL Region mkRg (@c4 Region) (memOV l b).regions (1 + @sumI Int (@cOne Int) (memOV l b).what.bytes))) 1 ≠ 1 + cMe (memOV l b)) = true →
 false = true ∧ True) ∧ (decide (hMe (Memo.mk (Img.mk (memOV l b).what.base (@mkL Int mkU (@cOne Int) (memOV l b).what.bytes (1 : Int))) (@mkL Region mkRg (@c4 Region) (memOV l b).regions (1 + @sumI Int (@cOne Int) (memOV l b).what.bytes))) 1 ≠ 1 + cMe (memOV l b)) = false →
 LN l + @sumI Objt szOb l ≤ 1048576 ∧ (Bool.not (decide (memOV l b = memOV l b)) = true →
 false = true ∧ True) ∧ (Bool.not (decide (memOV l b = memOV l b)) = false →
 (decide (memOB l b ≠ memOB l b) = true →
 false = true ∧ True) ∧ (decide (memOB l b ≠ memOB l b) = false →
 ((0 : Int) ≤ (1 : Int) ∧ 1 + cMe (Memo.mk (Img.mk (memOV l b).what.base (@mkL Int mkU (@cOne Int) (memOV l b).what.bytes (1 : Int))) (@mkL Region mkRg (@c4 Region) (memOV l b).regions (1 + @sumI Int (@cOne Int) (memOV l b).what.bytes))) ≤ 1000000000000) ∧ (decide (hMe (Memo.mk (Img.mk (memOV l b).what.base (@mkL Int mkU (@cOne Int) (memOV l b).what.bytes (1 : Int))) (@mkL Region mkRg (@c4 Region) (memOV l b).regions (1 + @sumI Int (@cOne Int) (memOV l b).what.bytes))) 1 < 0) = true →
 false = true ∧ True) ∧ (decide (hMe (Memo.mk (Img.mk (memOV l b).what.base (@mkL Int mkU (@cOne Int) (memOV l b).what.bytes (1 : Int))) (@mkL Region mkRg (@c4 Region) (memOV l b).regions (1 + @sumI Int (@cOne Int) (memOV l b).what.bytes))) 1 < 0) = false →
 (decide (hMe (Memo.mk (Img.mk (memOV l b).what.base (@mkL Int mkU (@cOne Int) (memOV l b).what.bytes (1 : Int))) (@mkL Region mkRg (@c4 Region) (memOV l b).regions (1 + @sumI Int (@cOne Int) (memOV l b).what.bytes))) 1 ≠ 1 + cMe (memOV l b)) = true →
 false = true ∧ True) ∧ (decide (hMe (Memo.mk (Img.mk (memOV l b).what.base (@mkL Int mkU (@cOne Int) (memOV l b).what.bytes (1 : Int))) (@mkL Region mkRg (@c4 Region) (memOV l b).regions (1 + @sumI Int (@cOne Int) (memOV l b).what.bytes))) 1 ≠ 1 + cMe (memOV l b)) = false →
 true = true ∧ True)))))))))))))) := by kernel_rfl
theorem ok_laws_FnExactMemoryOf : ConOK Tryz.prog 4 C_laws_FnExactMemoryOf := by
 refine con_q (l := L_laws_FnExactMemoryOf) ⟨⟨ok_laws_szObjectS, det_laws_szObjectS⟩, ⟨⟨ok_laws_toObjectS, det_laws_toObjectS⟩, ⟨⟨ok_spec_MemoryOf, det_spec_MemoryOf⟩, ⟨⟨ok_impl_MemoryOf, det_impl_MemoryOf⟩, ⟨⟨ok_laws_eqMemory, det_laws_eqMemory⟩, ⟨⟨ok_laws_eqObjectS, det_laws_eqObjectS⟩, ⟨⟨ok_laws_markObjectS, det_laws_markObjectS⟩, ⟨⟨ok_laws_markMemory, det_laws_markMemory⟩, ⟨⟨ok_laws_heldMemory, det_laws_heldMemory⟩, trivial⟩⟩⟩⟩⟩⟩⟩⟩⟩ Tryz.func4 rfl (by decide) (by kernel_rfl) rfl an_laws_FnExactMemoryOf fun x ho hx => ?_
 obtain ⟨l, b, ⟨⟩⟩ := x
 refine Keeps.of (vc_laws_FnExactMemoryOf l b) ?_
 revert l b ho hx
 show ∀ (l : List (Objt)) (b : Int), _
 intro l b ho hx
 dsimp only [C_laws_FnExactMemoryOf, okPTL, okPT, Ok, Ty.cells, SN.cells, OkL, OkC, okI, ci, cb, cs, cl] at ho
 dsimp only [C_laws_FnExactMemoryOf, vc, v1, decB, SR.pre] at hx
 have sn := sumI_nn szOb_nn l
 have q1 := cOb_all l
 have q2 := sumI_nn cOb_nn l
 have q3 := memOV_ln l b
 have q4 : cMe (memOV l b) = (memOV l b).what.bytes.length + 4 * (memOV l b).regions.length := by unfold cMe; rw [cOne_len, c4_len]
 have q5 : cMe (mkMe (memOV l b) 1) = cMe (memOV l b) := by unfold cMe mkMe; rw [cOne_mk, c4_mk]
 have hm := hMe_mk (memOV l b) 1 (by omega)
 unfold mkMe at hm q5
 (try delta i64 LN); simp only [VBt]; (repeat' first | intro _ | apply And.intro); all_goals (try omega)
 all_goals (try have hz := szR_nn (by assumption))
 all_goals first | omega | (try grind)

theorem rd_s : Reads Tryz.prog 9 [.str] := reads_string Tryz.underlying9
theorem rd_i : Reads Tryz.prog 3 [.i] := reads_int Tryz.underlying3
theorem rd_u : Reads Tryz.prog 5 [.u] := reads_u8 Tryz.underlying5
theorem rd_uL : Reads Tryz.prog 24 [(.list .u)] := reads_slice (t' := .u) Tryz.underlying24 (by kernel_rfl) (by decide) rd_u
theorem rd_fixup : Reads Tryz.prog 214 (SN.sig .fixup) := reads_fs (sig := SN.sig .fixup) Tryz.underlying214 (by kernel_rfl) (fs_cons (sig := [.i]) rfl (by kernel_rfl) rd_i (fs_cons (sig := [.i]) rfl (by kernel_rfl) rd_i (fs_cons (sig := [.i]) rfl (by kernel_rfl) rd_i (fs_cons (sig := [.i]) rfl (by kernel_rfl) rd_i fs_nil))))
theorem rd_fixupL : Reads Tryz.prog 185 [(.list (.st .fixup))] := reads_slice (t' := (.st .fixup)) Tryz.underlying185 (by kernel_rfl) (by decide) rd_fixup
theorem rd_sect : Reads Tryz.prog 187 (SN.sig .sect) := reads_fs (sig := SN.sig .sect) Tryz.underlying187 (by kernel_rfl) (fs_cons (sig := [.str]) rfl (by kernel_rfl) rd_s (fs_cons (sig := [.i]) rfl (by kernel_rfl) rd_i (fs_cons (sig := [.i]) rfl (by kernel_rfl) rd_i (fs_cons (sig := [(.list .u)]) rfl (by kernel_rfl) rd_uL (fs_cons (sig := [.i]) rfl (by kernel_rfl) rd_i (fs_cons (sig := [(.list (.st .fixup))]) rfl (by kernel_rfl) rd_fixupL fs_nil))))))
theorem rd_sectL : Reads Tryz.prog 82 [(.list (.st .sect))] := reads_slice (t' := (.st .sect)) Tryz.underlying82 (by kernel_rfl) (by decide) rd_sect
theorem rd_sym : Reads Tryz.prog 189 (SN.sig .sym) := reads_fs (sig := SN.sig .sym) Tryz.underlying189 (by kernel_rfl) (fs_cons (sig := [.str]) rfl (by kernel_rfl) rd_s (fs_cons (sig := [.i]) rfl (by kernel_rfl) rd_i (fs_cons (sig := [.i]) rfl (by kernel_rfl) rd_i (fs_cons (sig := [.i]) rfl (by kernel_rfl) rd_i fs_nil))))
theorem rd_symL : Reads Tryz.prog 83 [(.list (.st .sym))] := reads_slice (t' := (.st .sym)) Tryz.underlying83 (by kernel_rfl) (by decide) rd_sym
theorem rd_obj : Reads Tryz.prog 85 (SN.sig .obj) := reads_fs (sig := SN.sig .obj) Tryz.underlying85 (by kernel_rfl) (fs_cons (sig := [(.list (.st .sect))]) rfl (by kernel_rfl) rd_sectL (fs_cons (sig := [(.list (.st .sym))]) rfl (by kernel_rfl) rd_symL fs_nil))
theorem rd_objL : Reads Tryz.prog 22 [(.list (.st .obj))] := reads_slice (t' := (.st .obj)) Tryz.underlying22 (by kernel_rfl) (by decide) rd_obj
set_option maxRecDepth 100000 in
theorem lifted_FnExactMemoryOf (os : Os) (started : os.Started) (H : Type) (enc : TypeId × Value → H) :
  ReturnsInHanded {} Tryz.checked os 4 .any (Rows.fnExactMemoryOfSpec.pre6 enc Tryz.prog Tryz.f4 Rows.fnExactMemoryOfRow.domain false) (Rows.fnExactMemoryOfSpec.post enc Tryz.prog Tryz.f4 false true false false) := by
 refine returnsInHanded_of_change (C := Tryz.checked) head_own started (by kernel_rfl) Tryz.func4
  (ChangeSpec.witness6 (enc := enc) (C := Tryz.checked) false ⟨#[], #[.slice none 0 0, .int .i64 0], []⟩ 8 (by kernel_rfl) (by kernel_rfl) (by kernel_rfl) (by kernel_rfl)) ?_
 intro W base args ds gs before hval0 hW _ _
 have hval : ∀ (j : Nat) t v, Tryz.f4.params[j]? = some t → args[j]? = some v → Value.okWide Tryz.prog W .any base t v := hval0
 have hW' := hW
 obtain ⟨p, q, hA0, hV, rfl, hfz, hnd⟩ := hW
 have hA : DataW.TrodAll enc Tryz.prog W 0 (fun _ => true) true Tryz.f4.params.toList args.toList ds p := hA0
 rw [Tryz.params4] at hA hval
 obtain ⟨v0, vs0, d0, ds0, p0, q0, hargs, rfl, rfl, h0, r0⟩ := trodAll_cons hA
 obtain ⟨v1, vs1, d1, ds1, p1, q1, rfl, rfl, rfl, h1, r1⟩ := trodAll_cons r0
 obtain ⟨rfl, rfl, rfl⟩ := trodAll_nil r1
 obtain rfl : args = #[v0, v1] := by cases args; simp_all
 obtain ⟨rfl, rfl⟩ := trodVars_none hV
 have k0 := h0
 obtain ⟨x0, g0⟩ := open_slice1 Tryz.underlying22 rd_objL (hval 0 22 v0 rfl rfl) h0
 have k1 := h1
 obtain ⟨n1, hn1, _, _, _⟩ := open_int Tryz.underlying3 (hval 1 3 v1 rfl rfl) h1
 obtain ⟨x1, g1⟩ := open_one (by rw [hn1]; rfl) rd_i h1
 clear hA0 hval0 hval
 refine (law_calls ok_laws_FnExactMemoryOf (x0, x1, ()) rfl rfl (W := W) (vals := [v0, v1]) ⟨g0, g1, trivial⟩).mono fun e W' ⟨he, bel⟩ => ?_
 subst he
 exact ⟨_, rfl, _, _, _, [], _, [], hW', trodAll_mk1 (shut_bool Tryz.underlying4 _), (trodAll_cons_mk (Below.trod head_laid (by kernel_rfl) (of_decide_eq_true (by kernel_rfl)) k0 bel (trod_lt_ k0)) (trodAll_cons_mk (Below.trod head_laid (by kernel_rfl) (of_decide_eq_true (by kernel_rfl)) k1 bel (trod_lt_ k1)) trodAll_mk0)), rfl, bel.frame _, fun h => by cases h⟩

theorem over_FnExactMemoryOf : Rows.fnExactMemoryOfRow.holds Tryz.pinned (OpenSpec.ofChange Rows.fnExactMemoryOfSpec) :=
 OpenClaim.holds_of_wide 4 Tryz.f4 rfl rfl rfl rfl rfl rfl rfl ⟨rfl, rfl, rfl, rfl, rfl⟩ rfl rfl rfl rfl rfl (by kernel_rfl) Tryz.func4 (joined_of head_laid head_rowed head_stops head_stopk head_heard head_enter (show (Rows.fnExactMemoryOfRow.lifted == Tryz.prog.liftsFinal) = true by rw [head_final]; rfl) (show (Tryz.prog.make == some Rows.fnExactMemoryOfRow.make) = true by rw [head_make]; rfl) (by kernel_rfl))
  (of_decide_eq_true (by kernel_rfl)) (by unfold Func.isWrapper; first | (rw [if_pos (by decide +kernel)]; kernel_rfl) | (rw [if_neg (by decide +kernel)]; exact ⟨rfl, rfl⟩))
  (fun os started H enc _ => lifted_FnExactMemoryOf os started H enc)

theorem proved_FnExactMemoryOf : Rows.FnExactMemoryOfSaid := over_FnExactMemoryOf
#print axioms proved_FnExactMemoryOf

end Go.Proofs.YtfdngmkmeeaeeaaGreat
