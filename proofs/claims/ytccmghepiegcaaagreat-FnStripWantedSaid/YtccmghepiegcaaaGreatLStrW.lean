/- The law on stripped objects: they are linked to the same image. -/
import Derived.Test.YtccmghepiegcaaaGreatDrawU
import Derived.Test.YtccmghepiegcaaaGreatSameO
import Derived.Test.YtccmghepiegcaaaGreatStr
import Derived.Test.YtccmghepiegcaaaGreatLink
import Derived.Test.YtccmghepiegcaaaGreatHead
set_option linter.unusedVariables false
set_option linter.unusedSimpArgs false
set_option maxRecDepth 200000
set_option maxHeartbeats 4000000
namespace Go.Proofs.YtccmghepiegcaaaGreat
open Go Go.RowKit Go.ChangeShapes Go.WideShapes Go.Deep


theorem NE_selfL {α : Type} {x : α} (h : x ≠ x) : False := h rfl
theorem NT_L (h : ¬ True) : False := h trivial
theorem SL_1 {o : Objt} (h : ¬ ((stripW o).syms.length : Int) = 0) (ho : objB o = false) : False := h (by rw [stripW, if_neg (by simp [ho])]; rfl)
theorem SL_2 {o : Objt} (h : ¬ ((stripW o).sects.length : Int) = 0) (ho : objB o = false) : False := h (by rw [stripW, if_neg (by simp [ho])]; rfl)
theorem SL_3 {o : Objt} : szOb (stripW o) ≤ 1000000 := by have := stripW_sz o; omega
theorem SL_5 {o : Objt} (h : ¬ stripW (stripW o) = stripW o) (ho : objB o = true) : False := h (stripW_twice ho)
theorem SL_8 {o : Objt} (h : objB (stripW o) = false) (ho : objB o = true) : False := by rw [(stripW_law (b := 0) ho).1] at h; cases h
theorem SL_6 {o : Objt} {b : Int} (h : ¬ (link [o] b).fst = (link [stripW o] b).fst) (h0 : ¬ (link [o] b).snd ≠ 0) (ho : objB o = true) : False := h (by rw [(stripW_law ho).2 (Classical.not_not.1 h0)])
theorem SL_7 {o : Objt} {b : Int} (h : ¬ (link [stripW o] b).snd = 0) (h0 : ¬ (link [o] b).snd ≠ 0) (ho : objB o = true) : False := h (by rw [(stripW_law ho).2 (Classical.not_not.1 h0)]; exact Classical.not_not.1 h0)
def C_laws_FnStripWanted : Con := { ps := [.ro (.list .u)], out := fun x => let c : List (Int) := x.1; vc .bool true, det := true }
abbrev L_laws_FnStripWanted : List (Nat × Con) := [(14, C_spec_DrawStripWanted), (15, C_impl_StripWanted), (16, C_spec_StripWanted), (7, C_laws_sameObject), (9, C_spec_ObjectValid), (10, C_laws_alive), (11, C_impl_Link), (12, C_impl_ObjectValid), (13, C_laws_sameImage)]
def G_laws_FnStripWanted : Cfg := GK L_laws_FnStripWanted
def an_laws_FnStripWanted : PTL C_laws_FnStripWanted.ps → Nat → Option Ann := fun x kk_ => let c : List (Int) := x.1; if kk_ = 1009 then some (.all (Objt) fun o => .giv (objSm o = true ∧ objB o = true) (.mk [(3, aref 30), (4, aref 31)] [(30, bx (ast .obj o)), (31, bx (ast .obj (stripW o)))] (0))) else none
theorem vc_laws_FnStripWanted (c : List (Int)) : (KP Tryz.f4 G_laws_FnStripWanted C_laws_FnStripWanted an_laws_FnStripWanted (c, ())) = (c.length ≤ 9223372036854775807 →
 (decide (1048576 < LN c) = true →
 true = true ∧ True) ∧ (decide (1048576 < LN c) = false →
 (∀ (a : Objt), objSm a = true →
 szOb a ≤ 1000000 ∧ szOb a ≤ 1000000 ∧ (Bool.not (decide (stripW a = stripW a)) = true →
 false = true ∧ True) ∧ (Bool.not (decide (stripW a = stripW a)) = false →
 (Bool.not (objB a) = true →
 (stripW a).sects.length ≤ 9223372036854775807 →
 (decide (LN (stripW a).sects = 0) = true →
 (stripW a).syms.length ≤ 9223372036854775807 →
 (decide (LN (stripW a).syms = 0) = true →
 true = true ∧ True) ∧ (decide (LN (stripW a).syms = 0) = false →
 false = true ∧ True)) ∧ (decide (LN (stripW a).sects = 0) = false →
 false = true ∧ True)) ∧ (Bool.not (objB a) = false →
 (∃ (b : Objt), a.sects = b.sects ∧ a.syms = b.syms ∧ (stripW a).sects = (stripW b).sects ∧ (stripW a).syms = (stripW b).syms ∧ (objSm b = true ∧ objB b = true) ∧ (∀ (d : Objt), objSm d = true ∧ objB d = true →
 (0 : Nat) = (0 : Nat) →
 (objB (stripW d) = true →
 (decide ((link [d] 64).snd ≠ 0) = true →
 szOb (stripW d) ≤ 1000000 ∧ decide (stripW (stripW d) = stripW d) = true ∧ True) ∧ (decide ((link [d] 64).snd ≠ 0) = false →
 (decide ((link [stripW d] 64).snd = 0) = true →
 (decide ((link [d] 64).fst = (link [stripW d] 64).fst) = true →
 szOb (stripW d) ≤ 1000000 ∧ decide (stripW (stripW d) = stripW d) = true ∧ True) ∧ (decide ((link [d] 64).fst = (link [stripW d] 64).fst) = false →
 false = true ∧ True)) ∧ (decide ((link [stripW d] 64).snd = 0) = false →
 false = true ∧ True))) ∧ (objB (stripW d) = false →
 false = true ∧ True)))))))) := by kernel_rfl
theorem det_laws_FnStripWanted : C_laws_FnStripWanted.det = true → ∀ x, (C_laws_FnStripWanted.out x).Det := fun _ _ => Det.vc'
theorem ok_laws_FnStripWanted : ConOK Tryz.prog 4 C_laws_FnStripWanted := by
  refine con_q (l := L_laws_FnStripWanted) ⟨⟨ok_spec_DrawStripWanted, det_spec_DrawStripWanted⟩, ⟨⟨ok_impl_StripWanted, det_impl_StripWanted⟩, ⟨⟨ok_spec_StripWanted, det_spec_StripWanted⟩, ⟨⟨ok_laws_sameObject, det_laws_sameObject⟩, ⟨⟨ok_spec_ObjectValid, det_spec_ObjectValid⟩, ⟨⟨ok_laws_alive, det_laws_alive⟩, ⟨⟨ok_impl_Link, det_impl_Link⟩, ⟨⟨ok_impl_ObjectValid, det_impl_ObjectValid⟩, ⟨⟨ok_laws_sameImage, det_laws_sameImage⟩, trivial⟩⟩⟩⟩⟩⟩⟩⟩⟩ Tryz.func4 rfl (by decide) (by kernel_rfl) rfl an_laws_FnStripWanted fun x ho hx => ?_
  obtain ⟨c, ⟨⟩⟩ := x
  refine Keeps.of (vc_laws_FnStripWanted c) ?_
  revert c ho hx
  show ∀ (c : List (Int)), _
  intro c ho hx
  dsimp only [C_laws_FnStripWanted, okPTL, okPT, Ok, Ty.cells, SN.cells, OkL, OkC, okI, ci, cb, cs, cl] at ho
  dsimp only [C_laws_FnStripWanted, vc, v1, decB, SR.pre] at hx
  (try delta i64 LN); simp only [DRt, ex_sect2]; (repeat' first | apply And.intro | (intro x hq _; replace hq := List.mem_of_getElem? hq; simp only [List.mem_cons, List.not_mem_nil, or_false] at hq) | intro _); all_goals (try omega)
  all_goals first
    | omega
    | (have := objSm_sz (by assumption); omega)
    | exact NE_selfL (by assumption)
    | exact NT_L (by assumption)
    | exact SL_1 (by assumption) (by assumption)
    | exact SL_2 (by assumption) (by assumption)
    | exact SL_3
    | exact stripW_twice (by assumption)
    | exact SL_5 (by assumption) (by assumption)
    | exact SL_8 (by assumption) (by assumption)
    | exact SL_6 (by assumption) (by assumption) (by assumption)
    | exact SL_7 (by assumption) (by assumption) (by assumption)
    | skip

theorem rd_u : Reads Tryz.prog 5 [.u] := reads_u8 Tryz.underlying5
theorem rd_uL : Reads Tryz.prog 22 [(.list .u)] := reads_slice (t' := .u) Tryz.underlying22 (by kernel_rfl) (by decide) rd_u
set_option maxRecDepth 100000 in
theorem lifted_FnStripWanted (os : Os) (started : os.Started) (H : Type) (enc : TypeId × Value → H) :
    ReturnsInHanded {} Tryz.checked os 4 .any (Rows.fnStripWantedSpec.pre6 enc Tryz.prog Tryz.f4 Rows.fnStripWantedRow.domain false) (Rows.fnStripWantedSpec.post enc Tryz.prog Tryz.f4 false true false false) := by
  refine returnsInHanded_of_change (C := Tryz.checked) head_own started (by kernel_rfl) Tryz.func4
    (ChangeSpec.witness6 (enc := enc) (C := Tryz.checked) false ⟨#[], #[.slice none 0 0], []⟩ 8 (by kernel_rfl) (by kernel_rfl) (by kernel_rfl) (by kernel_rfl)) ?_
  intro W base args ds gs before hval0 hW _ _
  have hval : ∀ (j : Nat) t v, Tryz.f4.params[j]? = some t → args[j]? = some v → Value.okWide Tryz.prog W .any base t v := hval0
  have hW' := hW
  obtain ⟨p, q, hA0, hV, rfl, hfz, hnd⟩ := hW
  have hA : DataW.TrodAll enc Tryz.prog W 0 (fun _ => true) true Tryz.f4.params.toList args.toList ds p := hA0
  rw [Tryz.params4] at hA hval
  obtain ⟨v0, vs0, d0, ds0, p0, q0, hargs, rfl, rfl, h0, r0⟩ := trodAll_cons hA
  obtain ⟨rfl, rfl, rfl⟩ := trodAll_nil r0
  obtain rfl : args = #[v0] := by cases args; simp_all
  obtain ⟨rfl, rfl⟩ := trodVars_none hV
  have k0 := h0
  obtain ⟨x0, g0⟩ := open_slice1 Tryz.underlying22 rd_uL (hval 0 22 v0 rfl rfl) h0
  clear hA0 hval0 hval
  refine (law_calls ok_laws_FnStripWanted (x0, ()) rfl rfl (W := W) (vals := [v0]) ⟨g0, trivial⟩).mono fun e W' ⟨he, bel⟩ => ?_
  subst he
  exact ⟨_, rfl, _, _, _, [], _, [], hW', trodAll_mk1 (shut_bool Tryz.underlying4 _), (trodAll_cons_mk (Below.trod head_laid (by kernel_rfl) (of_decide_eq_true (by kernel_rfl)) k0 bel (trod_lt_ k0)) trodAll_mk0), rfl, bel.frame _, fun h => by cases h⟩

theorem over_FnStripWanted : Rows.fnStripWantedRow.holds Tryz.pinned (OpenSpec.ofChange Rows.fnStripWantedSpec) :=
  OpenClaim.holds_of_wide 4 Tryz.f4 rfl rfl rfl rfl rfl rfl rfl ⟨rfl, rfl, rfl, rfl, rfl⟩ rfl rfl rfl rfl rfl (by kernel_rfl) Tryz.func4 (joined_of head_laid head_rowed head_stops head_stopk head_heard head_enter (show (Rows.fnStripWantedRow.lifted == Tryz.prog.liftsFinal) = true by rw [head_final]; rfl) (show (Tryz.prog.make == some Rows.fnStripWantedRow.make) = true by rw [head_make]; rfl) (by kernel_rfl))
    (of_decide_eq_true (by kernel_rfl)) (by unfold Func.isWrapper; first | (rw [if_pos (by decide +kernel)]; kernel_rfl) | (rw [if_neg (by decide +kernel)]; exact ⟨rfl, rfl⟩))
    (fun os started H enc _ => lifted_FnStripWanted os started H enc)

theorem proved_FnStripWanted : Rows.FnStripWantedSaid := over_FnStripWanted
#print axioms proved_FnStripWanted

end Go.Proofs.YtccmghepiegcaaaGreat
