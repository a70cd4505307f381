/- The law that an object without anything changes no image. -/
import Derived.Test.YtfdngmkmeeaeeaaGreatLnkMa
import Derived.Test.YtfdngmkmeeaeeaaGreatDrawLa
import Derived.Test.YtfdngmkmeeaeeaaGreatSamea
import Derived.Test.YtfdngmkmeeaeeaaGreatLinka
import Derived.Test.YtfdngmkmeeaeeaaGreatHeada
set_option linter.unusedVariables false
set_option linter.unusedSimpArgs false
set_option maxRecDepth 200000
set_option maxHeartbeats 4000000
namespace Go.Proofs.YtfdngmkmeeaeeaaGreat
open Go Go.RowKit Go.ChangeShapes Go.WideShapes Go.Deep


theorem NE_selfL {α : Type} {x : α} (h : x ≠ x) : False := h rfl
theorem NT_L (h : ¬ True) : False := h trivial
theorem LM_1 {l : List Objt} {b : Int} (h : objsB l = true) (h4 : ¬ (l.length : Int) = 4) : (link l b).fst = (link (l ++ [⟨[], []⟩]) b).fst := by rw [link_more h h4]
theorem LM_2 {l : List Objt} {b : Int} (hn : ¬ (link l b).snd = (link (l ++ [⟨[], []⟩]) b).snd) (h : objsB l = true) (h4 : ¬ (l.length : Int) = 4) : False := hn (by rw [link_more h h4])
def C_laws_FnLinkMore : Con := { ps := [.ro (.list .u)], out := fun x => let c : List (Int) := x.1; vc .bool true, det := true }
abbrev L_laws_FnLinkMore : List (Nat × Con) := [(43, C_spec_DrawLink), (15, C_impl_Link), (13, C_spec_Link), (39, C_laws_sameImage), (44, C_impl_ObjectsValid), (37, C_laws_alive)]
def G_laws_FnLinkMore : Cfg := GK L_laws_FnLinkMore
def an_laws_FnLinkMore : PTL C_laws_FnLinkMore.ps → Nat → Option Ann := fun _ _ => none
theorem vc_laws_FnLinkMore (c : List (Int)) : (KP Tryz.f8 G_laws_FnLinkMore C_laws_FnLinkMore an_laws_FnLinkMore (c, ())) = (c.length ≤ 9223372036854775807 →
 (decide (1048576 < LN c) = true →
 true = true ∧ True) ∧ (decide (1048576 < LN c) = false →
 (∀ (a : List Objt), (∀ (b : Int), a.length ≤ 5 ∧ objsA a = true ∧ (- (8 : Int)) ≤ b ∧ b ≤ 4104 →
 LN a + @sumI Objt szOb a ≤ 1048576 ∧ (Bool.not (decide ((link a b).fst = (link a b).fst)) = true →
 false = true ∧ True) ∧ (Bool.not (decide ((link a b).fst = (link a b).fst)) = false →
 (decide ((link a b).snd ≠ (link a b).snd) = true →
 false = true ∧ True) ∧ (decide ((link a b).snd ≠ (link a b).snd) = false →
 (Bool.not (objsB a) = true →
 true = true ∧ True) ∧ (Bool.not (objsB a) = false →
 a.length ≤ 9223372036854775807 →
 (decide (LN a = 4) = true →
 true = true ∧ True) ∧ (decide (LN a = 4) = false →
 ((0 + a.length) * 48 ≤ 140737488355328 ∧ 0 + a.length ≤ 1000000000000) ∧ ((a.length + 1) * 48 ≤ 140737488355328 ∧ a.length + 1 ≤ 1000000000000) ∧ (decide ((link a b).snd = (link (a ++ [Objt.mk ([] : List Sect) ([] : List Sym)]) b).snd) = true →
 decide ((link a b).fst = (link (a ++ [Objt.mk ([] : List Sect) ([] : List Sym)]) b).fst) = true ∧ True) ∧ (decide ((link a b).snd = (link (a ++ [Objt.mk ([] : List Sect) ([] : List Sym)]) b).snd) = false →
 false = true ∧ True))))))))) := by kernel_rfl
theorem ok_laws_FnLinkMore : ConOK Tryz.prog 8 C_laws_FnLinkMore := by
 refine con_q (l := L_laws_FnLinkMore) ⟨⟨ok_spec_DrawLink, det_spec_DrawLink⟩, ⟨⟨ok_impl_Link, det_impl_Link⟩, ⟨⟨ok_spec_Link, det_spec_Link⟩, ⟨⟨ok_laws_sameImage, det_laws_sameImage⟩, ⟨⟨ok_impl_ObjectsValid, det_impl_ObjectsValid⟩, ⟨⟨ok_laws_alive, det_laws_alive⟩, trivial⟩⟩⟩⟩⟩⟩ Tryz.func8 rfl (by decide) (by kernel_rfl) rfl an_laws_FnLinkMore fun x ho hx => ?_
 obtain ⟨c, ⟨⟩⟩ := x
 refine Keeps.of (vc_laws_FnLinkMore c) ?_
 revert c ho hx
 show ∀ (c : List (Int)), _
 intro c ho hx
 dsimp only [C_laws_FnLinkMore, okPTL, okPT, Ok, Ty.cells, SN.cells, OkL, OkC, okI, ci, cb, cs, cl] at ho
 dsimp only [C_laws_FnLinkMore, vc, v1, decB, SR.pre] at hx
 (try delta i64 LN); simp only [DRt, ex_sect2]; (repeat' first | apply And.intro | (intro x hq _; replace hq := List.mem_of_getElem? hq; simp only [List.mem_cons, List.not_mem_nil, or_false] at hq) | intro _); all_goals (try omega)
 all_goals first
  | omega
  | (have := objsA_sz (by assumption) (by omega); omega)
  | exact NE_selfL (by assumption)
  | exact NT_L (by assumption)
  | exact LM_1 (by assumption) (by assumption)
  | exact LM_2 (by assumption) (by assumption) (by assumption)
  | skip

theorem rd_u : Reads Tryz.prog 5 [.u] := reads_u8 Tryz.underlying5
theorem rd_uL : Reads Tryz.prog 24 [(.list .u)] := reads_slice (t' := .u) Tryz.underlying24 (by kernel_rfl) (by decide) rd_u
set_option maxRecDepth 100000 in
theorem lifted_FnLinkMore (os : Os) (started : os.Started) (H : Type) (enc : TypeId × Value → H) :
  ReturnsInHanded {} Tryz.checked os 8 .any (Rows.fnLinkMoreSpec.pre6 enc Tryz.prog Tryz.f8 Rows.fnLinkMoreRow.domain false) (Rows.fnLinkMoreSpec.post enc Tryz.prog Tryz.f8 false true false false) := by
 refine returnsInHanded_of_change (C := Tryz.checked) head_own started (by kernel_rfl) Tryz.func8
  (ChangeSpec.witness6 (enc := enc) (C := Tryz.checked) false ⟨#[], #[.slice none 0 0], []⟩ 8 (by kernel_rfl) (by kernel_rfl) (by kernel_rfl) (by kernel_rfl)) ?_
 intro W base args ds gs before hval0 hW _ _
 have hval : ∀ (j : Nat) t v, Tryz.f8.params[j]? = some t → args[j]? = some v → Value.okWide Tryz.prog W .any base t v := hval0
 have hW' := hW
 obtain ⟨p, q, hA0, hV, rfl, hfz, hnd⟩ := hW
 have hA : DataW.TrodAll enc Tryz.prog W 0 (fun _ => true) true Tryz.f8.params.toList args.toList ds p := hA0
 rw [Tryz.params8] at hA hval
 obtain ⟨v0, vs0, d0, ds0, p0, q0, hargs, rfl, rfl, h0, r0⟩ := trodAll_cons hA
 obtain ⟨rfl, rfl, rfl⟩ := trodAll_nil r0
 obtain rfl : args = #[v0] := by cases args; simp_all
 obtain ⟨rfl, rfl⟩ := trodVars_none hV
 have k0 := h0
 obtain ⟨x0, g0⟩ := open_slice1 Tryz.underlying24 rd_uL (hval 0 24 v0 rfl rfl) h0
 clear hA0 hval0 hval
 refine (law_calls ok_laws_FnLinkMore (x0, ()) rfl rfl (W := W) (vals := [v0]) ⟨g0, trivial⟩).mono fun e W' ⟨he, bel⟩ => ?_
 subst he
 exact ⟨_, rfl, _, _, _, [], _, [], hW', trodAll_mk1 (shut_bool Tryz.underlying4 _), (trodAll_cons_mk (Below.trod head_laid (by kernel_rfl) (of_decide_eq_true (by kernel_rfl)) k0 bel (trod_lt_ k0)) trodAll_mk0), rfl, bel.frame _, fun h => by cases h⟩

theorem over_FnLinkMore : Rows.fnLinkMoreRow.holds Tryz.pinned (OpenSpec.ofChange Rows.fnLinkMoreSpec) :=
 OpenClaim.holds_of_wide 8 Tryz.f8 rfl rfl rfl rfl rfl rfl rfl ⟨rfl, rfl, rfl, rfl, rfl⟩ rfl rfl rfl rfl rfl (by kernel_rfl) Tryz.func8 (joined_of head_laid head_rowed head_stops head_stopk head_heard head_enter (show (Rows.fnLinkMoreRow.lifted == Tryz.prog.liftsFinal) = true by rw [head_final]; rfl) (show (Tryz.prog.make == some Rows.fnLinkMoreRow.make) = true by rw [head_make]; rfl) (by kernel_rfl))
  (of_decide_eq_true (by kernel_rfl)) (by unfold Func.isWrapper; first | (rw [if_pos (by decide +kernel)]; kernel_rfl) | (rw [if_neg (by decide +kernel)]; exact ⟨rfl, rfl⟩))
  (fun os started H enc _ => lifted_FnLinkMore os started H enc)

theorem proved_FnLinkMore : Rows.FnLinkMoreSaid := over_FnLinkMore
#print axioms proved_FnLinkMore

end Go.Proofs.YtfdngmkmeeaeeaaGreat
