/- The law on kept sections: their image is not longer. -/
import Derived.Test.YtpgglbnagphgoaaDrawKK
import Derived.Test.YtpgglbnagphgoaaSameK
import Derived.Test.YtpgglbnagphgoaaKeeK
import Derived.Test.YtpgglbnagphgoaaLinkK
import Derived.Test.YtpgglbnagphgoaaHeadK
set_option linter.unusedVariables false
set_option linter.unusedSimpArgs false
set_option maxRecDepth 200000
set_option maxHeartbeats 4000000
namespace Go.Proofs.Ytpgglbnagphgoaa
open Go Go.RowKit Go.ChangeShapes Go.WideShapes Go.Deep


theorem NE_selfL {α : Type} {x : α} (h : x ≠ x) : False := h rfl
theorem NT_L (h : ¬ True) : False := h trivial
theorem KL_1 {o : Objt} {l : List Int} {b : Int} (hk : keeOk o l = true) (h1 : ¬ (link [o] b).snd ≠ 0) (h2 : ¬ (link [keeV o l] b).snd ≠ 0) : ((link [keeV o l] b).fst.bytes.length : Int) ≤ (link [o] b).fst.bytes.length := by
 have := kee_link (Classical.not_not.1 h1) (Classical.not_not.1 h2) hk
 omega
def C_laws_FnKeepLink : Con := { ps := [.ro (.list .u)], out := fun x => let c : List (Int) := x.1; vc .bool true, det := true }
abbrev L_laws_FnKeepLink : List (Nat × Con) := [(12, C_spec_DrawReachSections), (13, C_impl_ReachSections), (15, C_spec_ReachSections), (14, C_laws_sameInts), (16, C_impl_KeepSections), (11, C_laws_alive), (17, C_impl_Link)]
def G_laws_FnKeepLink : Cfg := GK L_laws_FnKeepLink
def an_laws_FnKeepLink : PTL C_laws_FnKeepLink.ps → Nat → Option Ann := fun _ _ => none
theorem vc_laws_FnKeepLink (c : List (Int)) : (KP Try.f4 G_laws_FnKeepLink C_laws_FnKeepLink an_laws_FnKeepLink (c, ())) = (c.length ≤ 9223372036854775807 →
 (decide (1048576 < LN c) = true →
 true = true ∧ True) ∧ (decide (1048576 < LN c) = false →
 (∀ (a : Objt), (∀ (b : List ByteArray), objSm a = true ∧ b.length ≤ 7 →
 (Bool.not (decide (rch a b = rch a b)) = true →
 false = true ∧ True) ∧ (Bool.not (decide (rch a b = rch a b)) = false →
 (Bool.not (keeOk a (rch a b)) = true →
 true = true ∧ True) ∧ (Bool.not (keeOk a (rch a b)) = false →
 (decide ((link [a] 0).snd ≠ 0) = true →
 true = true ∧ True) ∧ (decide ((link [a] 0).snd ≠ 0) = false →
 (decide ((link [keeV a (rch a b)] 0).snd ≠ 0) = true →
 true = true ∧ True) ∧ (decide ((link [keeV a (rch a b)] 0).snd ≠ 0) = false →
 (link [keeV a (rch a b)] 0).fst.bytes.length ≤ 9223372036854775807 →
 (link [a] 0).fst.bytes.length ≤ 9223372036854775807 →
 decide (LN (link [keeV a (rch a b)] 0).fst.bytes ≤ LN (link [a] 0).fst.bytes) = true ∧ True)))))))) := by kernel_rfl
theorem ok_laws_FnKeepLink : ConOK Try.prog 4 C_laws_FnKeepLink := by
 refine con_q (l := L_laws_FnKeepLink) ⟨⟨ok_spec_DrawReachSections, det_spec_DrawReachSections⟩, ⟨⟨ok_impl_ReachSections, det_impl_ReachSections⟩, ⟨⟨ok_spec_ReachSections, det_spec_ReachSections⟩, ⟨⟨ok_laws_sameInts, det_laws_sameInts⟩, ⟨⟨ok_impl_KeepSections, det_impl_KeepSections⟩, ⟨⟨ok_laws_alive, det_laws_alive⟩, ⟨⟨ok_impl_Link, det_impl_Link⟩, trivial⟩⟩⟩⟩⟩⟩⟩ Try.func4 rfl (by decide) (by kernel_rfl) rfl an_laws_FnKeepLink fun x ho hx => ?_
 obtain ⟨c, ⟨⟩⟩ := x
 refine Keeps.of (vc_laws_FnKeepLink c) ?_
 revert c ho hx
 show ∀ (c : List (Int)), _
 intro c ho hx
 dsimp only [C_laws_FnKeepLink, okPTL, okPT, Ok, Ty.cells, SN.cells, OkL, OkC, okI, ci, cb, cs, cl] at ho
 dsimp only [C_laws_FnKeepLink, vc, v1, decB, SR.pre] at hx
 (try delta i64 LN); simp only [DRt, ex_sect2]; (repeat' first | apply And.intro | (intro x hq _; replace hq := List.mem_of_getElem? hq; simp only [List.mem_cons, List.not_mem_nil, or_false] at hq) | intro _); all_goals (try omega)
 all_goals first
  | omega
  | (have := objSm_sz (by assumption); omega)
  | exact NE_selfL (by assumption)
  | exact NT_L (by assumption)
  | exact KL_1 (by assumption) (by assumption) (by assumption)
  | skip

theorem rd_u : Reads Try.prog 5 [.u] := reads_u8 Try.underlying5
theorem rd_uL : Reads Try.prog 22 [(.list .u)] := reads_slice (t' := .u) Try.underlying22 (by kernel_rfl) (by decide) rd_u
set_option maxRecDepth 100000 in
theorem lifted_FnKeepLink (os : Os) (started : os.Started) (H : Type) (enc : TypeId × Value → H) :
  ReturnsInHanded {} Try.checked os 4 .any (Rows.fnKeepLinkSpec.pre6 enc Try.prog Try.f4 Rows.fnKeepLinkRow.domain false) (Rows.fnKeepLinkSpec.post enc Try.prog Try.f4 false true false false) := by
 refine returnsInHanded_of_change (C := Try.checked) head_own started (by kernel_rfl) Try.func4
  (ChangeSpec.witness6 (enc := enc) (C := Try.checked) false ⟨#[], #[.slice none 0 0], []⟩ 8 (by kernel_rfl) (by kernel_rfl) (by kernel_rfl) (by kernel_rfl)) ?_
 intro W base args ds gs before hval0 hW _ _
 have hval : ∀ (j : Nat) t v, Try.f4.params[j]? = some t → args[j]? = some v → Value.okWide Try.prog W .any base t v := hval0
 have hW' := hW
 obtain ⟨p, q, hA0, hV, rfl, hfz, hnd⟩ := hW
 have hA : DataW.TrodAll enc Try.prog W 0 (fun _ => true) true Try.f4.params.toList args.toList ds p := hA0
 rw [Try.params4] at hA hval
 obtain ⟨v0, vs0, d0, ds0, p0, q0, hargs, rfl, rfl, h0, r0⟩ := trodAll_cons hA
 obtain ⟨rfl, rfl, rfl⟩ := trodAll_nil r0
 obtain rfl : args = #[v0] := by cases args; simp_all
 obtain ⟨rfl, rfl⟩ := trodVars_none hV
 have k0 := h0
 obtain ⟨x0, g0⟩ := open_slice1 Try.underlying22 rd_uL (hval 0 22 v0 rfl rfl) h0
 clear hA0 hval0 hval
 refine (law_calls ok_laws_FnKeepLink (x0, ()) rfl rfl (W := W) (vals := [v0]) ⟨g0, trivial⟩).mono fun e W' ⟨he, bel⟩ => ?_
 subst he
 exact ⟨_, rfl, _, _, _, [], _, [], hW', trodAll_mk1 (shut_bool Try.underlying4 _), (trodAll_cons_mk (Below.trod head_laid (by kernel_rfl) (of_decide_eq_true (by kernel_rfl)) k0 bel (trod_lt_ k0)) trodAll_mk0), rfl, bel.frame _, fun h => by cases h⟩

theorem over_FnKeepLink : Rows.fnKeepLinkRow.holds Try.pinned (OpenSpec.ofChange Rows.fnKeepLinkSpec) :=
 OpenClaim.holds_of_wide 4 Try.f4 rfl rfl rfl rfl rfl rfl rfl ⟨rfl, rfl, rfl, rfl, rfl⟩ rfl rfl rfl rfl rfl (by kernel_rfl) Try.func4 (joined_of head_laid head_rowed head_stops head_stopk head_heard head_enter (show (Rows.fnKeepLinkRow.lifted == Try.prog.liftsFinal) = true by rw [head_final]; rfl) (show (Try.prog.make == some Rows.fnKeepLinkRow.make) = true by rw [head_make]; rfl) (by kernel_rfl))
  (of_decide_eq_true (by kernel_rfl)) (by unfold Func.isWrapper; first | (rw [if_pos (by decide +kernel)]; kernel_rfl) | (rw [if_neg (by decide +kernel)]; exact ⟨rfl, rfl⟩))
  (fun os started H enc _ => lifted_FnKeepLink os started H enc)

theorem proved_FnKeepLink : Rows.FnKeepLinkSaid := over_FnKeepLink
#print axioms proved_FnKeepLink

end Go.Proofs.Ytpgglbnagphgoaa
