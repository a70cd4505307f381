/- The law on all objects joined: the image is that of all. -/
import Derived.Test.YtpgglbnagphgoaaGreatDrawUS
import Derived.Test.YtpgglbnagphgoaaGreatSameOS
import Derived.Test.YtpgglbnagphgoaaGreatJoiAS
import Derived.Test.YtpgglbnagphgoaaGreatLinkS
import Derived.Test.YtpgglbnagphgoaaGreatHeadS
set_option linter.unusedVariables false
set_option linter.unusedSimpArgs false
set_option maxRecDepth 200000
set_option maxHeartbeats 4000000
namespace Go.Proofs.YtpgglbnagphgoaaGreat
open Go Go.RowKit Go.ChangeShapes Go.WideShapes Go.Deep


theorem NE_selfL {α : Type} {x : α} (h : x ≠ x) : False := h rfl
theorem NT_L (h : ¬ True) : False := h trivial
theorem jA_v {l : List Objt} (h : jAB l = false) : jAV l = ⟨[], []⟩ := by
 unfold jAB at h
 unfold jAV
 cases hj : joinA l with
 | none => rfl
 | some y => rw [hj] at h; cases h
theorem LA_1 {l : List Objt} (h : ¬ ((jAV l).syms.length : Int) = 0) (ho : jAB l = false) : False := h (by rw [jA_v ho]; rfl)
theorem LA_2 {l : List Objt} (h : ¬ ((jAV l).sects.length : Int) = 0) (ho : jAB l = false) : False := h (by rw [jA_v ho]; rfl)
theorem jA_link {l : List Objt} {d : Int} (ho : jAB l = true) : link [jAV l] d = link l d := by
 unfold jAB at ho
 unfold jAV
 cases hj : joinA l with
 | none => rw [hj] at ho; cases ho
 | some y => exact joinA_link hj
theorem LA_3 {l : List Objt} {d : Int} (ho : jAB l = true) : (link l d).fst = (link [jAV l] d).fst := by rw [jA_link ho]
theorem LA_4 {l : List Objt} {d : Int} (h : ¬ (link l d).snd = (link [jAV l] d).snd) (ho : jAB l = true) : False := h (by rw [jA_link ho])
def C_laws_FnJoinAll : Con := { ps := [.ro (.list .u)], out := fun x => let c : List (Int) := x.1; vc .bool true, det := true }
abbrev L_laws_FnJoinAll : List (Nat × Con) := [(16, C_spec_DrawJoinAll), (17, C_impl_JoinAll), (18, C_spec_JoinAll), (9, C_laws_sameObject), (10, C_laws_alive), (11, C_impl_Link), (15, C_laws_sameImage)]
def G_laws_FnJoinAll : Cfg := GK L_laws_FnJoinAll
def an_laws_FnJoinAll : PTL C_laws_FnJoinAll.ps → Nat → Option Ann := fun _ _ => none
theorem vc_laws_FnJoinAll (c : List (Int)) : (KP Tryz.f4 G_laws_FnJoinAll C_laws_FnJoinAll an_laws_FnJoinAll (c, ())) = (c.length ≤ 9223372036854775807 →
 (decide (1048576 < LN c) = true →
 true = true ∧ True) ∧ (decide (1048576 < LN c) = false →
 (∀ (a : List Objt), a.length ≤ 5 ∧ objsA a = true →
 (Bool.not (decide (jAV a = jAV a)) = true →
 false = true ∧ True) ∧ (Bool.not (decide (jAV a = jAV a)) = false →
 (decide (jAB a ≠ jAB a) = true →
 false = true ∧ True) ∧ (decide (jAB a ≠ jAB a) = false →
 (Bool.not (jAB a) = true →
 (jAV a).sects.length ≤ 9223372036854775807 →
 (decide (LN (jAV a).sects = 0) = true →
 (jAV a).syms.length ≤ 9223372036854775807 →
 (decide (LN (jAV a).syms = 0) = true →
 true = true ∧ True) ∧ (decide (LN (jAV a).syms = 0) = false →
 false = true ∧ True)) ∧ (decide (LN (jAV a).sects = 0) = false →
 false = true ∧ True)) ∧ (Bool.not (jAB a) = false →
 (decide ((link a 32).snd = (link [jAV a] 32).snd) = true →
 decide ((link a 32).fst = (link [jAV a] 32).fst) = true ∧ True) ∧ (decide ((link a 32).snd = (link [jAV a] 32).snd) = false →
 false = true ∧ True))))))) := by kernel_rfl
theorem ok_laws_FnJoinAll : ConOK Tryz.prog 4 C_laws_FnJoinAll := by
 refine con_q (l := L_laws_FnJoinAll) ⟨⟨ok_spec_DrawJoinAll, det_spec_DrawJoinAll⟩, ⟨⟨ok_impl_JoinAll, det_impl_JoinAll⟩, ⟨⟨ok_spec_JoinAll, det_spec_JoinAll⟩, ⟨⟨ok_laws_sameObject, det_laws_sameObject⟩, ⟨⟨ok_laws_alive, det_laws_alive⟩, ⟨⟨ok_impl_Link, det_impl_Link⟩, ⟨⟨ok_laws_sameImage, det_laws_sameImage⟩, trivial⟩⟩⟩⟩⟩⟩⟩ Tryz.func4 rfl (by decide) (by kernel_rfl) rfl an_laws_FnJoinAll fun x ho hx => ?_
 obtain ⟨c, ⟨⟩⟩ := x
 refine Keeps.of (vc_laws_FnJoinAll c) ?_
 revert c ho hx
 show ∀ (c : List (Int)), _
 intro c ho hx
 dsimp only [C_laws_FnJoinAll, okPTL, okPT, Ok, Ty.cells, SN.cells, OkL, OkC, okI, ci, cb, cs, cl] at ho
 dsimp only [C_laws_FnJoinAll, vc, v1, decB, SR.pre] at hx
 (try delta i64 LN); simp only [DRt, ex_sect2]; (repeat' first | apply And.intro | (intro x hq _; replace hq := List.mem_of_getElem? hq; simp only [List.mem_cons, List.not_mem_nil, or_false] at hq) | intro _); all_goals (try omega)
 all_goals first
  | omega
  | exact NE_selfL (by assumption)
  | exact NT_L (by assumption)
  | (with_reducible first | assumption | exact LA_1 (by assumption) (by assumption) | exact LA_2 (by assumption) (by assumption) | exact LA_3 (by assumption) | exact LA_4 (by assumption) (by assumption))
  | skip

theorem rd_u : Reads Tryz.prog 5 [.u] := reads_u8 Tryz.underlying5
theorem rd_uL : Reads Tryz.prog 22 [(.list .u)] := reads_slice (t' := .u) Tryz.underlying22 (by kernel_rfl) (by decide) rd_u
set_option maxRecDepth 100000 in
theorem lifted_FnJoinAll (os : Os) (started : os.Started) (H : Type) (enc : TypeId × Value → H) :
  ReturnsInHanded {} Tryz.checked os 4 .any (Rows.fnJoinAllSpec.pre6 enc Tryz.prog Tryz.f4 Rows.fnJoinAllRow.domain false) (Rows.fnJoinAllSpec.post enc Tryz.prog Tryz.f4 false true false false) := by
 refine returnsInHanded_of_change (C := Tryz.checked) head_own started (by kernel_rfl) Tryz.func4
  (ChangeSpec.witness6 (enc := enc) (C := Tryz.checked) false ⟨#[], #[.slice none 0 0], []⟩ 8 (by kernel_rfl) (by kernel_rfl) (by kernel_rfl) (by kernel_rfl)) ?_
 intro W base args ds gs before hval0 hW _ _
 have hval : ∀ (j : Nat) t v, Tryz.f4.params[j]? = some t → args[j]? = some v → Value.okWide Tryz.prog W .any base t v := hval0
 have hW' := hW
 obtain ⟨p, q, hA0, hV, rfl, hfz, hnd⟩ := hW
 have hA : DataW.TrodAll enc Tryz.prog W 0 (fun _ => true) true Tryz.f4.params.toList args.toList ds p := hA0
 rw [Tryz.params4] at hA hval
 obtain ⟨v0, vs0, d0, ds0, p0, q0, hargs, rfl, rfl, h0, r0⟩ := trodAll_cons hA
 obtain ⟨rfl, rfl, rfl⟩ := trodAll_nil r0
 obtain rfl : args = #[v0] := by cases args; simp_all
 obtain ⟨rfl, rfl⟩ := trodVars_none hV
 have k0 := h0
 obtain ⟨x0, g0⟩ := open_slice1 Tryz.underlying22 rd_uL (hval 0 22 v0 rfl rfl) h0
 clear hA0 hval0 hval
 refine (law_calls ok_laws_FnJoinAll (x0, ()) rfl rfl (W := W) (vals := [v0]) ⟨g0, trivial⟩).mono fun e W' ⟨he, bel⟩ => ?_
 subst he
 exact ⟨_, rfl, _, _, _, [], _, [], hW', trodAll_mk1 (shut_bool Tryz.underlying4 _), (trodAll_cons_mk (Below.trod head_laid (by kernel_rfl) (of_decide_eq_true (by kernel_rfl)) k0 bel (trod_lt_ k0)) trodAll_mk0), rfl, bel.frame _, fun h => by cases h⟩

theorem over_FnJoinAll : Rows.fnJoinAllRow.holds Tryz.pinned (OpenSpec.ofChange Rows.fnJoinAllSpec) :=
 OpenClaim.holds_of_wide 4 Tryz.f4 rfl rfl rfl rfl rfl rfl rfl ⟨rfl, rfl, rfl, rfl, rfl⟩ rfl rfl rfl rfl rfl (by kernel_rfl) Tryz.func4 (joined_of head_laid head_rowed head_stops head_stopk head_heard head_enter (show (Rows.fnJoinAllRow.lifted == Tryz.prog.liftsFinal) = true by rw [head_final]; rfl) (show (Tryz.prog.make == some Rows.fnJoinAllRow.make) = true by rw [head_make]; rfl) (by kernel_rfl))
  (of_decide_eq_true (by kernel_rfl)) (by unfold Func.isWrapper; first | (rw [if_pos (by decide +kernel)]; kernel_rfl) | (rw [if_neg (by decide +kernel)]; exact ⟨rfl, rfl⟩))
  (fun os started H enc _ => lifted_FnJoinAll os started H enc)

theorem proved_FnJoinAll : Rows.FnJoinAllSaid := over_FnJoinAll
#print axioms proved_FnJoinAll

end Go.Proofs.YtpgglbnagphgoaaGreat
