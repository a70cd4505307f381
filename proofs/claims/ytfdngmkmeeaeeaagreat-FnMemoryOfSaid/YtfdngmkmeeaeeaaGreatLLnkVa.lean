/- The law that memories of objects are valid. -/
import Derived.Test.YtfdngmkmeeaeeaaGreatLnkVa
import Derived.Test.YtfdngmkmeeaeeaaGreatDrawLa
import Derived.Test.YtfdngmkmeeaeeaaGreatSamea
import Derived.Test.YtfdngmkmeeaeeaaGreatMemOa
import Derived.Test.YtfdngmkmeeaeeaaGreatImga
import Derived.Test.YtfdngmkmeeaeeaaGreatHeada
set_option linter.unusedVariables false
set_option linter.unusedSimpArgs false
set_option maxRecDepth 200000
set_option maxHeartbeats 4000000
namespace Go.Proofs.YtfdngmkmeeaeeaaGreat
open Go Go.RowKit Go.ChangeShapes Go.WideShapes Go.Deep


theorem NE_selfL {α : Type} {x : α} (h : x ≠ x) : False := h rfl
theorem NT_L (h : ¬ True) : False := h trivial
theorem MV_1 {l : List Objt} {b : Int} (h : ¬ ((memOV l b).regions.length : Int) = 0) (hn : (link l b).snd ≠ 0) : False := h (by rw [(memOV_no hn).1]; rfl)
theorem MV_2 {l : List Objt} {b : Int} (h : ¬ (link l b).snd ≠ 0) (hn : memOB l b = false) : False := by
 unfold memOB at hn; exact absurd (of_decide_eq_false hn) h
theorem MV_3 {l : List Objt} {b : Int} (h : (link l b).snd = 0) : (memOV l b).what = (link l b).fst := by rw [(memOV_yes h).1]
theorem MV_4 {l : List Objt} {b : Int} (hm : memB (memOV l b) = false) (h : (link l b).snd = 0) : False := by
 rw [(memOV_yes h).1, memO_ok h] at hm; cases hm
theorem MV_5 {l : List Objt} {b : Int} (h : ¬ (link l b).snd = 0) (hm : memOB l b = true) : False := h (of_decide_eq_true hm)
def C_laws_FnMemoryOf : Con := { ps := [.ro (.list .u)], out := fun x => let c : List (Int) := x.1; vc .bool true, det := true }
abbrev L_laws_FnMemoryOf : List (Nat × Con) := [(51, C_spec_DrawMemoryOf), (22, C_impl_MemoryOf), (21, C_spec_MemoryOf), (52, C_laws_sameMemory), (15, C_impl_Link), (37, C_laws_alive), (53, C_impl_MemoryValid), (39, C_laws_sameImage)]
def G_laws_FnMemoryOf : Cfg := GK L_laws_FnMemoryOf
def an_laws_FnMemoryOf : PTL C_laws_FnMemoryOf.ps → Nat → Option Ann := fun _ _ => none
theorem vc_laws_FnMemoryOf (c : List (Int)) : (KP Tryz.f10 G_laws_FnMemoryOf C_laws_FnMemoryOf an_laws_FnMemoryOf (c, ())) = (c.length ≤ 9223372036854775807 →
 (decide (1048576 < LN c) = true →
 true = true ∧ True) ∧ (decide (1048576 < LN c) = false →
 (∀ (a : List Objt), (∀ (b : Int), a.length ≤ 5 ∧ objsA a = true ∧ (- (8 : Int)) ≤ b ∧ b ≤ 4104 →
 LN a + @sumI Objt szOb a ≤ 1048576 ∧ (Bool.not (decide (memOV a b = memOV a b)) = true →
 false = true ∧ True) ∧ (Bool.not (decide (memOV a b = memOV a b)) = false →
 (decide (memOB a b ≠ memOB a b) = true →
 false = true ∧ True) ∧ (decide (memOB a b ≠ memOB a b) = false →
 (Bool.not (memOB a b) = true →
 (decide ((link a b).snd ≠ 0) = true →
 (memOV a b).regions.length ≤ 9223372036854775807 →
 (decide (LN (memOV a b).regions = 0) = true →
 true = true ∧ True) ∧ (decide (LN (memOV a b).regions = 0) = false →
 false = true ∧ True)) ∧ (decide ((link a b).snd ≠ 0) = false →
 false = true ∧ True)) ∧ (Bool.not (memOB a b) = false →
 (decide ((link a b).snd = 0) = true →
 (memB (memOV a b) = true →
 decide ((memOV a b).what = (link a b).fst) = true ∧ True) ∧ (memB (memOV a b) = false →
 false = true ∧ True)) ∧ (decide ((link a b).snd = 0) = false →
 false = true ∧ True)))))))) := by kernel_rfl
theorem ok_laws_FnMemoryOf : ConOK Tryz.prog 10 C_laws_FnMemoryOf := by
 refine con_q (l := L_laws_FnMemoryOf) ⟨⟨ok_spec_DrawMemoryOf, det_spec_DrawMemoryOf⟩, ⟨⟨ok_impl_MemoryOf, det_impl_MemoryOf⟩, ⟨⟨ok_spec_MemoryOf, det_spec_MemoryOf⟩, ⟨⟨ok_laws_sameMemory, det_laws_sameMemory⟩, ⟨⟨ok_impl_Link, det_impl_Link⟩, ⟨⟨ok_laws_alive, det_laws_alive⟩, ⟨⟨ok_impl_MemoryValid, det_impl_MemoryValid⟩, ⟨⟨ok_laws_sameImage, det_laws_sameImage⟩, trivial⟩⟩⟩⟩⟩⟩⟩⟩ Tryz.func10 rfl (by decide) (by kernel_rfl) rfl an_laws_FnMemoryOf fun x ho hx => ?_
 obtain ⟨c, ⟨⟩⟩ := x
 refine Keeps.of (vc_laws_FnMemoryOf c) ?_
 revert c ho hx
 show ∀ (c : List (Int)), _
 intro c ho hx
 dsimp only [C_laws_FnMemoryOf, okPTL, okPT, Ok, Ty.cells, SN.cells, OkL, OkC, okI, ci, cb, cs, cl] at ho
 dsimp only [C_laws_FnMemoryOf, vc, v1, decB, SR.pre] at hx
 (try delta i64 LN); simp only [DRt, ex_sect2]; (repeat' first | apply And.intro | (intro x hq _; replace hq := List.mem_of_getElem? hq; simp only [List.mem_cons, List.not_mem_nil, or_false] at hq) | intro _); all_goals (try omega)
 all_goals first
  | omega
  | (have := objsA_sz (by assumption) (by omega); omega)
  | exact NE_selfL (by assumption)
  | exact NT_L (by assumption)
  | exact MV_1 (by assumption) (by assumption)
  | exact MV_2 (by assumption) (by assumption)
  | exact MV_3 (by assumption)
  | exact MV_4 (by assumption) (by assumption)
  | exact MV_5 (by assumption) (by assumption)
  | skip

theorem rd_u : Reads Tryz.prog 5 [.u] := reads_u8 Tryz.underlying5
theorem rd_uL : Reads Tryz.prog 24 [(.list .u)] := reads_slice (t' := .u) Tryz.underlying24 (by kernel_rfl) (by decide) rd_u
set_option maxRecDepth 100000 in
theorem lifted_FnMemoryOf (os : Os) (started : os.Started) (H : Type) (enc : TypeId × Value → H) :
  ReturnsInHanded {} Tryz.checked os 10 .any (Rows.fnMemoryOfSpec.pre6 enc Tryz.prog Tryz.f10 Rows.fnMemoryOfRow.domain false) (Rows.fnMemoryOfSpec.post enc Tryz.prog Tryz.f10 false true false false) := by
 refine returnsInHanded_of_change (C := Tryz.checked) head_own started (by kernel_rfl) Tryz.func10
  (ChangeSpec.witness6 (enc := enc) (C := Tryz.checked) false ⟨#[], #[.slice none 0 0], []⟩ 8 (by kernel_rfl) (by kernel_rfl) (by kernel_rfl) (by kernel_rfl)) ?_
 intro W base args ds gs before hval0 hW _ _
 have hval : ∀ (j : Nat) t v, Tryz.f10.params[j]? = some t → args[j]? = some v → Value.okWide Tryz.prog W .any base t v := hval0
 have hW' := hW
 obtain ⟨p, q, hA0, hV, rfl, hfz, hnd⟩ := hW
 have hA : DataW.TrodAll enc Tryz.prog W 0 (fun _ => true) true Tryz.f10.params.toList args.toList ds p := hA0
 rw [Tryz.params10] at hA hval
 obtain ⟨v0, vs0, d0, ds0, p0, q0, hargs, rfl, rfl, h0, r0⟩ := trodAll_cons hA
 obtain ⟨rfl, rfl, rfl⟩ := trodAll_nil r0
 obtain rfl : args = #[v0] := by cases args; simp_all
 obtain ⟨rfl, rfl⟩ := trodVars_none hV
 have k0 := h0
 obtain ⟨x0, g0⟩ := open_slice1 Tryz.underlying24 rd_uL (hval 0 24 v0 rfl rfl) h0
 clear hA0 hval0 hval
 refine (law_calls ok_laws_FnMemoryOf (x0, ()) rfl rfl (W := W) (vals := [v0]) ⟨g0, trivial⟩).mono fun e W' ⟨he, bel⟩ => ?_
 subst he
 exact ⟨_, rfl, _, _, _, [], _, [], hW', trodAll_mk1 (shut_bool Tryz.underlying4 _), (trodAll_cons_mk (Below.trod head_laid (by kernel_rfl) (of_decide_eq_true (by kernel_rfl)) k0 bel (trod_lt_ k0)) trodAll_mk0), rfl, bel.frame _, fun h => by cases h⟩

theorem over_FnMemoryOf : Rows.fnMemoryOfRow.holds Tryz.pinned (OpenSpec.ofChange Rows.fnMemoryOfSpec) :=
 OpenClaim.holds_of_wide 10 Tryz.f10 rfl rfl rfl rfl rfl rfl rfl ⟨rfl, rfl, rfl, rfl, rfl⟩ rfl rfl rfl rfl rfl (by kernel_rfl) Tryz.func10 (joined_of head_laid head_rowed head_stops head_stopk head_heard head_enter (show (Rows.fnMemoryOfRow.lifted == Tryz.prog.liftsFinal) = true by rw [head_final]; rfl) (show (Tryz.prog.make == some Rows.fnMemoryOfRow.make) = true by rw [head_make]; rfl) (by kernel_rfl))
  (of_decide_eq_true (by kernel_rfl)) (by unfold Func.isWrapper; first | (rw [if_pos (by decide +kernel)]; kernel_rfl) | (rw [if_neg (by decide +kernel)]; exact ⟨rfl, rfl⟩))
  (fun os started H enc _ => lifted_FnMemoryOf os started H enc)

theorem proved_FnMemoryOf : Rows.FnMemoryOfSaid := over_FnMemoryOf
#print axioms proved_FnMemoryOf

end Go.Proofs.YtfdngmkmeeaeeaaGreat
