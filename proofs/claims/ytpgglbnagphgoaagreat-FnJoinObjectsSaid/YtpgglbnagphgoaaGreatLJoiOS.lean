/- The law on joined objects: they are linked as both are. -/
import Derived.Test.YtpgglbnagphgoaaGreatDrawUS
import Derived.Test.YtpgglbnagphgoaaGreatSameOS
import Derived.Test.YtpgglbnagphgoaaGreatJoinS
import Derived.Test.YtpgglbnagphgoaaGreatLinkS
import Derived.Test.YtpgglbnagphgoaaGreatHeadS
set_option linter.unusedVariables false
set_option linter.unusedSimpArgs false
set_option maxRecDepth 200000
set_option maxHeartbeats 4000000
namespace Go.Proofs.YtpgglbnagphgoaaGreat
open Go Go.RowKit Go.ChangeShapes Go.WideShapes Go.Deep


theorem NE_selfL {α : Type} {x : α} (h : x ≠ x) : False := h rfl
theorem NT_L (h : ¬ True) : False := h trivial
theorem LO_1 {a b : Objt} (h : ¬ ((joinV a b).syms.length : Int) = 0) (ho : joinOk a b = false) : False := h (by rw [joinV_no ho]; rfl)
theorem LO_2 {a b : Objt} (h : ¬ ((joinV a b).sects.length : Int) = 0) (ho : joinOk a b = false) : False := h (by rw [joinV_no ho]; rfl)
theorem jok_b {a b : Objt} (h : joinOk a b = true) : objsB [a, b] = true := by
 have := joinOk_iff.1 h
 simp [objsB, this.va, this.vb]
theorem LO_4 {a b : Objt} {m : Nat} {n : ByteArray} (h : (fndV [a, b] n).isSome = false) (hn : (namesG (joinV a b))[m]? = some n) (ho : joinOk a b = true) : False := by
 rw [joinV_yes ho] at hn
 have := jn_given ho (List.mem_of_getElem? hn)
 rw [fndV, if_pos (jok_b ho), this] at h
 cases h
theorem LO_6 {a b : Objt} (ho : joinOk a b = true) : (a.sects.length : Int) + b.sects.length ≤ 9223372036854775807 := by
 have h := joinOk_iff.1 ho
 have h1 := objB_lens h.va
 have h2 := objB_lens h.vb
 omega
theorem LO_7 {a b : Objt} (ho : joinOk a b = true) : ((joinV a b).sects.length : Int) = (a.sects.length : Int) + b.sects.length := by
 rw [joinV_yes ho]
 simp [jnO]
theorem jn_link2 {a b : Objt} {d : Int} (ho : joinOk a b = true) : link [joinV a b] d = link [a, b] d := by
 rw [joinV_yes ho]; exact jn_link ho (jok_b ho)
theorem LO_8 {a b : Objt} {d : Int} (h : ¬ (link [a, b] d).fst = (link [joinV a b] d).fst) (ho : joinOk a b = true) : False := h (by rw [jn_link2 ho])
theorem LO_9 {a b : Objt} {d : Int} (h : ¬ (link [a, b] d).snd = (link [joinV a b] d).snd) (ho : joinOk a b = true) : False := h (by rw [jn_link2 ho])
theorem LO_10 {a b : Objt} (h : objB (joinV a b) = false) (ho : joinOk a b = true) : False := by
 rw [joinV_yes ho, (joinOk_iff.1 ho).x] at h; cases h
theorem LO_12 {o : Objt} : (namesG o).length ≤ 12 := namesG_12 o
def C_laws_FnJoinObjects : Con := { ps := [.ro (.list .u)], out := fun x => let c : List (Int) := x.1; vc .bool true, det := true }
abbrev L_laws_FnJoinObjects : List (Nat × Con) := [(6, C_spec_DrawJoinObjects), (7, C_impl_JoinObjects), (8, C_spec_JoinObjects), (9, C_laws_sameObject), (10, C_laws_alive), (11, C_impl_Link), (12, C_impl_NamesGiven), (13, C_impl_FindName), (14, C_impl_ObjectValid), (15, C_laws_sameImage)]
def G_laws_FnJoinObjects : Cfg := GK L_laws_FnJoinObjects
def an_laws_FnJoinObjects : PTL C_laws_FnJoinObjects.ps → Nat → Option Ann := fun x kk_ => let c : List (Int) := x.1; if kk_ = 1010 then some (.all (Objt) fun a => .all (Objt) fun b => .giv (objSm a = true ∧ objSm b = true ∧ joinOk a b = true) (.mk [(3, aref 30), (4, aref 31), (5, aref 32)] [(30, bx (ast .obj a)), (31, bx (ast .obj b)), (32, bx (ast .obj (joinV a b)))] (0))) else if kk_ = 14 then some (.all (Objt) fun a => .all (Objt) fun b => .all (Int) fun k => .giv (objSm a = true ∧ objSm b = true ∧ joinOk a b = true ∧ 0 ≤ k ∧ k ≤ (namesG (joinV a b)).length ∧ (namesG (joinV a b)).length ≤ 12) (.mk [(3, aref 30), (4, aref 31), (5, aref 32), (9, aref 33), (10, ai (link [a, b] 32).2), (11, aref 34), (12, ai (link [joinV a b] 32).2), (13, al .str (namesG (joinV a b))), (14, ai k)] [(30, bx (ast .obj a)), (31, bx (ast .obj b)), (32, bx (ast .obj (joinV a b))), (33, bx (ast .img (link [a, b] 32).1)), (34, bx (ast .img (link [joinV a b] 32).1))] (((namesG (joinV a b)).length - k.toNat)))) else none
theorem vc_laws_FnJoinObjects (c : List (Int)) : (KP Tryz.f3 G_laws_FnJoinObjects C_laws_FnJoinObjects an_laws_FnJoinObjects (c, ())) = (c.length ≤ 9223372036854775807 →
 (decide (1048576 < LN c) = true →
 true = true ∧ True) ∧ (decide (1048576 < LN c) = false →
 (∀ (a : Objt), (∀ (b : Objt), objSm a = true ∧ objSm b = true →
 (Bool.not (decide (joinV a b = joinV a b)) = true →
 false = true ∧ True) ∧ (Bool.not (decide (joinV a b = joinV a b)) = false →
 (decide (joinOk a b ≠ joinOk a b) = true →
 false = true ∧ True) ∧ (decide (joinOk a b ≠ joinOk a b) = false →
 (Bool.not (joinOk a b) = true →
 (joinV a b).sects.length ≤ 9223372036854775807 →
 (decide (LN (joinV a b).sects = 0) = true →
 (joinV a b).syms.length ≤ 9223372036854775807 →
 (decide (LN (joinV a b).syms = 0) = true →
 true = true ∧ True) ∧ (decide (LN (joinV a b).syms = 0) = false →
 false = true ∧ True)) ∧ (decide (LN (joinV a b).sects = 0) = false →
 false = true ∧ True)) ∧ (Bool.not (joinOk a b) = false →
 (∃ (d : Objt), (∃ (e : Objt), a.sects = d.sects ∧ a.syms = d.syms ∧ b.sects = e.sects ∧ b.syms = e.syms ∧ (joinV a b).sects = (joinV d e).sects ∧ (joinV a b).syms = (joinV d e).syms ∧ (objSm d = true ∧ objSm e = true ∧ joinOk d e = true) ∧ (∀ (f : Objt), (∀ (g : Objt), objSm f = true ∧ objSm g = true ∧ joinOk f g = true →
 (0 : Nat) = (0 : Nat) →
 (∃ (h : Objt), (∃ (i : Objt), (∃ (j : Int), (link [f, g] 32).snd = (link [h, i] 32).snd ∧ (link [joinV f g] 32).snd = (link [joinV h i] 32).snd ∧ namesG (joinV f g) = namesG (joinV h i) ∧ 0 = j ∧ f.sects = h.sects ∧ f.syms = h.syms ∧ g.sects = i.sects ∧ g.syms = i.syms ∧ (joinV f g).sects = (joinV h i).sects ∧ (joinV f g).syms = (joinV h i).syms ∧ (link [f, g] 32).fst.base = (link [h, i] 32).fst.base ∧ (link [f, g] 32).fst.bytes = (link [h, i] 32).fst.bytes ∧ (link [joinV f g] 32).fst.base = (link [joinV h i] 32).fst.base ∧ (link [joinV f g] 32).fst.bytes = (link [joinV h i] 32).fst.bytes ∧ (objSm h = true ∧ objSm i = true ∧ joinOk h i = true ∧ 0 ≤ j ∧ j ≤ LN (namesG (joinV h i)) ∧ (namesG (joinV h i)).length ≤ 12) ∧ True))) ∧ (∀ (k : Objt), (∀ (l : Objt), (∀ (m : Int), objSm k = true ∧ objSm l = true ∧ joinOk k l = true ∧ 0 ≤ m ∧ m ≤ LN (namesG (joinV k l)) ∧ (namesG (joinV k l)).length ≤ 12 →
 (namesG (joinV k l)).length ≤ 9223372036854775807 →
 (decide (m < LN (namesG (joinV k l))) = true →
 (0 ≤ m ∧ m < LN (namesG (joinV k l))) ∧ (∀ (n : ByteArray), (namesG (joinV k l))[m.toNat]? = some n →
 Ok Ty.str n →
 (Bool.not (@Option.isSome Given (fndV [k, l] n)) = true →
 false = true ∧ True) ∧ (Bool.not (@Option.isSome Given (fndV [k, l] n)) = false →
 i64 (m + 1) ∧ (∃ (o : Objt), (∃ (p : Objt), (∃ (q : Int), (link [k, l] 32).snd = (link [o, p] 32).snd ∧ (link [joinV k l] 32).snd = (link [joinV o p] 32).snd ∧ namesG (joinV k l) = namesG (joinV o p) ∧ m + 1 = q ∧ k.sects = o.sects ∧ k.syms = o.syms ∧ l.sects = p.sects ∧ l.syms = p.syms ∧ (joinV k l).sects = (joinV o p).sects ∧ (joinV k l).syms = (joinV o p).syms ∧ (link [k, l] 32).fst.base = (link [o, p] 32).fst.base ∧ (link [k, l] 32).fst.bytes = (link [o, p] 32).fst.bytes ∧ (link [joinV k l] 32).fst.base = (link [joinV o p] 32).fst.base ∧ (link [joinV k l] 32).fst.bytes = (link [joinV o p] 32).fst.bytes ∧ (objSm o = true ∧ objSm p = true ∧ joinOk o p = true ∧ 0 ≤ q ∧ q ≤ LN (namesG (joinV o p)) ∧ (namesG (joinV o p)).length ≤ 12) ∧ (namesG (joinV o p)).length - q.toNat < (namesG (joinV k l)).length - m.toNat)))))) ∧ (decide (m < LN (namesG (joinV k l))) = false →
 (objB (joinV k l) = true →
 (decide ((link [k, l] 32).snd = (link [joinV k l] 32).snd) = true →
 (decide ((link [k, l] 32).fst = (link [joinV k l] 32).fst) = true →
 (joinV k l).sects.length ≤ 9223372036854775807 →
 k.sects.length ≤ 9223372036854775807 →
 l.sects.length ≤ 9223372036854775807 →
 i64 (LN k.sects + LN l.sects) ∧ decide (LN (joinV k l).sects = LN k.sects + LN l.sects) = true ∧ True) ∧ (decide ((link [k, l] 32).fst = (link [joinV k l] 32).fst) = false →
 false = true ∧ True)) ∧ (decide ((link [k, l] 32).snd = (link [joinV k l] 32).snd) = false →
 false = true ∧ True)) ∧ (objB (joinV k l) = false →
 false = true ∧ True)))))))))))))))) := by kernel_rfl
theorem ok_laws_FnJoinObjects : ConOK Tryz.prog 3 C_laws_FnJoinObjects := by
 refine con_q (l := L_laws_FnJoinObjects) ⟨⟨ok_spec_DrawJoinObjects, det_spec_DrawJoinObjects⟩, ⟨⟨ok_impl_JoinObjects, det_impl_JoinObjects⟩, ⟨⟨ok_spec_JoinObjects, det_spec_JoinObjects⟩, ⟨⟨ok_laws_sameObject, det_laws_sameObject⟩, ⟨⟨ok_laws_alive, det_laws_alive⟩, ⟨⟨ok_impl_Link, det_impl_Link⟩, ⟨⟨ok_impl_NamesGiven, det_impl_NamesGiven⟩, ⟨⟨ok_impl_FindName, det_impl_FindName⟩, ⟨⟨ok_impl_ObjectValid, det_impl_ObjectValid⟩, ⟨⟨ok_laws_sameImage, det_laws_sameImage⟩, trivial⟩⟩⟩⟩⟩⟩⟩⟩⟩⟩ Tryz.func3 rfl (by decide) (by kernel_rfl) rfl an_laws_FnJoinObjects fun x ho hx => ?_
 obtain ⟨c, ⟨⟩⟩ := x
 refine Keeps.of (vc_laws_FnJoinObjects c) ?_
 revert c ho hx
 show ∀ (c : List (Int)), _
 intro c ho hx
 dsimp only [C_laws_FnJoinObjects, okPTL, okPT, Ok, Ty.cells, SN.cells, OkL, OkC, okI, ci, cb, cs, cl] at ho
 dsimp only [C_laws_FnJoinObjects, vc, v1, decB, SR.pre] at hx
 (try delta i64 LN); simp only [DRt, ex_sect2]; (repeat' first | apply And.intro | (intro x hq _; replace hq := List.mem_of_getElem? hq; simp only [List.mem_cons, List.not_mem_nil, or_false] at hq) | intro _); all_goals (try omega)
 all_goals (try (refine ⟨_, _, rfl, rfl, rfl, rfl, rfl, rfl, rfl, rfl, rfl, rfl, rfl, rfl, rfl, ?_⟩; (repeat' first | intro _ | apply And.intro)))
 all_goals first
  | omega
  | (have := objSm_sz (by assumption); omega)
  | exact NE_selfL (by assumption)
  | exact NT_L (by assumption)
  | (with_reducible first | assumption | exact LO_1 (by assumption) (by assumption) | exact LO_2 (by assumption) (by assumption) | exact LO_4 (by assumption) (by assumption) (by assumption) | exact LO_6 (by assumption) | exact LO_7 (by assumption) | exact LO_8 (by assumption) (by assumption) | exact LO_9 (by assumption) (by assumption) | exact LO_10 (by assumption) (by assumption) | exact LO_12)
  | skip

theorem rd_u : Reads Tryz.prog 5 [.u] := reads_u8 Tryz.underlying5
theorem rd_uL : Reads Tryz.prog 22 [(.list .u)] := reads_slice (t' := .u) Tryz.underlying22 (by kernel_rfl) (by decide) rd_u
set_option maxRecDepth 100000 in
theorem lifted_FnJoinObjects (os : Os) (started : os.Started) (H : Type) (enc : TypeId × Value → H) :
  ReturnsInHanded {} Tryz.checked os 3 .any (Rows.fnJoinObjectsSpec.pre6 enc Tryz.prog Tryz.f3 Rows.fnJoinObjectsRow.domain false) (Rows.fnJoinObjectsSpec.post enc Tryz.prog Tryz.f3 false true false false) := by
 refine returnsInHanded_of_change (C := Tryz.checked) head_own started (by kernel_rfl) Tryz.func3
  (ChangeSpec.witness6 (enc := enc) (C := Tryz.checked) false ⟨#[], #[.slice none 0 0], []⟩ 8 (by kernel_rfl) (by kernel_rfl) (by kernel_rfl) (by kernel_rfl)) ?_
 intro W base args ds gs before hval0 hW _ _
 have hval : ∀ (j : Nat) t v, Tryz.f3.params[j]? = some t → args[j]? = some v → Value.okWide Tryz.prog W .any base t v := hval0
 have hW' := hW
 obtain ⟨p, q, hA0, hV, rfl, hfz, hnd⟩ := hW
 have hA : DataW.TrodAll enc Tryz.prog W 0 (fun _ => true) true Tryz.f3.params.toList args.toList ds p := hA0
 rw [Tryz.params3] at hA hval
 obtain ⟨v0, vs0, d0, ds0, p0, q0, hargs, rfl, rfl, h0, r0⟩ := trodAll_cons hA
 obtain ⟨rfl, rfl, rfl⟩ := trodAll_nil r0
 obtain rfl : args = #[v0] := by cases args; simp_all
 obtain ⟨rfl, rfl⟩ := trodVars_none hV
 have k0 := h0
 obtain ⟨x0, g0⟩ := open_slice1 Tryz.underlying22 rd_uL (hval 0 22 v0 rfl rfl) h0
 clear hA0 hval0 hval
 refine (law_calls ok_laws_FnJoinObjects (x0, ()) rfl rfl (W := W) (vals := [v0]) ⟨g0, trivial⟩).mono fun e W' ⟨he, bel⟩ => ?_
 subst he
 exact ⟨_, rfl, _, _, _, [], _, [], hW', trodAll_mk1 (shut_bool Tryz.underlying4 _), (trodAll_cons_mk (Below.trod head_laid (by kernel_rfl) (of_decide_eq_true (by kernel_rfl)) k0 bel (trod_lt_ k0)) trodAll_mk0), rfl, bel.frame _, fun h => by cases h⟩

theorem over_FnJoinObjects : Rows.fnJoinObjectsRow.holds Tryz.pinned (OpenSpec.ofChange Rows.fnJoinObjectsSpec) :=
 OpenClaim.holds_of_wide 3 Tryz.f3 rfl rfl rfl rfl rfl rfl rfl ⟨rfl, rfl, rfl, rfl, rfl⟩ rfl rfl rfl rfl rfl (by kernel_rfl) Tryz.func3 (joined_of head_laid head_rowed head_stops head_stopk head_heard head_enter (show (Rows.fnJoinObjectsRow.lifted == Tryz.prog.liftsFinal) = true by rw [head_final]; rfl) (show (Tryz.prog.make == some Rows.fnJoinObjectsRow.make) = true by rw [head_make]; rfl) (by kernel_rfl))
  (of_decide_eq_true (by kernel_rfl)) (by unfold Func.isWrapper; first | (rw [if_pos (by decide +kernel)]; kernel_rfl) | (rw [if_neg (by decide +kernel)]; exact ⟨rfl, rfl⟩))
  (fun os started H enc _ => lifted_FnJoinObjects os started H enc)

theorem proved_FnJoinObjects : Rows.FnJoinObjectsSaid := over_FnJoinObjects
#print axioms proved_FnJoinObjects

end Go.Proofs.YtpgglbnagphgoaaGreat
