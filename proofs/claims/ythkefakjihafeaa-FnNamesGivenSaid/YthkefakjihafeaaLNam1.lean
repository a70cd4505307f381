/- The law on names that are given. -/
import Derived.Test.YthkefakjihafeaaDrawT
import Derived.Test.YthkefakjihafeaaLNamD
import Derived.Test.YthkefakjihafeaaSame
import Derived.Test.YthkefakjihafeaaHead
set_option linter.unusedVariables false
set_option linter.unusedSimpArgs false
set_option maxRecDepth 200000
set_option maxHeartbeats 4000000
namespace Go.Proofs.Ythkefakjihafeaa
open Go Go.RowKit Go.ChangeShapes Go.WideShapes Go.Deep


def C_laws_FnNamesGiven : Con := { ps := [.ro (.list .u)], out := fun x => let c : List (Int) := x.1; vc .bool true, det := true }
abbrev L_laws_FnNamesGiven : List (Nat × Con) := [(10, C_spec_DrawNamesGiven), (11, C_impl_NamesGiven), (13, C_spec_NamesGiven), (12, C_laws_sameTexts), (14, C_impl_FindName), (15, C_laws_alive)]
def G_laws_FnNamesGiven : Cfg := GK L_laws_FnNamesGiven
def an_laws_FnNamesGiven : PTL C_laws_FnNamesGiven.ps → Nat → Option Ann := fun x kk_ => let c : List (Int) := x.1; if kk_ = 8 then some (.all (Objt) fun o => .all (Int) fun k => .giv (0 ≤ k ∧ k ≤ (namesG o).length ∧ (namesG o).length ≤ 12) (.mk [(3, aref 30), (4, al .str (namesG o)), (5, ai k)] [(30, bx (ast .obj o))] (((namesG o).length - k.toNat)))) else none
theorem vc_laws_FnNamesGiven (c : List (Int)) : (KP Try.f3 G_laws_FnNamesGiven C_laws_FnNamesGiven an_laws_FnNamesGiven (c, ())) = (c.length ≤ 9223372036854775807 →
 (decide (1048576 < LN c) = true →
 true = true ∧ True) ∧ (decide (1048576 < LN c) = false →
 (∀ (a : Objt), objSm a = true →
 (Bool.not (decide (namesG a = namesG a)) = true →
 false = true ∧ True) ∧ (Bool.not (decide (namesG a = namesG a)) = false →
 (∃ (b : Objt), (∃ (d : Int), namesG a = namesG b ∧ 0 = d ∧ a.sects = b.sects ∧ a.syms = b.syms ∧ (0 ≤ d ∧ d ≤ LN (namesG b) ∧ (namesG b).length ≤ 12) ∧ True)) ∧ (∀ (e : Objt), (∀ (f : Int), 0 ≤ f ∧ f ≤ LN (namesG e) ∧ (namesG e).length ≤ 12 →
 (namesG e).length ≤ 9223372036854775807 →
 (decide (f < LN (namesG e)) = true →
 (0 ≤ f ∧ f < LN (namesG e)) ∧ (∀ (g : ByteArray), (namesG e)[f.toNat]? = some g →
 Ok Ty.str g →
 (Bool.not (@Option.isSome Given (fndV [e] g)) = true →
 false = true ∧ True) ∧ (Bool.not (@Option.isSome Given (fndV [e] g)) = false →
 (decide ((@Option.getD Given (fndV [e] g) (Given.mk 0 0)).in_ ≠ 0) = true →
 false = true ∧ True) ∧ (decide ((@Option.getD Given (fndV [e] g) (Given.mk 0 0)).in_ ≠ 0) = false →
 (decide ((@Option.getD Given (fndV [e] g) (Given.mk 0 0)).at_ < 0) = true →
 false = true ∧ True) ∧ (decide ((@Option.getD Given (fndV [e] g) (Given.mk 0 0)).at_ < 0) = false →
 e.syms.length ≤ 9223372036854775807 →
 (decide (LN e.syms ≤ (@Option.getD Given (fndV [e] g) (Given.mk 0 0)).at_) = true →
 false = true ∧ True) ∧ (decide (LN e.syms ≤ (@Option.getD Given (fndV [e] g) (Given.mk 0 0)).at_) = false →
 (0 ≤ (@Option.getD Given (fndV [e] g) (Given.mk 0 0)).at_ ∧ (@Option.getD Given (fndV [e] g) (Given.mk 0 0)).at_ < LN e.syms) ∧ (∀ (h : Sym), e.syms[(@Option.getD Given (fndV [e] g) (Given.mk 0 0)).at_.toNat]? = some h →
 Ok (Ty.st SN.sym) h →
 (0 ≤ f ∧ f < LN (namesG e)) ∧ (∀ (i : ByteArray), (namesG e)[f.toNat]? = some i →
 Ok Ty.str i →
 (decide (h.name ≠ i) = true →
 false = true ∧ True) ∧ (decide (h.name ≠ i) = false →
 (decide (0 < f) = true →
 (0 ≤ f ∧ f < LN (namesG e)) ∧ (∀ (j : ByteArray), (namesG e)[f.toNat]? = some j →
 Ok Ty.str j →
 i64 (f - 1) ∧ (0 ≤ f - 1 ∧ f - 1 < LN (namesG e)) ∧ (∀ (k : ByteArray), (namesG e)[(f - 1).toNat]? = some k →
 Ok Ty.str k →
 (Bool.or (strLt j k) (decide (j = k)) = true →
 false = true ∧ True) ∧ (Bool.or (strLt j k) (decide (j = k)) = false →
 i64 (f + 1) ∧ (∃ (l : Objt), (∃ (m : Int), namesG e = namesG l ∧ f + 1 = m ∧ e.sects = l.sects ∧ e.syms = l.syms ∧ (0 ≤ m ∧ m ≤ LN (namesG l) ∧ (namesG l).length ≤ 12) ∧ (namesG l).length - m.toNat < (namesG e).length - f.toNat)))))) ∧ (decide (0 < f) = false →
 i64 (f + 1) ∧ (∃ (n : Objt), (∃ (o : Int), namesG e = namesG n ∧ f + 1 = o ∧ e.sects = n.sects ∧ e.syms = n.syms ∧ (0 ≤ o ∧ o ≤ LN (namesG n) ∧ (namesG n).length ≤ 12) ∧ (namesG n).length - o.toNat < (namesG e).length - f.toNat)))))))))))) ∧ (decide (f < LN (namesG e)) = false →
 true = true ∧ True))))))) := by kernel_rfl
theorem det_laws_FnNamesGiven : C_laws_FnNamesGiven.det = true → ∀ x, (C_laws_FnNamesGiven.out x).Det := fun _ _ => Det.vc'
theorem ok_laws_FnNamesGiven : ConOK Try.prog 3 C_laws_FnNamesGiven := by
  refine con_q (l := L_laws_FnNamesGiven) ⟨⟨ok_spec_DrawNamesGiven, det_spec_DrawNamesGiven⟩, ⟨⟨ok_impl_NamesGiven, det_impl_NamesGiven⟩, ⟨⟨ok_spec_NamesGiven, det_spec_NamesGiven⟩, ⟨⟨ok_laws_sameTexts, det_laws_sameTexts⟩, ⟨⟨ok_impl_FindName, det_impl_FindName⟩, ⟨⟨ok_laws_alive, det_laws_alive⟩, trivial⟩⟩⟩⟩⟩⟩ Try.func3 rfl (by decide) (by kernel_rfl) rfl an_laws_FnNamesGiven fun x ho hx => ?_
  obtain ⟨c, ⟨⟩⟩ := x
  refine Keeps.of (vc_laws_FnNamesGiven c) ?_
  revert c ho hx
  show ∀ (c : List (Int)), _
  intro c ho hx
  dsimp only [C_laws_FnNamesGiven, okPTL, okPT, Ok, Ty.cells, SN.cells, OkL, OkC, okI, ci, cb, cs, cl] at ho
  dsimp only [C_laws_FnNamesGiven, vc, v1, decB, SR.pre] at hx
  have h1 := @namesG_12
  have h2 := fun (o : Objt) (k : Int) n (h : (namesG o)[k.toNat]? = some n) => @namesG_fnd o n (List.mem_of_getElem? h)
  have h3 := @namesG_up
  (try delta i64 LN); simp only [DRt, ex_sect2]; (repeat' first | apply And.intro | (intro x hq _; replace hq := List.mem_of_getElem? hq; simp only [List.mem_cons, List.not_mem_nil, or_false] at hq) | intro _); all_goals (try omega)
  all_goals (try grind)

theorem rd_u : Reads Try.prog 5 [.u] := reads_u8 Try.underlying5
theorem rd_uL : Reads Try.prog 22 [(.list .u)] := reads_slice (t' := .u) Try.underlying22 (by kernel_rfl) (by decide) rd_u
set_option maxRecDepth 100000 in
theorem lifted_FnNamesGiven (os : Os) (started : os.Started) (H : Type) (enc : TypeId × Value → H) :
    ReturnsInHanded {} Try.checked os 3 .any (Rows.fnNamesGivenSpec.pre6 enc Try.prog Try.f3 Rows.fnNamesGivenRow.domain false) (Rows.fnNamesGivenSpec.post enc Try.prog Try.f3 false true false false) := by
  refine returnsInHanded_of_change (C := Try.checked) head_own started (by kernel_rfl) Try.func3
    (ChangeSpec.witness6 (enc := enc) (C := Try.checked) false ⟨#[], #[.slice none 0 0], []⟩ 8 (by kernel_rfl) (by kernel_rfl) (by kernel_rfl) (by kernel_rfl)) ?_
  intro W base args ds gs before hval0 hW _ _
  have hval : ∀ (j : Nat) t v, Try.f3.params[j]? = some t → args[j]? = some v → Value.okWide Try.prog W .any base t v := hval0
  have hW' := hW
  obtain ⟨p, q, hA0, hV, rfl, hfz, hnd⟩ := hW
  have hA : DataW.TrodAll enc Try.prog W 0 (fun _ => true) true Try.f3.params.toList args.toList ds p := hA0
  rw [Try.params3] at hA hval
  obtain ⟨v0, vs0, d0, ds0, p0, q0, hargs, rfl, rfl, h0, r0⟩ := trodAll_cons hA
  obtain ⟨rfl, rfl, rfl⟩ := trodAll_nil r0
  obtain rfl : args = #[v0] := by cases args; simp_all
  obtain ⟨rfl, rfl⟩ := trodVars_none hV
  have k0 := h0
  obtain ⟨x0, g0⟩ := open_slice1 Try.underlying22 rd_uL (hval 0 22 v0 rfl rfl) h0
  clear hA0 hval0 hval
  refine (law_calls ok_laws_FnNamesGiven (x0, ()) rfl rfl (W := W) (vals := [v0]) ⟨g0, trivial⟩).mono fun e W' ⟨he, bel⟩ => ?_
  subst he
  exact ⟨_, rfl, _, _, _, [], _, [], hW', trodAll_mk1 (shut_bool Try.underlying4 _), (trodAll_cons_mk (Below.trod head_laid (by kernel_rfl) (of_decide_eq_true (by kernel_rfl)) k0 bel (trod_lt_ k0)) trodAll_mk0), rfl, bel.frame _, fun h => by cases h⟩

theorem over_FnNamesGiven : Rows.fnNamesGivenRow.holds Try.pinned (OpenSpec.ofChange Rows.fnNamesGivenSpec) :=
  OpenClaim.holds_of_wide 3 Try.f3 rfl rfl rfl rfl rfl rfl rfl ⟨rfl, rfl, rfl, rfl, rfl⟩ rfl rfl rfl rfl rfl (by kernel_rfl) Try.func3 (joined_of head_laid head_rowed head_stops head_stopk head_heard head_enter (show (Rows.fnNamesGivenRow.lifted == Try.prog.liftsFinal) = true by rw [head_final]; rfl) (show (Try.prog.make == some Rows.fnNamesGivenRow.make) = true by rw [head_make]; rfl) (by kernel_rfl))
    (of_decide_eq_true (by kernel_rfl)) (by unfold Func.isWrapper; first | (rw [if_pos (by decide +kernel)]; kernel_rfl) | (rw [if_neg (by decide +kernel)]; exact ⟨rfl, rfl⟩))
    (fun os started H enc _ => lifted_FnNamesGiven os started H enc)

theorem proved_FnNamesGiven : Rows.FnNamesGivenSaid := over_FnNamesGiven
#print axioms proved_FnNamesGiven

end Go.Proofs.Ythkefakjihafeaa
