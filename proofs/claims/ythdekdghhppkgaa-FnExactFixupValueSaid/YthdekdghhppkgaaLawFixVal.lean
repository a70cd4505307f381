/- FnExactFixupValue: for all numbers the program's FixupValue returns what the reference's returns. No condition. -/
import Derived.Test.YthdekdghhppkgaaReadT
import Derived.Test.YthdekdghhppkgaaNum
namespace Go.Proofs.Ythdekdghhppkgaa
open Go.RowKit Go.ChangeShapes Go.WideShapes Go.ChangeAt
open Mem (rep own)

theorem walk_FnExactFixupValue (a b c d : Int) (w : World) (_ : I64 a) (_ : I64 b) (_ : I64 c) (_ : I64 d) :
    Calls Try.prog 4 #[.int .i64 a, .int .i64 b, .int .i64 c, .int .i64 d] w fun e w' => e = .returned (.bool true) ∧ Ext w w' := by
  go_enter Try.func4, Try.ntmps4
  go_wp2_with (first | (go_at_call 17; refine (c_spec_FixupValue _ _ _ _ _).mono ?_; rintro e w1 ⟨rfl, hb1⟩) | (go_at_call 18; refine (c_impl_FixupValue _ _ _ _ _).mono ?_; rintro e w' ⟨rfl, rfl⟩))
  go_ret
  exact ⟨rfl, (by repeat (first | exact Below.refl _ _ | assumption | refine Ext.alloc ?_ _ | refine Ext.drew ?_ | refine Ext.drewN ?_ _ | refine Ext.setCell ?_ (by first | omega | (simp only [World.size_alloc, World.size_setCell, World.size_drew]; omega)) _ | refine Ext.trans ?_ (by assumption)))⟩

theorem own_FnExactFixupValue : ownKnob Try.prog.godebug = none := by kernel_rfl
theorem laidOut_FnExactFixupValue : laidOutB Try.prog = true := by kernel_rfl
set_option maxRecDepth 100000 in
theorem lifted_FnExactFixupValue (os : Os) (started : os.Started) (H : Type) (enc : TypeId × Value → H) :
    ReturnsInHanded {} Try.checked os 4 .any (Rows.fnExactFixupValueSpec.pre6 enc Try.prog Try.f4 Rows.fnExactFixupValueRow.domain false) (Rows.fnExactFixupValueSpec.post enc Try.prog Try.f4 false true false false) := by
  refine returnsInHanded_of_change (C := Try.checked) own_FnExactFixupValue started (by kernel_rfl) Try.func4
    (ChangeSpec.witness6 (enc := enc) (C := Try.checked) false ⟨#[], #[.int .i64 0, .int .i64 0, .int .i64 0, .int .i64 0], []⟩ 8 (by kernel_rfl) (by kernel_rfl) (by kernel_rfl) (by kernel_rfl)) ?_
  intro W base args ds gs before hval0 hW _ _
  have hval : ∀ (j : Nat) t v, Try.f4.params[j]? = some t → args[j]? = some v → Value.okWide Try.prog W .any base t v := hval0
  have hW' := hW
  obtain ⟨p, q, hA0, hV, rfl, hfz, hnd⟩ := hW
  have hA : DataW.TrodAll enc Try.prog W 0 (fun _ => true) true Try.f4.params.toList args.toList ds p := hA0
  rw [Try.params4] at hA hval
  obtain ⟨v0, vs0, d0, ds0, p0, q0, hargs, rfl, rfl, h0, r0⟩ := trodAll_cons hA
  obtain ⟨v1, vs1, d1, ds1, p1, q1, rfl, rfl, rfl, h1, r1⟩ := trodAll_cons r0
  obtain ⟨v2, vs2, d2, ds2, p2, q2, rfl, rfl, rfl, h2, r2⟩ := trodAll_cons r1
  obtain ⟨v3, vs3, d3, ds3, p3, q3, rfl, rfl, rfl, h3, r3⟩ := trodAll_cons r2
  obtain ⟨rfl, rfl, rfl⟩ := trodAll_nil r3
  obtain rfl : args = #[v0, v1, v2, v3] := by cases args; simp_all
  obtain ⟨rfl, rfl⟩ := trodVars_none hV
  have k0 := h0
  have k1 := h1
  have k2 := h2
  have k3 := h3
  obtain ⟨n0, rfl, _, _, w0⟩ := open_int Try.underlying3 (hval 0 3 v0 rfl rfl) h0
  have g0 := wf_i64 w0
  obtain ⟨n1, rfl, _, _, w1⟩ := open_int Try.underlying3 (hval 1 3 v1 rfl rfl) h1
  have g1 := wf_i64 w1
  obtain ⟨n2, rfl, _, _, w2⟩ := open_int Try.underlying3 (hval 2 3 v2 rfl rfl) h2
  have g2 := wf_i64 w2
  obtain ⟨n3, rfl, _, _, w3⟩ := open_int Try.underlying3 (hval 3 3 v3 rfl rfl) h3
  have g3 := wf_i64 w3
  clear hA0 hval0 hval
  refine (walk_FnExactFixupValue n0 n1 n2 n3 W g0 g1 g2 g3).mono fun e W' ⟨he, bel⟩ => ?_
  subst he
  exact ⟨_, rfl, _, _, _, [], _, [], hW', trodAll_mk1 (shut_bool Try.underlying4 _), (trodAll_cons_mk (Below.trod laidOut_FnExactFixupValue (by kernel_rfl) (of_decide_eq_true (by kernel_rfl)) k0 bel (trod_lt_ k0)) (trodAll_cons_mk (Below.trod laidOut_FnExactFixupValue (by kernel_rfl) (of_decide_eq_true (by kernel_rfl)) k1 bel (trod_lt_ k1)) (trodAll_cons_mk (Below.trod laidOut_FnExactFixupValue (by kernel_rfl) (of_decide_eq_true (by kernel_rfl)) k2 bel (trod_lt_ k2)) (trodAll_cons_mk (Below.trod laidOut_FnExactFixupValue (by kernel_rfl) (of_decide_eq_true (by kernel_rfl)) k3 bel (trod_lt_ k3)) trodAll_mk0)))), rfl, bel.frame _, fun h => by cases h⟩

theorem over_FnExactFixupValue : Rows.fnExactFixupValueRow.holds Try.pinned (OpenSpec.ofChange Rows.fnExactFixupValueSpec) :=
  OpenClaim.holds_of_wide 4 Try.f4 rfl rfl rfl rfl rfl rfl rfl ⟨rfl, rfl, rfl, rfl, rfl⟩ rfl rfl rfl rfl rfl (by kernel_rfl) Try.func4 (by kernel_rfl)
    (of_decide_eq_true (by kernel_rfl)) (by unfold Func.isWrapper; first | (rw [if_pos (by decide +kernel)]; kernel_rfl) | (rw [if_neg (by decide +kernel)]; exact ⟨rfl, rfl⟩))
    (fun os started H enc _ => lifted_FnExactFixupValue os started H enc)

theorem proved_FnExactFixupValue : Rows.FnExactFixupValueSaid := over_FnExactFixupValue
#print axioms proved_FnExactFixupValue
end Go.Proofs.Ythdekdghhppkgaa
