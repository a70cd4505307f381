/- FnExactImageByte: for all images and places the program's ImageByte returns what the reference's returns. No condition. -/
import Derived.Test.YthdekdghhppkgaaReadT
import Derived.Test.YthdekdghhppkgaaImg
import Derived.Deep.RegionHeld3
namespace Go.Proofs.Ythdekdghhppkgaa
open Go.RowKit Go.ChangeShapes Go.WideShapes Go.ChangeAt
open Mem (rep own)

set_option maxHeartbeats 1000000 in
theorem walk_FnExactImageByte (cs : List Value) (m : Img) (at_ : Int) (w : World) (hm : rep w (fun b => b < w.heap.size) cs m) (hat : I64 at_) :
    Calls Try.prog 8 #[.agg cs.toArray, .int .i64 at_] w fun e w' => e = .returned (.bool true) ∧ Ext w w' := by
  have hm0 := hm
  obtain ⟨A, c, rfl, hm1, hm2, hm3, hm4⟩ := Img.open_ hm
  clear hm
  by_cases h : m.bytes.length ≤ 1048576
  rotate_left
  · have hp : szR m.bytes.length 1048576 < 0 := (szR_neg (by omega)).2 (by omega)
    go_enter Try.func8, Try.ntmps8
    go_wp2_with (go_at_call 19; refine (c_laws_szImage m _ _ _ _ (rep_ext hm0 (by repeat (first | exact Below.refl _ _ | assumption | refine Ext.alloc ?_ _ | refine Ext.drew ?_ | refine Ext.drewN ?_ _ | refine Ext.setCell ?_ (by first | omega | (dsimp only; omega) | go_size) _ | refine Ext.trans ?_ (by assumption)))) (by omega) (by omega)).mono ?_; rintro e w1 ⟨rfl, hb1⟩; obtain ⟨hc_hb1, hf_hb1, hz_hb1⟩ := bcell hb1; try simp at hz_hb1)
    go_ret
    exact ⟨rfl, (by repeat (first | exact Below.refl _ _ | assumption | refine Ext.alloc ?_ _ | refine Ext.drew ?_ | refine Ext.drewN ?_ _ | refine Ext.setCell ?_ (by first | omega | (dsimp only; omega) | go_size) _ | refine Ext.trans ?_ (by assumption)))⟩
  have hp : 0 ≤ szR m.bytes.length 1048576 := by have := szR_neg (n := m.bytes.length) (left := 1048576) (by omega); omega
  go_enter Try.func8, Try.ntmps8
  go_wp2_with (go_at_call 19; refine (c_laws_szImage m _ _ _ _ (rep_ext hm0 (by repeat (first | exact Below.refl _ _ | assumption | refine Ext.alloc ?_ _ | refine Ext.drew ?_ | refine Ext.drewN ?_ _ | refine Ext.setCell ?_ (by first | omega | (dsimp only; omega) | go_size) _ | refine Ext.trans ?_ (by assumption)))) (by omega) (by omega)).mono ?_; rintro e w1 ⟨rfl, hb1⟩; have k1 : w1.cell? ⟨w.heap.size, 0, none⟩ = some (.int .i64 m.base) := cell_ext hb1 (by simp); have k2 : w1.cell? ⟨w.heap.size, 1, none⟩ = some (.slice A m.bytes.length c) := cell_ext hb1 (by simp))
  refine (c_laws_toImage m _ _ _ (rep_ext hm0 (by repeat (first | exact Below.refl _ _ | assumption | refine Ext.alloc ?_ _ | refine Ext.drew ?_ | refine Ext.drewN ?_ _ | refine Ext.setCell ?_ (by first | omega | (dsimp only; omega) | go_size) _ | refine Ext.trans ?_ (by assumption)))) h).mono ?_
  rintro e w2 ⟨A2, c2, rfl, hn2, hb2⟩
  replace k1 := cell_ext (show Ext _ w2 from (by repeat (first | exact Below.refl _ _ | assumption | refine Ext.alloc ?_ _ | refine Ext.drew ?_ | refine Ext.drewN ?_ _ | refine Ext.setCell ?_ (by first | omega | (dsimp only; omega) | go_size) _ | refine Ext.trans ?_ (by assumption)))) k1; replace k2 := cell_ext (show Ext _ w2 from (by repeat (first | exact Below.refl _ _ | assumption | refine Ext.alloc ?_ _ | refine Ext.drew ?_ | refine Ext.drewN ?_ _ | refine Ext.setCell ?_ (by first | omega | (dsimp only; omega) | go_size) _ | refine Ext.trans ?_ (by assumption)))) k2
  have hr2 := hn2.rep_
  clear hn2
  go_wp2_with (go_at_call 27; refine (c_spec_ImageByte m at_ _ _ _ hr2 hat).mono ?_; rintro e w3 ⟨rfl, hb3⟩; replace k1 := cell_ext (show Ext _ w3 from (by repeat (first | exact Below.refl _ _ | assumption | refine Ext.alloc ?_ _ | refine Ext.drew ?_ | refine Ext.drewN ?_ _ | refine Ext.setCell ?_ (by first | omega | (dsimp only; omega) | go_size) _ | refine Ext.trans ?_ (by assumption)))) k1; replace k2 := cell_ext (show Ext _ w3 from (by repeat (first | exact Below.refl _ _ | assumption | refine Ext.alloc ?_ _ | refine Ext.drew ?_ | refine Ext.drewN ?_ _ | refine Ext.setCell ?_ (by first | omega | (dsimp only; omega) | go_size) _ | refine Ext.trans ?_ (by assumption)))) k2)
  refine (c_laws_toImage m _ _ _ (rep_ext hm0 (by repeat (first | exact Below.refl _ _ | assumption | refine Ext.alloc ?_ _ | refine Ext.drew ?_ | refine Ext.drewN ?_ _ | refine Ext.setCell ?_ (by first | omega | (dsimp only; omega) | go_size) _ | refine Ext.trans ?_ (by assumption)))) h).mono ?_
  rintro e w4 ⟨A4, c4, rfl, hn4, hb4⟩
  replace k1 := cell_ext (show Ext _ w4 from (by repeat (first | exact Below.refl _ _ | assumption | refine Ext.alloc ?_ _ | refine Ext.drew ?_ | refine Ext.drewN ?_ _ | refine Ext.setCell ?_ (by first | omega | (dsimp only; omega) | go_size) _ | refine Ext.trans ?_ (by assumption)))) k1; replace k2 := cell_ext (show Ext _ w4 from (by repeat (first | exact Below.refl _ _ | assumption | refine Ext.alloc ?_ _ | refine Ext.drew ?_ | refine Ext.drewN ?_ _ | refine Ext.setCell ?_ (by first | omega | (dsimp only; omega) | go_size) _ | refine Ext.trans ?_ (by assumption)))) k2
  have hr4 := hn4.rep_
  clear hn4
  go_wp2_with (go_at_call 28; refine (c_impl_ImageByte m at_ _ _ _ (rep_ext hr4 (by repeat (first | exact Below.refl _ _ | assumption | refine Ext.alloc ?_ _ | refine Ext.drew ?_ | refine Ext.drewN ?_ _ | refine Ext.setCell ?_ (by first | omega | (dsimp only; omega) | go_size) _ | refine Ext.trans ?_ (by assumption)))) hat).mono ?_; rintro e w5 ⟨rfl, hb5⟩; have k3 : w5.cell? ⟨w4.heap.size, 0, none⟩ = some (.int .i64 m.base) := cell_ext hb5 (by simp); have k4 : w5.cell? ⟨w4.heap.size, 1, none⟩ = some (.slice A4 m.bytes.length c4) := cell_ext hb5 (by simp); replace k1 := cell_ext (show Ext _ w5 from (by repeat (first | exact Below.refl _ _ | assumption | refine Ext.alloc ?_ _ | refine Ext.drew ?_ | refine Ext.drewN ?_ _ | refine Ext.setCell ?_ (by first | omega | (dsimp only; omega) | go_size) _ | refine Ext.trans ?_ (by assumption)))) k1; replace k2 := cell_ext (show Ext _ w5 from (by repeat (first | exact Below.refl _ _ | assumption | refine Ext.alloc ?_ _ | refine Ext.drew ?_ | refine Ext.drewN ?_ _ | refine Ext.setCell ?_ (by first | omega | (dsimp only; omega) | go_size) _ | refine Ext.trans ?_ (by assumption)))) k2)
  go_region_held3 (fun W => W.cell? ⟨w.heap.size, 0, none⟩ = some (.int .i64 m.base) ∧ W.cell? ⟨w.heap.size, 1, none⟩ = some (.slice A m.bytes.length c) ∧ W.cell? ⟨w4.heap.size, 0, none⟩ = some (.int .i64 m.base) ∧ W.cell? ⟨w4.heap.size, 1, none⟩ = some (.slice A4 m.bytes.length c4))
    (first | exact ⟨k1, k2, k3, k4⟩ | exact ⟨cell_ext (by repeat (first | exact Below.refl _ _ | assumption | refine Ext.alloc ?_ _ | refine Ext.drew ?_ | refine Ext.drewN ?_ _ | refine Ext.setCell ?_ (by first | omega | (dsimp only; omega) | go_size) _ | refine Ext.trans ?_ (by assumption))) k1, cell_ext (by repeat (first | exact Below.refl _ _ | assumption | refine Ext.alloc ?_ _ | refine Ext.drew ?_ | refine Ext.drewN ?_ _ | refine Ext.setCell ?_ (by first | omega | (dsimp only; omega) | go_size) _ | refine Ext.trans ?_ (by assumption))) k2, cell_ext (by repeat (first | exact Below.refl _ _ | assumption | refine Ext.alloc ?_ _ | refine Ext.drew ?_ | refine Ext.drewN ?_ _ | refine Ext.setCell ?_ (by first | omega | (dsimp only; omega) | go_size) _ | refine Ext.trans ?_ (by assumption))) k3, cell_ext (by repeat (first | exact Below.refl _ _ | assumption | refine Ext.alloc ?_ _ | refine Ext.drew ?_ | refine Ext.drewN ?_ _ | refine Ext.setCell ?_ (by first | omega | (dsimp only; omega) | go_size) _ | refine Ext.trans ?_ (by assumption))) k4⟩)
    (first
      | (go_at_call 21; refine (c_laws_toImage m _ _ _ (rep_ext hm0 (by repeat (first | exact Below.refl _ _ | assumption | refine Ext.alloc ?_ _ | refine Ext.drew ?_ | refine Ext.drewN ?_ _ | refine Ext.setCell ?_ (by first | omega | (dsimp only; omega) | go_size) _ | refine Ext.trans ?_ (by assumption)))) h).mono ?_; rintro e w6 ⟨A6, c6, rfl, hn6, hb6⟩)
      | (go_at_call 23; refine (c_laws_eqImage m _ _ _ _ _ (rep_ext hr4 (by repeat (first | exact Below.refl _ _ | assumption | refine Ext.alloc ?_ _ | refine Ext.drew ?_ | refine Ext.drewN ?_ _ | refine Ext.setCell ?_ (by first | omega | (dsimp only; omega) | go_size) _ | refine Ext.trans ?_ (by assumption)))) (hn6.rep_)).mono ?_; rintro e w7 ⟨rfl, hb7⟩))
  go_wp2_with fail
  go_ret
  exact ⟨rfl, (by repeat (first | exact Below.refl _ _ | assumption | refine Ext.alloc ?_ _ | refine Ext.drew ?_ | refine Ext.drewN ?_ _ | refine Ext.setCell ?_ (by first | omega | (dsimp only; omega) | go_size) _ | refine Ext.trans ?_ (by assumption)))⟩

theorem own_FnExactImageByte : ownKnob Try.prog.godebug = none := by kernel_rfl
theorem laidOut_FnExactImageByte : laidOutB Try.prog = true := by kernel_rfl
set_option maxRecDepth 100000 in
theorem lifted_FnExactImageByte (os : Os) (started : os.Started) (H : Type) (enc : TypeId × Value → H) :
    ReturnsInHanded {} Try.checked os 8 .any (Rows.fnExactImageByteSpec.pre6 enc Try.prog Try.f8 Rows.fnExactImageByteRow.domain false) (Rows.fnExactImageByteSpec.post enc Try.prog Try.f8 false true false false) := by
  refine returnsInHanded_of_change (C := Try.checked) own_FnExactImageByte started (by kernel_rfl) Try.func8
    (ChangeSpec.witness6 (enc := enc) (C := Try.checked) false ⟨#[], #[.agg #[.int .i64 0, .slice none 0 0], .int .i64 0], []⟩ 8 (by kernel_rfl) (by kernel_rfl) (by kernel_rfl) (by kernel_rfl)) ?_
  intro W base args ds gs before hval0 hW _ _
  have hval : ∀ (j : Nat) t v, Try.f8.params[j]? = some t → args[j]? = some v → Value.okWide Try.prog W .any base t v := hval0
  have hW' := hW
  obtain ⟨p, q, hA0, hV, rfl, hfz, hnd⟩ := hW
  have hA : DataW.TrodAll enc Try.prog W 0 (fun _ => true) true Try.f8.params.toList args.toList ds p := hA0
  rw [Try.params8] at hA hval
  obtain ⟨v0, vs0, d0, ds0, p0, q0, hargs, rfl, rfl, h0, r0⟩ := trodAll_cons hA
  obtain ⟨v1, vs1, d1, ds1, p1, q1, rfl, rfl, rfl, h1, r1⟩ := trodAll_cons r0
  obtain ⟨rfl, rfl, rfl⟩ := trodAll_nil r1
  obtain rfl : args = #[v0, v1] := by cases args; simp_all
  obtain ⟨rfl, rfl⟩ := trodVars_none hV
  have k0 := h0
  have k1 := h1
  obtain ⟨c0, x0, rfl, g0⟩ := open_agg Try.underlying29 r_Img (hval 0 29 v0 rfl rfl) h0
  obtain ⟨n1, rfl, _, _, w1⟩ := open_int Try.underlying3 (hval 1 3 v1 rfl rfl) h1
  have g1 := wf_i64 w1
  clear hA0 hval0 hval
  refine (walk_FnExactImageByte c0 x0 n1 W g0 g1).mono fun e W' ⟨he, bel⟩ => ?_
  subst he
  exact ⟨_, rfl, _, _, _, [], _, [], hW', trodAll_mk1 (shut_bool Try.underlying4 _), (trodAll_cons_mk (Below.trod laidOut_FnExactImageByte (by kernel_rfl) (of_decide_eq_true (by kernel_rfl)) k0 bel (trod_lt_ k0)) (trodAll_cons_mk (Below.trod laidOut_FnExactImageByte (by kernel_rfl) (of_decide_eq_true (by kernel_rfl)) k1 bel (trod_lt_ k1)) trodAll_mk0)), rfl, bel.frame _, fun h => by cases h⟩

theorem over_FnExactImageByte : Rows.fnExactImageByteRow.holds Try.pinned (OpenSpec.ofChange Rows.fnExactImageByteSpec) :=
  OpenClaim.holds_of_wide 8 Try.f8 rfl rfl rfl rfl rfl rfl rfl ⟨rfl, rfl, rfl, rfl, rfl⟩ rfl rfl rfl rfl rfl (by kernel_rfl) Try.func8 (by kernel_rfl)
    (of_decide_eq_true (by kernel_rfl)) (by unfold Func.isWrapper; first | (rw [if_pos (by decide +kernel)]; kernel_rfl) | (rw [if_neg (by decide +kernel)]; exact ⟨rfl, rfl⟩))
    (fun os started H enc _ => lifted_FnExactImageByte os started H enc)

theorem proved_FnExactImageByte : Rows.FnExactImageByteSaid := over_FnExactImageByte
#print axioms proved_FnExactImageByte
end Go.Proofs.Ythdekdghhppkgaa
