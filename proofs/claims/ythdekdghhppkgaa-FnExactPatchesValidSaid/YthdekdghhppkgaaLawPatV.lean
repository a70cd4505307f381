/- FnExactPatchesValid: for all images and lists of patches the program's PatchesValid returns what the reference's returns. No condition. -/
import Derived.Test.YthdekdghhppkgaaReadT
import Derived.Test.YthdekdghhppkgaaPatV
import Derived.Test.YthdekdghhppkgaaPatS
namespace Go.Proofs.Ythdekdghhppkgaa
open Go.RowKit Go.ChangeShapes Go.WideShapes Go.ChangeAt
open Mem (rep own)

set_option maxHeartbeats 4000000 in
theorem walk_FnExactPatchesValid (cs : List Value) (m : Img) (v : Value) (l : List Patch) (w : World) (hm : rep w (fun b => b < w.heap.size) cs m) (hl : rep w (fun b => b < w.heap.size) [v] l) :
    Calls Try.prog 13 #[.agg cs.toArray, v] w fun e w' => e = .returned (.bool true) ∧ Ext w w' := by
  have hm0 := hm
  have hl0 := hl
  obtain ⟨A, c, rfl, hm1, hm2, hm3, hm4⟩ := Img.open_ hm
  obtain ⟨L, lc, hv, hl1, hl2, hl3⟩ := rep_list hl
  simp only [List.cons.injEq, and_true] at hv
  subst hv
  clear hm hl
  by_cases h : m.bytes.length ≤ 1048576
  rotate_left
  · have hp : szR m.bytes.length 1048576 < 0 := (szR_neg (by omega)).2 (by omega)
    go_enter Try.func13, Try.ntmps13
    go_wp2_with (go_at_call 19; refine (c_laws_szImage m _ _ _ _ (rep_ext hm0 (by repeat (first | exact Below.refl _ _ | assumption | refine Ext.alloc ?_ _ | refine Ext.drew ?_ | refine Ext.drewN ?_ _ | refine Ext.setCell ?_ (by first | omega | (dsimp only; omega) | go_size) _ | refine Ext.trans ?_ (by assumption)))) (by omega) (by omega)).mono ?_; rintro e w1 ⟨rfl, hb1⟩)
    go_ret
    exact ⟨rfl, (by repeat (first | exact Below.refl _ _ | assumption | refine Ext.alloc ?_ _ | refine Ext.drew ?_ | refine Ext.drewN ?_ _ | refine Ext.setCell ?_ (by first | omega | (dsimp only; omega) | go_size) _ | refine Ext.trans ?_ (by assumption)))⟩
  have hpe := Lib.hid (szR_pos (n := m.bytes.length) (left := 1048576) (by omega))
  have hp : 0 ≤ szR m.bytes.length 1048576 := by have := hpe.out; omega
  have hp' : szR m.bytes.length 1048576 ≤ 1048576 := by have := hpe.out; omega
  by_cases h' : l.length + szPats l ≤ 1048576 - m.bytes.length
  rotate_left
  · have hq : szR (l.length + szPats l) (szR m.bytes.length 1048576) < 0 := (szR_neg hp).2 (by have := hpe.out; omega)
    go_enter Try.func13, Try.ntmps13
    go_wp2_with (first | (go_at_call 19; refine (c_laws_szImage m _ _ _ _ (rep_ext hm0 (by repeat (first | exact Below.refl _ _ | assumption | refine Ext.alloc ?_ _ | refine Ext.drew ?_ | refine Ext.drewN ?_ _ | refine Ext.setCell ?_ (by first | omega | (dsimp only; omega) | go_size) _ | refine Ext.trans ?_ (by assumption)))) (by omega) (by omega)).mono ?_; rintro e w1 ⟨rfl, hb1⟩) | (go_at_call 40; refine (c_laws_szPatchS l _ _ _ _ (rep_ext hl0 (by repeat (first | exact Below.refl _ _ | assumption | refine Ext.alloc ?_ _ | refine Ext.drew ?_ | refine Ext.drewN ?_ _ | refine Ext.setCell ?_ (by first | omega | (dsimp only; omega) | go_size) _ | refine Ext.trans ?_ (by assumption)))) hp hp').mono ?_; rintro e w2 ⟨rfl, hb2⟩))
    go_ret
    exact ⟨rfl, (by repeat (first | exact Below.refl _ _ | assumption | refine Ext.alloc ?_ _ | refine Ext.drew ?_ | refine Ext.drewN ?_ _ | refine Ext.setCell ?_ (by first | omega | (dsimp only; omega) | go_size) _ | refine Ext.trans ?_ (by assumption)))⟩
  have hq : 0 ≤ szR (l.length + szPats l) (szR m.bytes.length 1048576) := by
    have := szR_neg (n := l.length + szPats l) hp
    have := hpe.out
    omega
  have hln : l.length + szPats l ≤ 1048576 := by omega
  go_enter Try.func13, Try.ntmps13
  go_wp2_with (first | (go_at_call 19; refine (c_laws_szImage m _ _ _ _ (rep_ext hm0 (by repeat (first | exact Below.refl _ _ | assumption | refine Ext.alloc ?_ _ | refine Ext.drew ?_ | refine Ext.drewN ?_ _ | refine Ext.setCell ?_ (by first | omega | (dsimp only; omega) | go_size) _ | refine Ext.trans ?_ (by assumption)))) (by omega) (by omega)).mono ?_; rintro e w1 ⟨rfl, hb1⟩; have kb := (Blk.new w 29 _).ext hb1) | (go_at_call 40; refine (c_laws_szPatchS l _ _ _ _ (rep_ext hl0 (by repeat (first | exact Below.refl _ _ | assumption | refine Ext.alloc ?_ _ | refine Ext.drew ?_ | refine Ext.drewN ?_ _ | refine Ext.setCell ?_ (by first | omega | (dsimp only; omega) | go_size) _ | refine Ext.trans ?_ (by assumption)))) hp hp').mono ?_; rintro e w2 ⟨rfl, hb2⟩; replace kb := kb.ext hb2; obtain ⟨f0, f1, f2, f3⟩ := kb.two))
  refine (c_laws_toImage m _ _ _ (rep_ext hm0 (by repeat (first | exact Below.refl _ _ | assumption | refine Ext.alloc ?_ _ | refine Ext.drew ?_ | refine Ext.drewN ?_ _ | refine Ext.setCell ?_ (by first | omega | (dsimp only; omega) | go_size) _ | refine Ext.trans ?_ (by assumption)))) h).mono ?_
  rintro e w3 ⟨A3, c3, rfl, hn3, hb3⟩
  replace kb := kb.ext hb3
  have r3 := hn3.rep_
  clear hn3
  go_wp2_with fail
  refine (c_laws_toPatchS l _ _ _ _ _ (rep_ext hl0 (by repeat (first | exact Below.refl _ _ | assumption | refine Ext.alloc ?_ _ | refine Ext.drew ?_ | refine Ext.drewN ?_ _ | refine Ext.setCell ?_ (by first | omega | (dsimp only; omega) | go_size) _ | refine Ext.trans ?_ (by assumption)))) hln).mono ?_
  rintro e w4 ⟨A4, c4, rfl, hn4, hb4⟩
  replace kb := kb.ext hb4
  have r4 := hn4.rep_
  clear hn4
  go_wp2_with fail
  refine (c_spec_PatchesValid m l _ _ _ _ _ (rep_ext r3 (by repeat (first | exact Below.refl _ _ | assumption | refine Ext.alloc ?_ _ | refine Ext.drew ?_ | refine Ext.drewN ?_ _ | refine Ext.setCell ?_ (by first | omega | (dsimp only; omega) | go_size) _ | refine Ext.trans ?_ (by assumption)))) (rep_ext r4 (by repeat (first | exact Below.refl _ _ | assumption | refine Ext.alloc ?_ _ | refine Ext.drew ?_ | refine Ext.drewN ?_ _ | refine Ext.setCell ?_ (by first | omega | (dsimp only; omega) | go_size) _ | refine Ext.trans ?_ (by assumption))))).mono ?_
  rintro e w5 ⟨rfl, hb5⟩
  replace kb := kb.ext hb5
  obtain ⟨f0, f1, f2, f3⟩ := kb.two
  go_wp2_with fail
  refine (c_laws_toImage m _ _ _ (rep_ext hm0 (by repeat (first | exact Below.refl _ _ | assumption | refine Ext.alloc ?_ _ | refine Ext.drew ?_ | refine Ext.drewN ?_ _ | refine Ext.setCell ?_ (by first | omega | (dsimp only; omega) | go_size) _ | refine Ext.trans ?_ (by assumption)))) h).mono ?_
  rintro e w6 ⟨A6, c6, rfl, hn6, hb6⟩
  replace kb := kb.ext hb6
  have r6 := hn6.rep_
  clear hn6
  go_wp2_with fail
  refine (c_laws_toPatchS l _ _ _ _ _ (rep_ext hl0 (by repeat (first | exact Below.refl _ _ | assumption | refine Ext.alloc ?_ _ | refine Ext.drew ?_ | refine Ext.drewN ?_ _ | refine Ext.setCell ?_ (by first | omega | (dsimp only; omega) | go_size) _ | refine Ext.trans ?_ (by assumption)))) hln).mono ?_
  rintro e w7 ⟨A7, c7, rfl, hn7, hb7⟩
  have kx := (Blk.new w6 32 _).ext hb7
  replace kb := (kb.alloc _).ext hb7
  have r7 := hn7.rep_
  clear hn7
  obtain ⟨g0, g1, g2, g3⟩ := kx.two
  go_wp2_with fail
  refine (c_impl_PatchesValid m l _ _ _ _ _ (rep_ext r6 (by repeat (first | exact Below.refl _ _ | assumption | refine Ext.alloc ?_ _ | refine Ext.drew ?_ | refine Ext.drewN ?_ _ | refine Ext.setCell ?_ (by first | omega | (dsimp only; omega) | go_size) _ | refine Ext.trans ?_ (by assumption)))) (rep_ext r7 (by repeat (first | exact Below.refl _ _ | assumption | refine Ext.alloc ?_ _ | refine Ext.drew ?_ | refine Ext.drewN ?_ _ | refine Ext.setCell ?_ (by first | omega | (dsimp only; omega) | go_size) _ | refine Ext.trans ?_ (by assumption))))).mono ?_
  rintro e w8 ⟨rfl, hb8⟩
  replace kb := kb.ext hb8
  replace kx := kx.ext hb8
  obtain ⟨f0, f1, f2, f3⟩ := kb.two
  obtain ⟨g0, g1, g2, g3⟩ := kx.two
  go_wp2_with fail
  go_region_held3 (fun W => W.cell? ⟨w.heap.size, 0, none⟩ = some (.int .i64 m.base) ∧ W.cell? ⟨w.heap.size, 1, none⟩ = some (.slice A m.bytes.length c) ∧ W.cell? ⟨w6.heap.size, 0, none⟩ = some (.int .i64 m.base) ∧ W.cell? ⟨w6.heap.size, 1, none⟩ = some (.slice A6 m.bytes.length c6))
    (first | exact ⟨f0, f1, g0, g1⟩ | exact ⟨cell_ext (by repeat (first | exact Below.refl _ _ | assumption | refine Ext.alloc ?_ _ | refine Ext.drew ?_ | refine Ext.drewN ?_ _ | refine Ext.setCell ?_ (by first | omega | (dsimp only; omega) | go_size) _ | refine Ext.trans ?_ (by assumption))) f0, cell_ext (by repeat (first | exact Below.refl _ _ | assumption | refine Ext.alloc ?_ _ | refine Ext.drew ?_ | refine Ext.drewN ?_ _ | refine Ext.setCell ?_ (by first | omega | (dsimp only; omega) | go_size) _ | refine Ext.trans ?_ (by assumption))) f1, cell_ext (by repeat (first | exact Below.refl _ _ | assumption | refine Ext.alloc ?_ _ | refine Ext.drew ?_ | refine Ext.drewN ?_ _ | refine Ext.setCell ?_ (by first | omega | (dsimp only; omega) | go_size) _ | refine Ext.trans ?_ (by assumption))) g0, cell_ext (by repeat (first | exact Below.refl _ _ | assumption | refine Ext.alloc ?_ _ | refine Ext.drew ?_ | refine Ext.drewN ?_ _ | refine Ext.setCell ?_ (by first | omega | (dsimp only; omega) | go_size) _ | refine Ext.trans ?_ (by assumption))) g1⟩)
    (first
      | (go_at_call 21; refine (c_laws_toImage m _ _ _ (rep_ext hm0 (by repeat (first | exact Below.refl _ _ | assumption | refine Ext.alloc ?_ _ | refine Ext.drew ?_ | refine Ext.drewN ?_ _ | refine Ext.setCell ?_ (by first | omega | (dsimp only; omega) | go_size) _ | refine Ext.trans ?_ (by assumption)))) h).mono ?_; rintro e w9 ⟨A9, c9, rfl, hn9, hb9⟩)
      | (go_at_call 23; refine (c_laws_eqImage m _ _ _ _ _ (rep_ext r6 (by repeat (first | exact Below.refl _ _ | assumption | refine Ext.alloc ?_ _ | refine Ext.drew ?_ | refine Ext.drewN ?_ _ | refine Ext.setCell ?_ (by first | omega | (dsimp only; omega) | go_size) _ | refine Ext.trans ?_ (by assumption)))) (hn9.rep_)).mono ?_; rintro e w10 ⟨rfl, hb10⟩))
  go_wp2_with fail
  refine (c_laws_toPatchS l _ _ _ _ _ (rep_ext hl0 (by repeat (first | exact Below.refl _ _ | assumption | refine Ext.alloc ?_ _ | refine Ext.drew ?_ | refine Ext.drewN ?_ _ | refine Ext.setCell ?_ (by first | omega | (dsimp only; omega) | go_size) _ | refine Ext.trans ?_ (by assumption)))) hln).mono ?_
  rintro e w11 ⟨A11, c11, rfl, hn11, hb11⟩
  go_wp2_with fail
  refine (c_laws_eqPatchS l _ _ _ _ _ (rep_ext r7 (by repeat (first | exact Below.refl _ _ | assumption | refine Ext.alloc ?_ _ | refine Ext.drew ?_ | refine Ext.drewN ?_ _ | refine Ext.setCell ?_ (by first | omega | (dsimp only; omega) | go_size) _ | refine Ext.trans ?_ (by assumption)))) (hn11.rep_)).mono ?_
  rintro e w12 ⟨rfl, hb12⟩
  go_wp2_with fail
  go_ret
  exact ⟨rfl, (by repeat (first | exact Below.refl _ _ | assumption | refine Ext.alloc ?_ _ | refine Ext.drew ?_ | refine Ext.drewN ?_ _ | refine Ext.setCell ?_ (by first | omega | (dsimp only; omega) | go_size) _ | refine Ext.trans ?_ (by assumption)))⟩

theorem own_FnExactPatchesValid : ownKnob Try.prog.godebug = none := by kernel_rfl
theorem laidOut_FnExactPatchesValid : laidOutB Try.prog = true := by kernel_rfl
set_option maxRecDepth 100000 in
theorem lifted_FnExactPatchesValid (os : Os) (started : os.Started) (H : Type) (enc : TypeId × Value → H) :
    ReturnsInHanded {} Try.checked os 13 .any (Rows.fnExactPatchesValidSpec.pre6 enc Try.prog Try.f13 Rows.fnExactPatchesValidRow.domain false) (Rows.fnExactPatchesValidSpec.post enc Try.prog Try.f13 false true false false) := by
  refine returnsInHanded_of_change (C := Try.checked) own_FnExactPatchesValid started (by kernel_rfl) Try.func13
    (ChangeSpec.witness6 (enc := enc) (C := Try.checked) false ⟨#[], #[.agg #[.int .i64 0, .slice none 0 0], .slice none 0 0], []⟩ 8 (by kernel_rfl) (by kernel_rfl) (by kernel_rfl) (by kernel_rfl)) ?_
  intro W base args ds gs before hval0 hW _ _
  have hval : ∀ (j : Nat) t v, Try.f13.params[j]? = some t → args[j]? = some v → Value.okWide Try.prog W .any base t v := hval0
  have hW' := hW
  obtain ⟨p, q, hA0, hV, rfl, hfz, hnd⟩ := hW
  have hA : DataW.TrodAll enc Try.prog W 0 (fun _ => true) true Try.f13.params.toList args.toList ds p := hA0
  rw [Try.params13] at hA hval
  obtain ⟨v0, vs0, d0, ds0, p0, q0, hargs, rfl, rfl, h0, r0⟩ := trodAll_cons hA
  obtain ⟨v1, vs1, d1, ds1, p1, q1, rfl, rfl, rfl, h1, r1⟩ := trodAll_cons r0
  obtain ⟨rfl, rfl, rfl⟩ := trodAll_nil r1
  obtain rfl : args = #[v0, v1] := by cases args; simp_all
  obtain ⟨rfl, rfl⟩ := trodVars_none hV
  have k0 := h0
  have k1 := h1
  obtain ⟨c0, x0, rfl, g0⟩ := open_agg Try.underlying29 r_Img (hval 0 29 v0 rfl rfl) h0
  obtain ⟨x1, g1⟩ := open_sl (α := Patch) Try.underlying62 rs_Patch (hval 1 62 v1 rfl rfl) h1
  clear hA0 hval0 hval
  refine (walk_FnExactPatchesValid c0 x0 v1 x1 W g0 g1).mono fun e W' ⟨he, bel⟩ => ?_
  subst he
  exact ⟨_, rfl, _, _, _, [], _, [], hW', trodAll_mk1 (shut_bool Try.underlying4 _), (trodAll_cons_mk (Below.trod laidOut_FnExactPatchesValid (by kernel_rfl) (of_decide_eq_true (by kernel_rfl)) k0 bel (trod_lt_ k0)) (trodAll_cons_mk (Below.trod laidOut_FnExactPatchesValid (by kernel_rfl) (of_decide_eq_true (by kernel_rfl)) k1 bel (trod_lt_ k1)) trodAll_mk0)), rfl, bel.frame _, fun h => by cases h⟩

theorem over_FnExactPatchesValid : Rows.fnExactPatchesValidRow.holds Try.pinned (OpenSpec.ofChange Rows.fnExactPatchesValidSpec) :=
  OpenClaim.holds_of_wide 13 Try.f13 rfl rfl rfl rfl rfl rfl rfl ⟨rfl, rfl, rfl, rfl, rfl⟩ rfl rfl rfl rfl rfl (by kernel_rfl) Try.func13 (by kernel_rfl)
    (of_decide_eq_true (by kernel_rfl)) (by unfold Func.isWrapper; first | (rw [if_pos (by decide +kernel)]; kernel_rfl) | (rw [if_neg (by decide +kernel)]; exact ⟨rfl, rfl⟩))
    (fun os started H enc _ => lifted_FnExactPatchesValid os started H enc)

theorem proved_FnExactPatchesValid : Rows.FnExactPatchesValidSaid := over_FnExactPatchesValid
#print axioms proved_FnExactPatchesValid
end Go.Proofs.Ythdekdghhppkgaa
