/- FnImageByte: for every code the law on ImageByte returns true: before the base and behind the end there is no byte. No condition. -/
import Derived.Test.YthdekdghhppkgaaReadT
import Derived.Test.YthdekdghhppkgaaImg
import Derived.Test.YthdekdghhppkgaaDraw4
namespace Go.Proofs.Ythdekdghhppkgaa
open Go.RowKit Go.ChangeShapes Go.WideShapes Go.ChangeAt
open Mem (rep own)

theorem imgByte_neg {m : Img} {x : Int} (h : imgByte m x < 0) : imgByte m x = -1 := by
  unfold imgByte at h ⊢
  split at h
  · omega
  · rename_i hh; rw [if_neg hh]
theorem imgByte_pos {m : Img} {x : Int} (h : ¬ imgByte m x < 0) : imgB m = true ∧ m.base ≤ x ∧ x < m.base + m.bytes.length ∧ imgByte m x = (((m.bytes[(x - m.base).toNat]?).getD 0).toNat : Int) := by
  unfold imgByte at h ⊢
  split at h
  · rename_i hh
    rw [if_pos hh]
    have h1 := (Bool.and_eq_true _ _ ▸ hh)
    have h2 := inB_iff.1 h1.2
    exact ⟨h1.1, h2.1, by omega, rfl⟩
  · omega
theorem imgByte_before {m : Img} : imgByte m (m.base - 1) = -1 := by
  unfold imgByte
  rw [if_neg]
  intro h
  have h1 := (Bool.and_eq_true _ _ ▸ h)
  have := inB_iff.1 h1.2
  omega

set_option maxHeartbeats 1000000 in
theorem walk_FnImageByte (v : Value) (code : List UInt8) (w : World) (h : rep w (fun b => b < w.heap.size) [v] code) :
    Calls Try.prog 9 #[v] w fun e w' => e = .returned (.bool true) ∧ Ext w w' := by
  obtain ⟨A, c, hv, h1, h2, h3⟩ := rep_list h
  simp only [List.cons.injEq, and_true] at hv
  subst hv
  by_cases g : code.length ≤ 1048576
  rotate_left
  · go_enter Try.func9, Try.ntmps9
    go_wp2_with fail
    go_ret
    exact ⟨rfl, (by repeat (first | exact Below.refl _ _ | assumption | refine Ext.alloc ?_ _ | refine Ext.drew ?_ | refine Ext.drewN ?_ _ | refine Ext.setCell ?_ (by first | omega | (dsimp only; omega) | go_size) _ | refine Ext.trans ?_ (by assumption)))⟩
  go_enter Try.func9, Try.ntmps9
  go_wp2_with fail
  refine (c_DrawImageByte code _ _ _ h).mono ?_
  rintro e w1 ⟨m, A1, c1, x, rfl, hm, hml, hx1, hx2, hmb, hE1⟩
  have hI : I64 x := ⟨by omega, by omega⟩
  have hm0 := hm
  obtain ⟨_, _, he, hm1, hm2, hm3, hm4⟩ := Img.open_ hm
  simp only [List.cons.injEq, Value.slice.injEq, true_and, and_true] at he
  obtain ⟨rfl, rfl⟩ := he
  go_wp2_with fail
  refine (c_impl_ImageByte m x _ _ _ (rep_ext hm0 (by repeat (first | exact Below.refl _ _ | assumption | refine Ext.alloc ?_ _ | refine Ext.drew ?_ | refine Ext.drewN ?_ _ | refine Ext.setCell ?_ (by first | omega | (dsimp only; omega) | go_size) _ | refine Ext.trans ?_ (by assumption)))) hI).mono ?_
  rintro e w2 ⟨rfl, hE2⟩
  have kb := (Blk.new w1 32 _).ext hE2
  obtain ⟨f0, f1, f2, f3⟩ := kb.two
  go_wp2_with fail
  refine (c_spec_ImageByte m x _ _ _ (rep_ext hm0 (by repeat (first | exact Below.refl _ _ | assumption | refine Ext.alloc ?_ _ | refine Ext.drew ?_ | refine Ext.drewN ?_ _ | refine Ext.setCell ?_ (by first | omega | (dsimp only; omega) | go_size) _ | refine Ext.trans ?_ (by assumption)))) hI).mono ?_
  rintro e w3 ⟨rfl, hE3⟩
  replace kb := kb.ext hE3
  by_cases hn : imgByte m x < 0
  · have e1 := imgByte_neg hn
    rw [e1]
    clear e1 hn
    obtain ⟨f0, f1, f2, f3⟩ := kb.two
    go_wp2_with (first | (go_at_call 25; refine (c_laws_alive _).mono ?_; rintro e w' ⟨rfl, rfl⟩))
    go_ret
    exact ⟨rfl, (by repeat (first | exact Below.refl _ _ | assumption | refine Ext.alloc ?_ _ | refine Ext.drew ?_ | refine Ext.drewN ?_ _ | refine Ext.setCell ?_ (by first | omega | (dsimp only; omega) | go_size) _ | refine Ext.trans ?_ (by assumption)))⟩
  · obtain ⟨hb, hl1, hl2, hy⟩ := imgByte_pos hn
    have hbb := imgB_iff.1 hb
    have hb2 := baseB_iff.1 hbb.1
    have hb3 := hb2.1
    have hb4 := hb2.2.1
    clear hbb hb2
    obtain ⟨b, off, y, rfl, _, hbl, hyy, ky, hy2⟩ := u8_at_k (hm4.ext (show Ext w1 w3 from (by repeat (first | exact Below.refl _ _ | assumption | refine Ext.alloc ?_ _ | refine Ext.drew ?_ | refine Ext.drewN ?_ _ | refine Ext.setCell ?_ (by first | omega | (dsimp only; omega) | go_size) _ | refine Ext.trans ?_ (by assumption))))) (x - m.base).toNat (by omega)
    rw [hyy.out] at hy
    simp only [Option.getD_some] at hy
    rw [hy]
    clear hy hn
    have hbf := Lib.hid (imgByte_before (m := m))
    have hI2 : I64 (m.base - 1) := ⟨by omega, by omega⟩
    obtain ⟨f0, f1, f2, f3⟩ := kb.two
    go_wp2_with fail
    refine (c_impl_ImageByte m _ _ _ _ (rep_ext hm0 (by repeat (first | exact Below.refl _ _ | assumption | refine Ext.alloc ?_ _ | refine Ext.drew ?_ | refine Ext.drewN ?_ _ | refine Ext.setCell ?_ (by first | omega | (dsimp only; omega) | go_size) _ | refine Ext.trans ?_ (by assumption)))) hI2).mono ?_
    rintro e w4 ⟨rfl, hE4⟩
    rw [hbf.out]
    go_wp2_with fail
    go_ret
    exact ⟨rfl, (by repeat (first | exact Below.refl _ _ | assumption | refine Ext.alloc ?_ _ | refine Ext.drew ?_ | refine Ext.drewN ?_ _ | refine Ext.setCell ?_ (by first | omega | (dsimp only; omega) | go_size) _ | refine Ext.trans ?_ (by assumption)))⟩

theorem own_FnImageByte : ownKnob Try.prog.godebug = none := by kernel_rfl
theorem laidOut_FnImageByte : laidOutB Try.prog = true := by kernel_rfl
set_option maxRecDepth 100000 in
theorem lifted_FnImageByte (os : Os) (started : os.Started) (H : Type) (enc : TypeId × Value → H) :
    ReturnsInHanded {} Try.checked os 9 .any (Rows.fnImageByteSpec.pre6 enc Try.prog Try.f9 Rows.fnImageByteRow.domain false) (Rows.fnImageByteSpec.post enc Try.prog Try.f9 false true false false) := by
  refine returnsInHanded_of_change (C := Try.checked) own_FnImageByte started (by kernel_rfl) Try.func9
    (ChangeSpec.witness6 (enc := enc) (C := Try.checked) false ⟨#[], #[.slice none 0 0], []⟩ 8 (by kernel_rfl) (by kernel_rfl) (by kernel_rfl) (by kernel_rfl)) ?_
  intro W base args ds gs before hval0 hW _ _
  have hval : ∀ (j : Nat) t v, Try.f9.params[j]? = some t → args[j]? = some v → Value.okWide Try.prog W .any base t v := hval0
  have hW' := hW
  obtain ⟨p, q, hA0, hV, rfl, hfz, hnd⟩ := hW
  have hA : DataW.TrodAll enc Try.prog W 0 (fun _ => true) true Try.f9.params.toList args.toList ds p := hA0
  rw [Try.params9] at hA hval
  obtain ⟨v0, vs0, d0, ds0, p0, q0, hargs, rfl, rfl, h0, r0⟩ := trodAll_cons hA
  obtain ⟨rfl, rfl, rfl⟩ := trodAll_nil r0
  obtain rfl : args = #[v0] := by cases args; simp_all
  obtain ⟨rfl, rfl⟩ := trodVars_none hV
  have k0 := h0
  obtain ⟨x0, g0⟩ := open_sl (α := UInt8) Try.underlying27 rs_UInt8 (hval 0 27 v0 rfl rfl) h0
  clear hA0 hval0 hval
  refine (walk_FnImageByte v0 x0 W g0).mono fun e W' ⟨he, bel⟩ => ?_
  subst he
  exact ⟨_, rfl, _, _, _, [], _, [], hW', trodAll_mk1 (shut_bool Try.underlying4 _), (trodAll_cons_mk (Below.trod laidOut_FnImageByte (by kernel_rfl) (of_decide_eq_true (by kernel_rfl)) k0 bel (trod_lt_ k0)) trodAll_mk0), rfl, bel.frame _, fun h => by cases h⟩

theorem over_FnImageByte : Rows.fnImageByteRow.holds Try.pinned (OpenSpec.ofChange Rows.fnImageByteSpec) :=
  OpenClaim.holds_of_wide 9 Try.f9 rfl rfl rfl rfl rfl rfl rfl ⟨rfl, rfl, rfl, rfl, rfl⟩ rfl rfl rfl rfl rfl (by kernel_rfl) Try.func9 (by kernel_rfl)
    (of_decide_eq_true (by kernel_rfl)) (by unfold Func.isWrapper; first | (rw [if_pos (by decide +kernel)]; kernel_rfl) | (rw [if_neg (by decide +kernel)]; exact ⟨rfl, rfl⟩))
    (fun os started H enc _ => lifted_FnImageByte os started H enc)

theorem proved_FnImageByte : Rows.FnImageByteSaid := over_FnImageByte
#print axioms proved_FnImageByte
end Go.Proofs.Ythdekdghhppkgaa
