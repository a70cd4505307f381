/- FnImageValid: for every code the law on ImageValid returns true: images begin at multiples of 8. No condition. -/
import Derived.Test.YthdekdghhppkgaaReadT
import Derived.Test.YthdekdghhppkgaaImg
import Derived.Test.YthdekdghhppkgaaDraw3
namespace Go.Proofs.Ythdekdghhppkgaa
open Go.RowKit Go.ChangeShapes Go.WideShapes Go.ChangeAt
open Mem (rep own)

theorem c_DrawImageValid (code : List UInt8) (F : Nat → Prop) (v : Value) (w : World) (h : rep w F [v] code) :
    Calls Try.prog 26 #[v] w fun e w' => ∃ (m : Img) (A : Option Addr) (c : Nat), e = .returned (.agg #[.int .i64 m.base, .slice A m.bytes.length c]) ∧ rep w' (fun b => w.heap.size ≤ b) [.int .i64 m.base, .slice A m.bytes.length c] m ∧ m.bytes.length ≤ 2001 ∧ Ext w w' := by
  obtain ⟨A, c, hv, _⟩ := rep_list h
  simp only [List.cons.injEq, and_true] at hv
  subst hv
  go_enter Try.func26, Try.ntmps26
  go_wp2_with fail
  refine (c_open code F _ _ _ _ (rep_ext h (by repeat (first | exact Below.refl _ _ | assumption | refine Ext.alloc ?_ _ | refine Ext.drew ?_ | refine Ext.drewN ?_ _ | refine Ext.setCell ?_ (by first | omega | (dsimp only; omega) | go_size) _ | refine Ext.trans ?_ (by assumption))))).mono ?_
  rintro e w1 ⟨r, rfl, hr, hR1, hE1⟩
  have hlt1 := hR1.lt
  have kr := (Blk.new w 32 _).ext hE1
  simp at hr
  go_wp2_with fail
  refine (c_image r 0 3 _ hR1 (by omega) (by omega) (by omega)).mono ?_
  rintro e w2 ⟨m, A1, c1, q1, rfl, hnew, hm1, hm2, hm3, hq1a, hq1b, hR2, hE2⟩
  replace kr := kr.extR hE2 (by omega)
  have hn := hnew.seal_
  have kz := hE2.size
  have kz1 := hE1.size
  simp at kz1
  clear hnew
  have hE : Ext w w2 := Ext.ofR (Ext.trans (by repeat (first | exact Below.refl _ _ | assumption | refine Ext.alloc ?_ _ | refine Ext.drew ?_ | refine Ext.drewN ?_ _ | refine Ext.setCell ?_ (by first | omega | (dsimp only; omega) | go_size) _ | refine Ext.trans ?_ (by assumption))) hE1) hE2 (by omega)
  obtain ⟨f0, f1, f2, f3⟩ := kr.two
  go_wp2_with fail
  refine bodyPost_ret (v := .agg #[.int .i64 m.base, .slice A1 m.bytes.length c1]) (by simp only [results, Try.results26]; go_simp) rfl ?_
  exact ⟨m, A1, c1, rfl, (NewI.new (lo := w1.heap.size) (hi := w2.heap.size) (lo' := w.heap.size) (by repeat (first | assumption | refine NewI.setCell ?_ (by first | (left; dsimp only; omega) | (right; dsimp only; omega) | (left; go_size) | (right; go_size)) _ | refine NewI.alloc ?_ _ | refine NewI.drewN ?_ _ | refine NewI.ext ?_ (by assumption))) (by omega)).rep_, hm3, (by repeat (first | exact Below.refl _ _ | assumption | refine Ext.alloc ?_ _ | refine Ext.drew ?_ | refine Ext.drewN ?_ _ | refine Ext.setCell ?_ (by first | omega | (dsimp only; omega) | go_size) _ | refine Ext.trans ?_ (by assumption)))⟩

theorem imgB_4 (l : List UInt8) : imgB ⟨4, l⟩ = false := by simp [imgB, baseB]
theorem imgB_8 {m : Img} (h : imgB m = true) : imgB ⟨8, m.bytes⟩ = true := by
  have := imgB_iff.1 h
  simp [imgB, baseB, inB, this.2]

set_option maxHeartbeats 1000000 in
theorem walk_FnImageValid (v : Value) (code : List UInt8) (w : World) (h : rep w (fun b => b < w.heap.size) [v] code) :
    Calls Try.prog 7 #[v] w fun e w' => e = .returned (.bool true) ∧ Ext w w' := by
  obtain ⟨A, c, hv, h1, h2, h3⟩ := rep_list h
  simp only [List.cons.injEq, and_true] at hv
  subst hv
  by_cases g : code.length ≤ 1048576
  · go_enter Try.func7, Try.ntmps7
    go_wp2_with fail
    refine (c_DrawImageValid code _ _ _ h).mono ?_
    rintro e w1 ⟨m, A1, c1, rfl, hm, hml, hE1⟩
    have hm0 := hm
    obtain ⟨_, _, he, hm1, hm2, hm3, hm4⟩ := Img.open_ hm
    simp only [List.cons.injEq, Value.slice.injEq, true_and, and_true] at he
    obtain ⟨rfl, rfl⟩ := he
    have h4 := imgB_4 m.bytes
    have r4 : rep w1 (fun b => w.heap.size ≤ b) [.int .i64 4, .slice A1 m.bytes.length c1] (⟨4, m.bytes⟩ : Img) := Img.mk_ (m := ⟨4, m.bytes⟩) (show I64 4 from ⟨by decide, by decide⟩) hm2 hm3 hm4
    have r8 : rep w1 (fun b => w.heap.size ≤ b) [.int .i64 8, .slice A1 m.bytes.length c1] (⟨8, m.bytes⟩ : Img) := Img.mk_ (m := ⟨8, m.bytes⟩) (show I64 8 from ⟨by decide, by decide⟩) hm2 hm3 hm4
    go_wp2_with fail
    refine (c_impl_ImageValid m _ _ _ (rep_ext hm0 (by repeat (first | exact Below.refl _ _ | assumption | refine Ext.alloc ?_ _ | refine Ext.drew ?_ | refine Ext.drewN ?_ _ | refine Ext.setCell ?_ (by first | omega | (dsimp only; omega) | go_size) _ | refine Ext.trans ?_ (by assumption))))).mono ?_
    rintro e w2 ⟨rfl, hE2⟩
    have kb := (Blk.new w1 32 _).ext hE2
    obtain ⟨f0, f1, f2, f3⟩ := kb.two
    go_wp2_with fail
    refine (c_spec_ImageValid m _ _ _ (rep_ext hm0 (by repeat (first | exact Below.refl _ _ | assumption | refine Ext.alloc ?_ _ | refine Ext.drew ?_ | refine Ext.drewN ?_ _ | refine Ext.setCell ?_ (by first | omega | (dsimp only; omega) | go_size) _ | refine Ext.trans ?_ (by assumption))))).mono ?_
    rintro e w3 ⟨rfl, hE3⟩
    replace kb := kb.ext hE3
    obtain ⟨f0, f1, f2, f3⟩ := kb.two
    go_wp2_with fail
    refine (c_impl_ImageValid ⟨4, m.bytes⟩ _ _ _ (rep_ext r4 (by repeat (first | exact Below.refl _ _ | assumption | refine Ext.alloc ?_ _ | refine Ext.drew ?_ | refine Ext.drewN ?_ _ | refine Ext.setCell ?_ (by first | omega | (dsimp only; omega) | go_size) _ | refine Ext.trans ?_ (by assumption))))).mono ?_
    rintro e w4 ⟨rfl, hE4⟩
    replace kb := kb.ext hE4
    rw [h4]
    clear h4
    by_cases g1 : imgB m = true
    · have h8 := imgB_8 g1
      obtain ⟨f0, f1, f2, f3⟩ := kb.two
      go_wp2_with fail
      refine (c_impl_ImageValid ⟨8, m.bytes⟩ _ _ _ (rep_ext r8 (by repeat (first | exact Below.refl _ _ | assumption | refine Ext.alloc ?_ _ | refine Ext.drew ?_ | refine Ext.drewN ?_ _ | refine Ext.setCell ?_ (by first | omega | (dsimp only; omega) | go_size) _ | refine Ext.trans ?_ (by assumption))))).mono ?_
      rintro e w5 ⟨rfl, hE5⟩
      rw [h8]
      clear h8
      go_wp2_with (first | (go_at_call 25; refine (c_laws_alive _).mono ?_; rintro e w' ⟨rfl, rfl⟩))
      go_ret
      exact ⟨rfl, (by repeat (first | exact Below.refl _ _ | assumption | refine Ext.alloc ?_ _ | refine Ext.drew ?_ | refine Ext.drewN ?_ _ | refine Ext.setCell ?_ (by first | omega | (dsimp only; omega) | go_size) _ | refine Ext.trans ?_ (by assumption)))⟩
    · go_wp2_with (first | (go_at_call 25; refine (c_laws_alive _).mono ?_; rintro e w' ⟨rfl, rfl⟩))
      go_ret
      exact ⟨rfl, (by repeat (first | exact Below.refl _ _ | assumption | refine Ext.alloc ?_ _ | refine Ext.drew ?_ | refine Ext.drewN ?_ _ | refine Ext.setCell ?_ (by first | omega | (dsimp only; omega) | go_size) _ | refine Ext.trans ?_ (by assumption)))⟩
  · go_enter Try.func7, Try.ntmps7
    go_wp2_with fail
    go_ret
    exact ⟨rfl, (by repeat (first | exact Below.refl _ _ | assumption | refine Ext.alloc ?_ _ | refine Ext.drew ?_ | refine Ext.drewN ?_ _ | refine Ext.setCell ?_ (by first | omega | (dsimp only; omega) | go_size) _ | refine Ext.trans ?_ (by assumption)))⟩

theorem own_FnImageValid : ownKnob Try.prog.godebug = none := by kernel_rfl
theorem laidOut_FnImageValid : laidOutB Try.prog = true := by kernel_rfl
set_option maxRecDepth 100000 in
theorem lifted_FnImageValid (os : Os) (started : os.Started) (H : Type) (enc : TypeId × Value → H) :
    ReturnsInHanded {} Try.checked os 7 .any (Rows.fnImageValidSpec.pre6 enc Try.prog Try.f7 Rows.fnImageValidRow.domain false) (Rows.fnImageValidSpec.post enc Try.prog Try.f7 false true false false) := by
  refine returnsInHanded_of_change (C := Try.checked) own_FnImageValid started (by kernel_rfl) Try.func7
    (ChangeSpec.witness6 (enc := enc) (C := Try.checked) false ⟨#[], #[.slice none 0 0], []⟩ 8 (by kernel_rfl) (by kernel_rfl) (by kernel_rfl) (by kernel_rfl)) ?_
  intro W base args ds gs before hval0 hW _ _
  have hval : ∀ (j : Nat) t v, Try.f7.params[j]? = some t → args[j]? = some v → Value.okWide Try.prog W .any base t v := hval0
  have hW' := hW
  obtain ⟨p, q, hA0, hV, rfl, hfz, hnd⟩ := hW
  have hA : DataW.TrodAll enc Try.prog W 0 (fun _ => true) true Try.f7.params.toList args.toList ds p := hA0
  rw [Try.params7] at hA hval
  obtain ⟨v0, vs0, d0, ds0, p0, q0, hargs, rfl, rfl, h0, r0⟩ := trodAll_cons hA
  obtain ⟨rfl, rfl, rfl⟩ := trodAll_nil r0
  obtain rfl : args = #[v0] := by cases args; simp_all
  obtain ⟨rfl, rfl⟩ := trodVars_none hV
  have k0 := h0
  obtain ⟨x0, g0⟩ := open_sl (α := UInt8) Try.underlying27 rs_UInt8 (hval 0 27 v0 rfl rfl) h0
  clear hA0 hval0 hval
  refine (walk_FnImageValid v0 x0 W g0).mono fun e W' ⟨he, bel⟩ => ?_
  subst he
  exact ⟨_, rfl, _, _, _, [], _, [], hW', trodAll_mk1 (shut_bool Try.underlying4 _), (trodAll_cons_mk (Below.trod laidOut_FnImageValid (by kernel_rfl) (of_decide_eq_true (by kernel_rfl)) k0 bel (trod_lt_ k0)) trodAll_mk0), rfl, bel.frame _, fun h => by cases h⟩

theorem over_FnImageValid : Rows.fnImageValidRow.holds Try.pinned (OpenSpec.ofChange Rows.fnImageValidSpec) :=
  OpenClaim.holds_of_wide 7 Try.f7 rfl rfl rfl rfl rfl rfl rfl ⟨rfl, rfl, rfl, rfl, rfl⟩ rfl rfl rfl rfl rfl (by kernel_rfl) Try.func7 (by kernel_rfl)
    (of_decide_eq_true (by kernel_rfl)) (by unfold Func.isWrapper; first | (rw [if_pos (by decide +kernel)]; kernel_rfl) | (rw [if_neg (by decide +kernel)]; exact ⟨rfl, rfl⟩))
    (fun os started H enc _ => lifted_FnImageValid os started H enc)

theorem proved_FnImageValid : Rows.FnImageValidSaid := over_FnImageValid
#print axioms proved_FnImageValid
end Go.Proofs.Ythdekdghhppkgaa
