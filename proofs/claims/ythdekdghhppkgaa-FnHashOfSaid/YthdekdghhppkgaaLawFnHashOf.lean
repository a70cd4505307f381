/- FnHashOf: for every code the law on HashOf returns true: with a byte more the number is 33 times itself plus the byte. No condition. -/
import Derived.Test.YthdekdghhppkgaaReadT
import Derived.Test.YthdekdghhppkgaaHash
import Derived.Test.YthdekdghhppkgaaDraw2
namespace Go.Proofs.Ythdekdghhppkgaa
open Go.RowKit Go.ChangeShapes Go.WideShapes Go.ChangeAt
open Mem (rep own)

theorem c_DrawHashOf (code : List UInt8) (F : Nat → Prop) (v : Value) (w : World) (h : rep w F [v] code) :
    Calls Try.prog 24 #[v] w fun e w' => ∃ s : ByteArray, e = .returned (.string s) ∧ s.size ≤ 18 ∧ Ext w w' := by
  obtain ⟨A, c, hv, _⟩ := rep_list h
  simp only [List.cons.injEq, and_true] at hv
  subst hv
  go_enter Try.func24, Try.ntmps24
  go_wp2_with fail
  refine (c_open code F _ _ _ _ h).mono ?_
  rintro e w1 ⟨r, rfl, hr, hR1, hE1⟩
  go_wp2_with fail
  refine (c_name r 0 _ _ hR1 (by omega) (by omega) (by omega)).mono ?_
  rintro e w2 ⟨s1, q1, rfl, hs1, hq1a, hq1b, hR2, hE2⟩
  go_wp2_with fail
  refine (c_name r q1 _ _ hR2 (by omega) (by omega) (by omega)).mono ?_
  rintro e w3 ⟨s2, q2, rfl, hs2, hq2a, hq2b, hR3, hE3⟩
  go_wp2_with fail
  go_ret
  refine ⟨_, rfl, ?_, (hE1.ofR hE2 hr).ofR hE3 hr⟩
  simp [ByteArray.size_append]
  omega

theorem hash_a (s : ByteArray) : hashL (s ++ (⟨#[97]⟩ : ByteArray)).data.toList = (33 * hashL s.data.toList + 97) % 1000003 := by
  rw [show (s ++ (⟨#[97]⟩ : ByteArray)).data.toList = s.data.toList ++ [97] by simp, hashL_snoc]
  rfl

theorem walk_FnHashOf (v : Value) (code : List UInt8) (w : World) (h : rep w (fun b => b < w.heap.size) [v] code) :
    Calls Try.prog 6 #[v] w fun e w' => e = .returned (.bool true) ∧ Ext w w' := by
  obtain ⟨A, c, hv, h1, h2, h3⟩ := rep_list h
  simp only [List.cons.injEq, and_true] at hv
  subst hv
  by_cases g : code.length ≤ 1048576
  · go_enter Try.func6, Try.ntmps6
    go_wp2_with fail
    refine (c_DrawHashOf code _ _ _ h).mono ?_
    rintro e w1 ⟨s, rfl, hs, hE1⟩
    have hb := hashL_bd s.data.toList
    go_wp2_with fail
    refine (c_impl_HashOf s _ (by omega)).mono ?_
    rintro e w2 ⟨rfl, rfl⟩
    go_wp2_with fail
    refine (c_spec_HashOf s _ (by omega)).mono ?_
    rintro e w2 ⟨rfl, rfl⟩
    have hss : (s ++ (⟨#[97]⟩ : ByteArray)).size ≤ 9223372036854775807 := by
      have h1 : (⟨#[97]⟩ : ByteArray).size = 1 := rfl
      rw [ByteArray.size_append, h1]; omega
    have hc := hash_a s
    go_wp2_with fail
    refine (c_impl_HashOf _ _ hss).mono ?_
    rintro e w2 ⟨rfl, rfl⟩
    rw [hc]
    clear hc
    go_wp2_with (first | (go_at_call 25; refine (c_laws_alive _).mono ?_; rintro e w' ⟨rfl, rfl⟩))
    go_ret
    exact ⟨rfl, hE1⟩
  · go_enter Try.func6, Try.ntmps6
    go_wp2_with fail
    go_ret
    exact ⟨rfl, (by repeat (first | exact Below.refl _ _ | assumption | refine Ext.alloc ?_ _ | refine Ext.drew ?_ | refine Ext.drewN ?_ _ | refine Ext.setCell ?_ (by first | omega | (dsimp only; omega) | go_size) _ | refine Ext.trans ?_ (by assumption)))⟩

theorem own_FnHashOf : ownKnob Try.prog.godebug = none := by kernel_rfl
theorem laidOut_FnHashOf : laidOutB Try.prog = true := by kernel_rfl
set_option maxRecDepth 100000 in
theorem lifted_FnHashOf (os : Os) (started : os.Started) (H : Type) (enc : TypeId × Value → H) :
    ReturnsInHanded {} Try.checked os 6 .any (Rows.fnHashOfSpec.pre6 enc Try.prog Try.f6 Rows.fnHashOfRow.domain false) (Rows.fnHashOfSpec.post enc Try.prog Try.f6 false true false false) := by
  refine returnsInHanded_of_change (C := Try.checked) own_FnHashOf started (by kernel_rfl) Try.func6
    (ChangeSpec.witness6 (enc := enc) (C := Try.checked) false ⟨#[], #[.slice none 0 0], []⟩ 8 (by kernel_rfl) (by kernel_rfl) (by kernel_rfl) (by kernel_rfl)) ?_
  intro W base args ds gs before hval0 hW _ _
  have hval : ∀ (j : Nat) t v, Try.f6.params[j]? = some t → args[j]? = some v → Value.okWide Try.prog W .any base t v := hval0
  have hW' := hW
  obtain ⟨p, q, hA0, hV, rfl, hfz, hnd⟩ := hW
  have hA : DataW.TrodAll enc Try.prog W 0 (fun _ => true) true Try.f6.params.toList args.toList ds p := hA0
  rw [Try.params6] at hA hval
  obtain ⟨v0, vs0, d0, ds0, p0, q0, hargs, rfl, rfl, h0, r0⟩ := trodAll_cons hA
  obtain ⟨rfl, rfl, rfl⟩ := trodAll_nil r0
  obtain rfl : args = #[v0] := by cases args; simp_all
  obtain ⟨rfl, rfl⟩ := trodVars_none hV
  have k0 := h0
  obtain ⟨x0, g0⟩ := open_sl (α := UInt8) Try.underlying27 rs_UInt8 (hval 0 27 v0 rfl rfl) h0
  clear hA0 hval0 hval
  refine (walk_FnHashOf v0 x0 W g0).mono fun e W' ⟨he, bel⟩ => ?_
  subst he
  exact ⟨_, rfl, _, _, _, [], _, [], hW', trodAll_mk1 (shut_bool Try.underlying4 _), (trodAll_cons_mk (Below.trod laidOut_FnHashOf (by kernel_rfl) (of_decide_eq_true (by kernel_rfl)) k0 bel (trod_lt_ k0)) trodAll_mk0), rfl, bel.frame _, fun h => by cases h⟩

theorem over_FnHashOf : Rows.fnHashOfRow.holds Try.pinned (OpenSpec.ofChange Rows.fnHashOfSpec) :=
  OpenClaim.holds_of_wide 6 Try.f6 rfl rfl rfl rfl rfl rfl rfl ⟨rfl, rfl, rfl, rfl, rfl⟩ rfl rfl rfl rfl rfl (by kernel_rfl) Try.func6 (by kernel_rfl)
    (of_decide_eq_true (by kernel_rfl)) (by unfold Func.isWrapper; first | (rw [if_pos (by decide +kernel)]; kernel_rfl) | (rw [if_neg (by decide +kernel)]; exact ⟨rfl, rfl⟩))
    (fun os started H enc _ => lifted_FnHashOf os started H enc)

theorem proved_FnHashOf : Rows.FnHashOfSaid := over_FnHashOf
#print axioms proved_FnHashOf
end Go.Proofs.Ythdekdghhppkgaa
