/- Patches: what is valid, in both packages. -/
import Derived.Test.YthdekdghhppkgaaImg
import Derived.Test.YthdekdghhppkgaaDraw2
namespace Go.Proofs.Ythdekdghhppkgaa
open Go.RowKit
open Mem (rep own)

/-- Are the patches from a place on, before an end, apart? -/
def patF (end_ : Int) : Int → List Patch → Bool
  | _, [] => true
  | at_, p :: l => decide (0 < p.bytes.length) && inB p.at_ at_ (end_ - p.bytes.length) && patF end_ (p.at_ + p.bytes.length + 1) l
def patB (m : Img) (l : List Patch) : Bool := imgB m && decide (l.length ≤ 1000) && patF (m.base + m.bytes.length) m.base l

set_option maxHeartbeats 1000000 in
theorem c_impl_PatchesValid (m : Img) (l : List Patch) (F G : Nat → Prop) (cs : List Value) (v : Value) (w : World) (hm : rep w F cs m) (hl : rep w G [v] l) :
    Calls Try.prog 31 #[.agg cs.toArray, v] w fun e w' => e = .returned (.bool (patB m l)) ∧ Ext w w' := by
  have hm0 := hm
  obtain ⟨A, c, rfl, hm1, hm2, hm3, hm4⟩ := Img.open_ hm
  obtain ⟨L, lc, hv, hl1, hl2, hl3⟩ := rep_list hl
  simp only [List.cons.injEq, and_true] at hv
  subst hv
  clear hl hm
  by_cases h1 : imgB m = true
  rotate_left
  · go_enter Try.func31, Try.ntmps31
    go_wp2_with (go_at_call 22; refine (c_impl_ImageValid m F _ _ (rep_ext hm0 (by repeat (first | exact Below.refl _ _ | assumption | refine Ext.alloc ?_ _ | refine Ext.drew ?_ | refine Ext.drewN ?_ _ | refine Ext.setCell ?_ (by first | omega | (dsimp only; omega) | go_size) _ | refine Ext.trans ?_ (by assumption))))).mono ?_; rintro e w1 ⟨rfl, hb1⟩)
    go_ret
    exact ⟨ret_bool (by simp [patB, h1]), (by repeat (first | exact Below.refl _ _ | assumption | refine Ext.alloc ?_ _ | refine Ext.drew ?_ | refine Ext.drewN ?_ _ | refine Ext.setCell ?_ (by first | omega | (dsimp only; omega) | go_size) _ | refine Ext.trans ?_ (by assumption)))⟩
  by_cases h2 : l.length ≤ 1000
  rotate_left
  · go_enter Try.func31, Try.ntmps31
    go_wp2_with (go_at_call 22; refine (c_impl_ImageValid m F _ _ (rep_ext hm0 (by repeat (first | exact Below.refl _ _ | assumption | refine Ext.alloc ?_ _ | refine Ext.drew ?_ | refine Ext.drewN ?_ _ | refine Ext.setCell ?_ (by first | omega | (dsimp only; omega) | go_size) _ | refine Ext.trans ?_ (by assumption))))).mono ?_; rintro e w1 ⟨rfl, hb1⟩)
    go_ret
    exact ⟨ret_bool (by simp [patB, h1, h2]), (by repeat (first | exact Below.refl _ _ | assumption | refine Ext.alloc ?_ _ | refine Ext.drew ?_ | refine Ext.drewN ?_ _ | refine Ext.setCell ?_ (by first | omega | (dsimp only; omega) | go_size) _ | refine Ext.trans ?_ (by assumption)))⟩
  have hb := imgB_iff.1 h1
  have hbb := baseB_iff.1 hb.1
  have b0 := hbb.1
  have b1 := hbb.2.1
  have b2 := hb.2
  clear hb hbb
  go_enter Try.func31, Try.ntmps31
  go_wp2_with (go_at_call 22; refine (c_impl_ImageValid m F _ _ (rep_ext hm0 (by repeat (first | exact Below.refl _ _ | assumption | refine Ext.alloc ?_ _ | refine Ext.drew ?_ | refine Ext.drewN ?_ _ | refine Ext.setCell ?_ (by first | omega | (dsimp only; omega) | go_size) _ | refine Ext.trans ?_ (by assumption))))).mono ?_; rintro e w1 ⟨rfl, hb1⟩)
  have kb := (Blk.new w 32 _).ext hb1
  obtain ⟨f0, f1, f2, f3⟩ := kb.two
  have hM := Lib.hid h1
  clear h1
  go_wp2_with fail
  have ee : IntKind.i64.wrap (m.base + m.bytes.length) = m.base + m.bytes.length := IntWalk.i64_in _ (by omega)
  go_quiet (fail)
  clear ee
  go_wp2
  have hE1 : Ext w (w1.drewN nq) := (by repeat (first | exact Below.refl _ _ | assumption | refine Ext.alloc ?_ _ | refine Ext.drew ?_ | refine Ext.drewN ?_ _ | refine Ext.setCell ?_ (by first | omega | (dsimp only; omega) | go_size) _ | refine Ext.trans ?_ (by assumption)))
  have hL := hl3.ext hE1
  clear f0 f1 f2 f3 kb hb1
  generalize w1.drewN nq = W at *
  go_loopw [5, 27] (fun a i wr => ∃ (k : Nat) (at_ : Int), k ≤ l.length ∧ i = .int .i64 k ∧ a = .int .i64 at_ ∧ 0 ≤ at_ ∧ at_ ≤ m.base + m.bytes.length + 1 ∧ Hid (patF (m.base + m.bytes.length) m.base l = patF (m.base + m.bytes.length) at_ (l.drop k)) ∧ Ext W wr) (fun _ i _ => l.length - (intOf i).toNat)
  case atStart => exact ⟨0, m.base, Nat.zero_le _, rfl, rfl, by omega, by omega, rfl, Below.refl _ _⟩
  case round =>
    obtain ⟨k, at_, hk, rfl, rfl, ha1, ha2, ha3, hwr⟩ := hrel
    by_cases hlt : k < l.length
    · obtain ⟨b, off, p, A', c', rfl, _, hbl, hp, k0, k1, hp1, hp2, hp3, hp4, hp5⟩ := Patch.at_k (hL.ext hwr) k hlt
      have hd := Lib.hid (drop_of hp)
      by_cases g1 : p.bytes.length = 0
      · have e1 : ((p.bytes.length : Int) == 0) = true := by simp [g1]
        clear g1
        go_wp2_with fail
        go_ret
        refine ⟨ret_bool ?_, (by repeat (first | exact Below.refl _ _ | assumption | refine Ext.alloc ?_ _ | refine Ext.drew ?_ | refine Ext.drewN ?_ _ | refine Ext.setCell ?_ (by first | omega | (dsimp only; omega) | go_size) _ | refine Ext.trans ?_ (by assumption)))⟩
        simp at e1
        simp [patB, hM.out, h2, ha3.out, hd.out, patF, e1]
      have e1 : ((p.bytes.length : Int) == 0) = false := by simpa using g1
      obtain ⟨q1, q2⟩ := hp1
      by_cases g2 : inB p.at_ at_ (m.base + m.bytes.length - p.bytes.length) = true
      · have g3 := inB_iff.1 g2
        have hst := Lib.hid (show patF (m.base + m.bytes.length) m.base l = patF (m.base + m.bytes.length) (p.at_ + p.bytes.length + 1) (l.drop (k + 1)) by rw [ha3.out, hd.out]; simp [patF, g2]; omega)
        go_wp2_with (first | (go_at_call 49; refine (c_impl_within _ _ _ _).mono ?_; rintro e w' ⟨rfl, rfl⟩))
        go_roundw
        case rel => exact ⟨k + 1, _, by omega, by go_num, rfl, by omega, by omega, hst, (by repeat (first | exact Below.refl _ _ | assumption | refine Ext.alloc ?_ _ | refine Ext.drew ?_ | refine Ext.drewN ?_ _ | refine Ext.setCell ?_ (by first | omega | (dsimp only; omega) | go_size) _ | refine Ext.trans ?_ (by assumption)))⟩
        case measure => simp [intOf]; omega
      · go_wp2_with (first | (go_at_call 49; refine (c_impl_within _ _ _ _).mono ?_; rintro e w' ⟨rfl, rfl⟩))
        go_ret
        refine ⟨ret_bool ?_, (by repeat (first | exact Below.refl _ _ | assumption | refine Ext.alloc ?_ _ | refine Ext.drew ?_ | refine Ext.drewN ?_ _ | refine Ext.setCell ?_ (by first | omega | (dsimp only; omega) | go_size) _ | refine Ext.trans ?_ (by assumption)))⟩
        simp [patB, hM.out, h2, ha3.out, hd.out, patF, g2]
    · go_wp2_with fail
      go_ret
      refine ⟨ret_bool ?_, (by repeat (first | exact Below.refl _ _ | assumption | refine Ext.alloc ?_ _ | refine Ext.drew ?_ | refine Ext.drewN ?_ _ | refine Ext.setCell ?_ (by first | omega | (dsimp only; omega) | go_size) _ | refine Ext.trans ?_ (by assumption)))⟩
      simp [patB, hM.out, h2, ha3.out, drop_all hlt, patF]

set_option maxHeartbeats 1000000 in
theorem c_spec_PatchesValid (m : Img) (l : List Patch) (F G : Nat → Prop) (cs : List Value) (v : Value) (w : World) (hm : rep w F cs m) (hl : rep w G [v] l) :
    Calls Try.prog 32 #[.agg cs.toArray, v] w fun e w' => e = .returned (.bool (patB m l)) ∧ Ext w w' := by
  have hm0 := hm
  obtain ⟨A, c, rfl, hm1, hm2, hm3, hm4⟩ := Img.open_ hm
  obtain ⟨L, lc, hv, hl1, hl2, hl3⟩ := rep_list hl
  simp only [List.cons.injEq, and_true] at hv
  subst hv
  clear hl hm
  by_cases h1 : imgB m = true
  rotate_left
  · have hP := Lib.hid (show patB m l = false by simp [patB, h1])
    have k0 : (w.alloc (.cells #[.int .i64 m.base, .slice A m.bytes.length c] 32)).cell? ⟨w.heap.size, 0, none⟩ = some (.int .i64 m.base) := by simp
    have k1 : (w.alloc (.cells #[.int .i64 m.base, .slice A m.bytes.length c] 32)).cell? ⟨w.heap.size, 1, none⟩ = some (.slice A m.bytes.length c) := by simp
    have hE0 : Ext w (w.alloc (.cells #[.int .i64 m.base, .slice A m.bytes.length c] 32)) := (by repeat (first | exact Below.refl _ _ | assumption | refine Ext.alloc ?_ _ | refine Ext.drew ?_ | refine Ext.drewN ?_ _ | refine Ext.setCell ?_ (by first | omega | (dsimp only; omega) | go_size) _ | refine Ext.trans ?_ (by assumption)))
    have hz0 : w.heap.size < (w.alloc (.cells #[.int .i64 m.base, .slice A m.bytes.length c] 32)).heap.size := by simp
    go_enter Try.func32, Try.ntmps32
    go_wp2_with fail
    generalize w.alloc (.cells #[.int .i64 m.base, .slice A m.bytes.length c] 32) = W at *
    go_loopw [5, 6] (fun a i wr => ∃ (k : Nat) (at_ : Int), k ≤ l.length ∧ i = .int .i64 k ∧ a = .int .i64 at_ ∧ Ext W wr) (fun _ i _ => l.length - (intOf i).toNat)
    case atStart => exact ⟨0, m.base, Nat.zero_le _, rfl, rfl, Below.refl _ _⟩
    case round =>
      obtain ⟨k, at_, hk, rfl, rfl, hwr⟩ := hrel
      have k0' := cell_ext hwr k0
      have k1' := cell_ext hwr k1
      have hz' := lt_ext hwr hz0
      by_cases hlt : k < l.length
      · obtain ⟨b, off, p, A', c', rfl, _, hbl, hp, q0, q1, hp1, hp2, hp3, hp4, hp5⟩ := Patch.at_k ((hl3.ext hE0).ext hwr) k hlt
        go_wp2_with fail
        all_goals (first
          | (go_ret; exact ⟨ret_bool hP.out.symm, (by repeat (first | exact Below.refl _ _ | assumption | refine Ext.alloc ?_ _ | refine Ext.drew ?_ | refine Ext.drewN ?_ _ | refine Ext.setCell ?_ (by first | omega | (dsimp only; omega) | go_size) _ | refine Ext.trans ?_ (by assumption)))⟩)
          | (go_roundw; (case rel => exact ⟨k + 1, _, by omega, by go_num, rfl, (by repeat (first | exact Below.refl _ _ | assumption | refine Ext.alloc ?_ _ | refine Ext.drew ?_ | refine Ext.drewN ?_ _ | refine Ext.setCell ?_ (by first | omega | (dsimp only; omega) | go_size) _ | refine Ext.trans ?_ (by assumption)))⟩); (case measure => simp [intOf]; omega)))
      · go_wp2_with (go_at_call 20; refine (c_spec_ImageValid m F _ _ (rep_ext hm0 (by repeat (first | exact Below.refl _ _ | assumption | refine Ext.alloc ?_ _ | refine Ext.drew ?_ | refine Ext.drewN ?_ _ | refine Ext.setCell ?_ (by first | omega | (dsimp only; omega) | go_size) _ | refine Ext.trans ?_ (by assumption))))).mono ?_; rintro e w1 ⟨rfl, hb1⟩)
        go_ret
        exact ⟨ret_bool hP.out.symm, (by repeat (first | exact Below.refl _ _ | assumption | refine Ext.alloc ?_ _ | refine Ext.drew ?_ | refine Ext.drewN ?_ _ | refine Ext.setCell ?_ (by first | omega | (dsimp only; omega) | go_size) _ | refine Ext.trans ?_ (by assumption)))⟩
  have hb := imgB_iff.1 h1
  have hbb := baseB_iff.1 hb.1
  have b0 := hbb.1
  have b1 := hbb.2.1
  have b2 := hb.2
  clear hb hbb
  have k0 : (w.alloc (.cells #[.int .i64 m.base, .slice A m.bytes.length c] 32)).cell? ⟨w.heap.size, 0, none⟩ = some (.int .i64 m.base) := by simp
  have k1 : (w.alloc (.cells #[.int .i64 m.base, .slice A m.bytes.length c] 32)).cell? ⟨w.heap.size, 1, none⟩ = some (.slice A m.bytes.length c) := by simp
  have hE0 : Ext w (w.alloc (.cells #[.int .i64 m.base, .slice A m.bytes.length c] 32)) := (by repeat (first | exact Below.refl _ _ | assumption | refine Ext.alloc ?_ _ | refine Ext.drew ?_ | refine Ext.drewN ?_ _ | refine Ext.setCell ?_ (by first | omega | (dsimp only; omega) | go_size) _ | refine Ext.trans ?_ (by assumption)))
  have hz0 : w.heap.size < (w.alloc (.cells #[.int .i64 m.base, .slice A m.bytes.length c] 32)).heap.size := by simp
  go_enter Try.func32, Try.ntmps32
  go_wp2_with fail
  generalize w.alloc (.cells #[.int .i64 m.base, .slice A m.bytes.length c] 32) = W at *
  go_loopw [5, 6] (fun a i wr => ∃ (k : Nat) (at_ : Int), k ≤ l.length ∧ i = .int .i64 k ∧ a = .int .i64 at_ ∧ 0 ≤ at_ ∧ at_ ≤ m.base + m.bytes.length + 1 ∧ Hid (patF (m.base + m.bytes.length) m.base l = patF (m.base + m.bytes.length) at_ (l.drop k)) ∧ Ext W wr) (fun _ i _ => l.length - (intOf i).toNat)
  case atStart => exact ⟨0, m.base, Nat.zero_le _, rfl, rfl, by omega, by omega, rfl, Below.refl _ _⟩
  case round =>
    obtain ⟨k, at_, hk, rfl, rfl, ha1, ha2, ha3, hwr⟩ := hrel
    have k0' := cell_ext hwr k0
    have k1' := cell_ext hwr k1
    have hz' := lt_ext hwr hz0
    have hH := Lib.hid h1
    clear h1
    by_cases hlt : k < l.length
    · obtain ⟨b, off, p, A', c', rfl, _, hbl, hp, q0, q1, hp1, hp2, hp3, hp4, hp5⟩ := Patch.at_k ((hl3.ext hE0).ext hwr) k hlt
      have hd := Lib.hid (drop_of hp)
      obtain ⟨r1, r2⟩ := hp1
      by_cases g0 : p.at_ < at_
      · have g2 := inB_not.2 (show ¬ (at_ ≤ p.at_ ∧ p.at_ ≤ m.base + m.bytes.length - p.bytes.length) by omega)
        go_wp2_with fail
        go_ret
        refine ⟨ret_bool ?_, (by repeat (first | exact Below.refl _ _ | assumption | refine Ext.alloc ?_ _ | refine Ext.drew ?_ | refine Ext.drewN ?_ _ | refine Ext.setCell ?_ (by first | omega | (dsimp only; omega) | go_size) _ | refine Ext.trans ?_ (by assumption)))⟩
        simp [patB, ha3.out, hd.out, patF, g2]
      by_cases g1 : p.bytes.length = 0
      · have e1 : ((p.bytes.length : Int) == 0) = true := by simp [g1]
        clear g1
        go_wp2_with fail
        go_ret
        refine ⟨ret_bool ?_, (by repeat (first | exact Below.refl _ _ | assumption | refine Ext.alloc ?_ _ | refine Ext.drew ?_ | refine Ext.drewN ?_ _ | refine Ext.setCell ?_ (by first | omega | (dsimp only; omega) | go_size) _ | refine Ext.trans ?_ (by assumption)))⟩
        simp at e1
        simp [patB, ha3.out, hd.out, patF, e1]
      have e1 : ((p.bytes.length : Int) == 0) = false := by simpa using g1
      by_cases g2 : inB p.at_ at_ (m.base + m.bytes.length - p.bytes.length) = true
      · have g3 := inB_iff.1 g2
        have hst := Lib.hid (show patF (m.base + m.bytes.length) m.base l = patF (m.base + m.bytes.length) (p.at_ + p.bytes.length + 1) (l.drop (k + 1)) by rw [ha3.out, hd.out]; simp [patF, g2]; omega)
        go_wp2_with fail
        go_roundw
        case rel => exact ⟨k + 1, _, by omega, by go_num, rfl, by omega, by omega, hst, (by repeat (first | exact Below.refl _ _ | assumption | refine Ext.alloc ?_ _ | refine Ext.drew ?_ | refine Ext.drewN ?_ _ | refine Ext.setCell ?_ (by first | omega | (dsimp only; omega) | go_size) _ | refine Ext.trans ?_ (by assumption)))⟩
        case measure => simp [intOf]; omega
      · have g3 := Classical.byContradiction fun h => g2 (inB_iff.2 (Classical.not_not.1 h))
        have g4 : ¬ p.at_ ≤ m.base + m.bytes.length - p.bytes.length := by omega
        go_wp2_with fail
        go_ret
        refine ⟨ret_bool ?_, (by repeat (first | exact Below.refl _ _ | assumption | refine Ext.alloc ?_ _ | refine Ext.drew ?_ | refine Ext.drewN ?_ _ | refine Ext.setCell ?_ (by first | omega | (dsimp only; omega) | go_size) _ | refine Ext.trans ?_ (by assumption)))⟩
        simp [patB, ha3.out, hd.out, patF, g2]
    · go_wp2_with (go_at_call 20; refine (c_spec_ImageValid m F _ _ (rep_ext hm0 (by repeat (first | exact Below.refl _ _ | assumption | refine Ext.alloc ?_ _ | refine Ext.drew ?_ | refine Ext.drewN ?_ _ | refine Ext.setCell ?_ (by first | omega | (dsimp only; omega) | go_size) _ | refine Ext.trans ?_ (by assumption))))).mono ?_; rintro e w1 ⟨rfl, hb1⟩; rw [hH.out])
      go_ret
      refine ⟨ret_bool ?_, (by repeat (first | exact Below.refl _ _ | assumption | refine Ext.alloc ?_ _ | refine Ext.drew ?_ | refine Ext.drewN ?_ _ | refine Ext.setCell ?_ (by first | omega | (dsimp only; omega) | go_size) _ | refine Ext.trans ?_ (by assumption)))⟩
      simp [patB, hH.out, ha3.out, drop_all hlt, patF]
      omega
end Go.Proofs.Ythdekdghhppkgaa
