/- The laws' copies: bytes. -/
import Derived.Test.YthdekdghhppkgaaNum
namespace Go.Proofs.Ythdekdghhppkgaa
open Go.RowKit
open Mem (rep own)

theorem info_u8 : (Try.prog.info? 5).map (fun i => (i.zero, i.size, i.bytes)) = some (some (.int .u8 0), 1, 1) := by kernel_rfl
def encU (l : List UInt8) : List Value := l.map fun b => .int .u8 (b.toNat : Int)

theorem fill_flat {α : Type} {f : α → Value} {a : List α} {k : Nat} {x : α} {Z : List Value} (hx : Hid (a[k]? = some x)) (hZ : Z.length = a.length) : ((a.take k).map f ++ Z.drop k).set k (f x) = (a.take (k + 1)).map f ++ Z.drop (k + 1) := by
  obtain ⟨hk, rfl⟩ := List.getElem?_eq_some_iff.1 hx.out
  have hl : ((a.take k).map f).length = k := by simp; omega
  rw [List.set_append_right _ _ (by omega), hl, Nat.sub_self, List.drop_eq_getElem_cons (by omega), List.set_cons_zero, List.take_succ_eq_append_getElem hk, List.map_append, List.append_assoc]
  rfl

set_option maxHeartbeats 1000000 in
theorem c_laws_toByteS (a : List UInt8) (F : Nat → Prop) (A : Option Addr) (n c : Nat) (w : World) (h : rep w F [.slice A n c] a) (hn : a.length ≤ 1048576) :
    Calls Try.prog 52 #[.slice A n c] w fun e w' => ∃ A c, e = .returned (.slice A a.length c) ∧ New w.heap.size w' [.slice A a.length c] a ∧ Ext w w' := by
  obtain ⟨rfl, h1, h2, h3⟩ := rep_slice h
  clear h
  obtain ⟨i0, hi0, hz0, hz1, hz2⟩ := info_parts info_u8
  go_enter Try.func52, Try.ntmps52
  go_wp2_with (at_make; refine wpList_make_full _ rfl (.tmp 6) (.tmp 6) _ rfl 0 5 i0 (.int .u8 0) 1 Try.underlying27 hi0 hz0 hz1 .i64 .i64 _ _ a.length rfl rfl rfl rfl (by rw [hz2]; omega) (by simp only [maxLen]; omega) (Nat.zero_le _) ?_; intro w1 hown1 hg1)
  have hb1 : Ext w w1 := Ext.grown (Below.refl _ _) hg1 (by simp)
  have HR := Lib.hid (show w1.ownsRow 0 5 1 (.slice (some ⟨w.heap.size, 0, none⟩) a.length a.length) a.length ((a.take 0).map Flat.enc ++ (madeCells (Value.int .u8 0).cells (a.length * 1)).toList.drop 0) from by simpa using hown1)
  have HL := Lib.hid (show (madeCells (Value.int .u8 0).cells (a.length * 1)).toList.length = a.length from by simp [madeCells])
  generalize (madeCells (Value.int .u8 0).cells (a.length * 1)).toList = Z at HR HL
  clear hown1 hg1
  go_loopw [4] (fun i wr => ∃ (k : Nat), k ≤ a.length ∧ i = .int .i64 k ∧ Ext w wr ∧ Hid (wr.ownsRow 0 5 1 (.slice (some ⟨w.heap.size, 0, none⟩) a.length a.length) a.length ((a.take k).map Flat.enc ++ Z.drop k))) (fun i _ => a.length - (intOf i).toNat)
  case atStart => exact ⟨0, Nat.zero_le _, rfl, hb1, HR⟩
  case round =>
    obtain ⟨k, hk, rfl, hwr, hrow⟩ := hrel
    by_cases hlt : k < a.length
    · obtain ⟨b, off, x, rfl, hF, hb, hx, kx, hx2⟩ := u8_at_k (h3.ext hwr) k hlt
      obtain ⟨z, kz⟩ : ∃ z, wr.cell? ⟨w.heap.size, k, none⟩ = some z := by
        have hL := HL.out
        refine ⟨_, (hrow.out.cellAt k (by omega)).trans (List.getElem?_eq_getElem (by simp; omega))⟩
      have kf := hrow.out.frozenAt k
      have HS := Lib.hid (hrow.out.stored k (Flat.enc x)).1
      rw [fill_flat hx HL.out] at HS
      go_wp2
      go_roundw
      case rel => exact ⟨k + 1, by omega, by go_num, (by repeat (first | exact Below.refl _ _ | assumption | refine Ext.alloc ?_ _ | refine Ext.drew ?_ | refine Ext.drewN ?_ _ | refine Ext.setCell ?_ (by first | omega | (dsimp only; omega) | go_size) _ | refine Ext.trans ?_ (by assumption))), HS⟩
      case measure => simp [intOf]; omega
    · go_wp2
      go_ret
      refine ⟨_, _, rfl, ⟨[w.heap.size], ?_, by simp⟩, (by repeat (first | exact Below.refl _ _ | assumption | refine Ext.alloc ?_ _ | refine Ext.drew ?_ | refine Ext.drewN ?_ _ | refine Ext.setCell ?_ (by first | omega | (dsimp only; omega) | go_size) _ | refine Ext.trans ?_ (by assumption)))⟩
      have hr := hrow.out
      have hk' : k = a.length := by omega
      rw [hk', List.take_length, List.drop_of_length_le (by rw [HL.out]; exact Nat.le_refl _), List.append_nil] at hr
      exact own_list_mk hr (ownCells_u8 a) (by simp [Value.ownBlock])

theorem eq_take_step {α : Type} {a b : List α} {k : Nat} {x y : α} (hx : Hid (a[k]? = some x)) (hy : Hid (b[k]? = some y)) (h : Hid (a.take k = b.take k)) : (a.take (k + 1) = b.take (k + 1)) ↔ x = y := by
  obtain ⟨ha, rfl⟩ := List.getElem?_eq_some_iff.1 hx.out
  obtain ⟨hb, rfl⟩ := List.getElem?_eq_some_iff.1 hy.out
  rw [List.take_succ_eq_append_getElem ha, List.take_succ_eq_append_getElem hb, h.out]
  simp only [List.append_cancel_left_eq, List.cons.injEq, and_true]
theorem ne_of_take {α : Type} {a b : List α} {k : Nat} (h : ¬ a.take k = b.take k) : ¬ a = b := fun e => h (by rw [e])
theorem at_same {α : Type} {a : List α} {k : Nat} {x y : α} (hx : Hid (a[k]? = some x)) (hy : Hid (a[k]? = some y)) : x = y := by
  have := hx.out.symm.trans hy.out
  injection this
set_option maxHeartbeats 1000000 in
theorem c_laws_eqByteS (a : List UInt8) (F G : Nat → Prop) (u v : Value) (w : World) (h : rep w F [u] a) (h' : rep w G [v] a) :
    Calls Try.prog 54 #[u, v] w fun e w' => e = .returned (.bool true) ∧ Ext w w' := by
  obtain ⟨A, c, hv, h1, h2, h3⟩ := rep_list h
  obtain ⟨B, d, hv', h1', h2', h3'⟩ := rep_list h'
  simp only [List.cons.injEq, and_true] at hv hv'
  subst hv hv'
  clear h h'
  go_enter Try.func54, Try.ntmps54
  go_wp2_with fail
  go_loopw [5] (fun i wr => ∃ (k : Nat), k ≤ a.length ∧ i = .int .i64 k ∧ Ext w wr) (fun i _ => a.length - (intOf i).toNat)
  case atStart => exact ⟨0, Nat.zero_le _, rfl, Below.refl _ _⟩
  case round =>
    obtain ⟨k, hk, rfl, hwr⟩ := hrel
    by_cases hlt : k < a.length
    · obtain ⟨b1, off, x, rfl, _, hb, hx, kx, hx2⟩ := u8_at_k (h3.ext hwr) k hlt
      obtain ⟨b2, off', y, rfl, _, hb', hy, ky, _⟩ := u8_at_k (h3'.ext hwr) k hlt
      obtain rfl := at_same hx hy
      go_wp2_with fail
      go_quiet (fail)
      go_wp2_with fail
      go_roundw
      case rel => exact ⟨k + 1, by omega, by go_num, (by repeat (first | exact Below.refl _ _ | assumption | refine Ext.alloc ?_ _ | refine Ext.drew ?_ | refine Ext.drewN ?_ _ | refine Ext.setCell ?_ (by first | omega | (dsimp only; omega) | go_size) _ | refine Ext.trans ?_ (by assumption)))⟩
      case measure => simp [intOf]; omega
    · go_wp2_with fail
      go_ret
      exact ⟨rfl, (by repeat (first | exact Below.refl _ _ | assumption | refine Ext.alloc ?_ _ | refine Ext.drew ?_ | refine Ext.drewN ?_ _ | refine Ext.setCell ?_ (by first | omega | (dsimp only; omega) | go_size) _ | refine Ext.trans ?_ (by assumption)))⟩
set_option maxHeartbeats 1000000 in
theorem c_laws_sameBytes (a : List UInt8) (F G : Nat → Prop) (u v : Value) (w : World) (h : rep w F [u] a) (h' : rep w G [v] a) :
    Calls Try.prog 68 #[u, v] w fun e w' => e = .returned (.bool true) ∧ Ext w w' := by
  obtain ⟨A, c, hv, h1, h2, h3⟩ := rep_list h
  obtain ⟨B, d, hv', h1', h2', h3'⟩ := rep_list h'
  simp only [List.cons.injEq, and_true] at hv hv'
  subst hv hv'
  clear h h'
  go_enter Try.func68, Try.ntmps68
  go_wp2_with fail
  go_loopw [5] (fun i wr => ∃ (k : Nat), k ≤ a.length ∧ i = .int .i64 k ∧ Ext w wr) (fun i _ => a.length - (intOf i).toNat)
  case atStart => exact ⟨0, Nat.zero_le _, rfl, Below.refl _ _⟩
  case round =>
    obtain ⟨k, hk, rfl, hwr⟩ := hrel
    by_cases hlt : k < a.length
    · obtain ⟨b1, off, x, rfl, _, hb, hx, kx, hx2⟩ := u8_at_k (h3.ext hwr) k hlt
      obtain ⟨b2, off', y, rfl, _, hb', hy, ky, _⟩ := u8_at_k (h3'.ext hwr) k hlt
      obtain rfl := at_same hx hy
      go_wp2_with fail
      go_quiet (fail)
      go_wp2_with fail
      go_roundw
      case rel => exact ⟨k + 1, by omega, by go_num, (by repeat (first | exact Below.refl _ _ | assumption | refine Ext.alloc ?_ _ | refine Ext.drew ?_ | refine Ext.drewN ?_ _ | refine Ext.setCell ?_ (by first | omega | (dsimp only; omega) | go_size) _ | refine Ext.trans ?_ (by assumption)))⟩
      case measure => simp [intOf]; omega
    · go_wp2_with fail
      go_ret
      exact ⟨rfl, (by repeat (first | exact Below.refl _ _ | assumption | refine Ext.alloc ?_ _ | refine Ext.drew ?_ | refine Ext.drewN ?_ _ | refine Ext.setCell ?_ (by first | omega | (dsimp only; omega) | go_size) _ | refine Ext.trans ?_ (by assumption)))⟩
end Go.Proofs.Ythdekdghhppkgaa
