/- The laws' copies, sizes and comparisons of patches. -/
import Derived.Test.YthdekdghhppkgaaImg
import Derived.Test.YthdekdghhppkgaaFill
import Derived.Deep.RegionHeld3
namespace Go.Proofs.Ythdekdghhppkgaa
open Go.RowKit
open Mem (rep own)

theorem c_laws_szPatch (m : Patch) (F : Nat → Prop) (cs : List Value) (left : Int) (w : World) (hm : rep w F cs m) (h0 : 0 ≤ left) (h1 : left ≤ 1048576) :
    Calls Try.prog 63 #[.agg cs.toArray, .int .i64 left] w fun e w' => e = .returned (.int .i64 (szR m.bytes.length left)) ∧ Ext w w' := by
  obtain ⟨A, c, rfl, hm1, hm2, hm3, hm4⟩ := Patch.open_ hm
  clear hm
  by_cases h : (m.bytes.length : Int) ≤ left
  · have e := szR_pos h
    have hp : 0 ≤ szR m.bytes.length left := by omega
    clear e
    go_enter Try.func63, Try.ntmps63
    go_wp2_with (first | (go_at_call 51; refine (c_laws_szByteS _ _ _ _ _ (by omega) (by omega) (by omega)).mono ?_; rintro e w' ⟨rfl, rfl⟩))
    go_ret
    exact ⟨rfl, (by repeat (first | exact Below.refl _ _ | assumption | refine Ext.alloc ?_ _ | refine Ext.drew ?_ | refine Ext.drewN ?_ _ | refine Ext.setCell ?_ (by first | omega | (dsimp only; omega) | go_size) _ | refine Ext.trans ?_ (by assumption)))⟩
  · have e := szR_none h
    have hp : szR m.bytes.length left < 0 := by omega
    have e' := Lib.hid e
    clear e
    go_enter Try.func63, Try.ntmps63
    go_wp2_with (first | (go_at_call 51; refine (c_laws_szByteS _ _ _ _ _ (by omega) (by omega) (by omega)).mono ?_; rintro e w' ⟨rfl, rfl⟩))
    go_ret
    exact ⟨ret_int e'.out.symm, (by repeat (first | exact Below.refl _ _ | assumption | refine Ext.alloc ?_ _ | refine Ext.drew ?_ | refine Ext.drewN ?_ _ | refine Ext.setCell ?_ (by first | omega | (dsimp only; omega) | go_size) _ | refine Ext.trans ?_ (by assumption)))⟩
def szPats (l : List Patch) : Nat := (l.map fun p => p.bytes.length).sum
theorem szPats_cons (p : Patch) (l : List Patch) : szPats (p :: l) = p.bytes.length + szPats l := by simp [szPats]
theorem szPats_mem {p : Patch} {l : List Patch} (h : p ∈ l) : p.bytes.length ≤ szPats l := by
  induction l with
  | nil => cases h
  | cons q l ih =>
    rw [szPats_cons]
    rcases List.mem_cons.1 h with rfl | h
    · omega
    · have := ih h; omega
theorem szPats_take (l : List Patch) (k : Nat) : szPats (l.take k) ≤ szPats l := by
  induction l generalizing k with
  | nil => simp
  | cons p l ih =>
    cases k with
    | zero => simp [szPats]
    | succ k => rw [List.take_succ_cons, szPats_cons, szPats_cons]; have := ih k; omega
theorem c_laws_szPatchS (l : List Patch) (F : Nat → Prop) (v : Value) (left : Int) (w : World) (hl : rep w F [v] l) (h0 : 0 ≤ left) (h1 : left ≤ 1048576) :
    Calls Try.prog 40 #[v, .int .i64 left] w fun e w' => e = .returned (.int .i64 (szR (l.length + szPats l) left)) ∧ Ext w w' := by
  obtain ⟨L, lc, hv, hl1, hl2, hl3⟩ := rep_list hl
  simp only [List.cons.injEq, and_true] at hv
  subst hv
  clear hl
  by_cases g : (l.length : Int) ≤ left
  rotate_left
  · go_enter Try.func40, Try.ntmps40
    go_wp2_with fail
    go_ret
    exact ⟨ret_int (szR_none (by omega)).symm, (by repeat (first | exact Below.refl _ _ | assumption | refine Ext.alloc ?_ _ | refine Ext.drew ?_ | refine Ext.drewN ?_ _ | refine Ext.setCell ?_ (by first | omega | (dsimp only; omega) | go_size) _ | refine Ext.trans ?_ (by assumption)))⟩
  go_enter Try.func40, Try.ntmps40
  go_wp2_with fail
  go_loopw [1, 5] (fun a i wr => ∃ (k : Nat), k ≤ l.length ∧ i = .int .i64 k ∧ ((l.length + szPats (l.take k) : Nat) : Int) ≤ left ∧ a = .int .i64 (left - ((l.length + szPats (l.take k) : Nat) : Int)) ∧ Ext w wr) (fun _ i _ => l.length - (intOf i).toNat)
  case atStart => exact ⟨0, Nat.zero_le _, rfl, by simpa [szPats] using g, by simp [szPats], Below.refl _ _⟩
  case round =>
    obtain ⟨k, hk, rfl, hle, rfl, hwr⟩ := hrel
    by_cases hlt : k < l.length
    · obtain ⟨b, off, p, A', c', rfl, _, hbl, hp, q0, q1, hp1, hp2, hp3, hp4, hp5⟩ := Patch.at_k (hl3.ext hwr) k hlt
      have hst := Lib.hid (show szPats (l.take (k + 1)) = szPats (l.take k) + p.bytes.length by rw [take_of hp]; simp [szPats])
      have htot := Lib.hid (szPats_take l (k + 1))
      generalize hT : l.length + szPats (l.take k) = T at hle
      have hT' := Lib.hid hT
      clear hT
      by_cases g2 : (p.bytes.length : Int) ≤ left - T
      · have e := szR_pos g2
        have hp0 : 0 ≤ szR p.bytes.length (left - T) := by omega
        have e' := Lib.hid e
        clear e
        go_wp2_with (go_at_call 63; refine (c_laws_szPatch p F _ _ _ (rep_ext hp5 (by repeat (first | exact Below.refl _ _ | assumption | refine Ext.alloc ?_ _ | refine Ext.drew ?_ | refine Ext.drewN ?_ _ | refine Ext.setCell ?_ (by first | omega | (dsimp only; omega) | go_size) _ | refine Ext.trans ?_ (by assumption)))) (by omega) (by omega)).mono ?_; rintro e w1 ⟨rfl, hb1⟩)
        have h1 := hst.out
        have h2 := hT'.out
        go_roundw
        case rel => exact ⟨k + 1, by omega, by go_num, by omega, by rw [e'.out]; congr 1; omega, (by repeat (first | exact Below.refl _ _ | assumption | refine Ext.alloc ?_ _ | refine Ext.drew ?_ | refine Ext.drewN ?_ _ | refine Ext.setCell ?_ (by first | omega | (dsimp only; omega) | go_size) _ | refine Ext.trans ?_ (by assumption)))⟩
        case measure => simp [intOf]; omega
      · have e := szR_none g2
        have hp0 : szR p.bytes.length (left - T) < 0 := by omega
        go_wp2_with (go_at_call 63; refine (c_laws_szPatch p F _ _ _ (rep_ext hp5 (by repeat (first | exact Below.refl _ _ | assumption | refine Ext.alloc ?_ _ | refine Ext.drew ?_ | refine Ext.drewN ?_ _ | refine Ext.setCell ?_ (by first | omega | (dsimp only; omega) | go_size) _ | refine Ext.trans ?_ (by assumption)))) (by omega) (by omega)).mono ?_; rintro e w1 ⟨rfl, hb1⟩)
        go_ret
        have h1 := hst.out
        have h2 := hT'.out
        have h3 := htot.out
        exact ⟨ret_int (szR_none (by omega)).symm, (by repeat (first | exact Below.refl _ _ | assumption | refine Ext.alloc ?_ _ | refine Ext.drew ?_ | refine Ext.drewN ?_ _ | refine Ext.setCell ?_ (by first | omega | (dsimp only; omega) | go_size) _ | refine Ext.trans ?_ (by assumption)))⟩
    · go_wp2_with fail
      go_ret
      rw [take_all hlt] at hle ⊢
      exact ⟨ret_int (szR_pos hle).symm, (by repeat (first | exact Below.refl _ _ | assumption | refine Ext.alloc ?_ _ | refine Ext.drew ?_ | refine Ext.drewN ?_ _ | refine Ext.setCell ?_ (by first | omega | (dsimp only; omega) | go_size) _ | refine Ext.trans ?_ (by assumption)))⟩
theorem c_laws_toPatch (m : Patch) (F : Nat → Prop) (cs : List Value) (w : World) (hm : rep w F cs m) (hn : m.bytes.length ≤ 1048576) :
    Calls Try.prog 64 #[.agg cs.toArray] w fun e w' => ∃ A c, e = .returned (.agg #[.int .i64 m.at_, .slice A m.bytes.length c]) ∧ New w.heap.size w' [.int .i64 m.at_, .slice A m.bytes.length c] m ∧ Ext w w' := by
  obtain ⟨A, c, rfl, hm1, hm2, hm3, hm4⟩ := Patch.open_ hm
  clear hm
  go_enter Try.func64, Try.ntmps64
  go_wp2_with (go_at_call 52; refine (c_laws_toByteS m.bytes F _ _ _ _ (rep_mk hm2 hm3 (hm4.ext (by repeat (first | exact Below.refl _ _ | assumption | refine Ext.alloc ?_ _ | refine Ext.drew ?_ | refine Ext.drewN ?_ _ | refine Ext.setCell ?_ (by first | omega | (dsimp only; omega) | go_size) _ | refine Ext.trans ?_ (by assumption))))) hn).mono ?_; rintro e w1 ⟨A', c', rfl, hnew, hb⟩; obtain ⟨hc_hb, hf_hb, hz_hb⟩ := bcell hb; try simp at hz_hb; simp only [World.size_alloc] at hnew)
  refine bodyPost_ret (v := .agg #[.int .i64 m.at_, .slice A' m.bytes.length c']) (by simp only [results, Try.results64]; go_simp) rfl ?_
  exact ⟨_, _, rfl, Patch.new_mk hm1 (by (apply New.less); (repeat (first | assumption | apply New.setCell | apply New.alloc | apply New.drew | apply New.drewN | refine New.ext ?_ (by assumption))); all_goals (first | omega | (dsimp only; omega) | go_size)), (by repeat (first | exact Below.refl _ _ | assumption | refine Ext.alloc ?_ _ | refine Ext.drew ?_ | refine Ext.drewN ?_ _ | refine Ext.setCell ?_ (by first | omega | (dsimp only; omega) | go_size) _ | refine Ext.trans ?_ (by assumption)))⟩
theorem info_patch : (Try.prog.info? 49).map (fun i => (i.zero, i.size, i.bytes)) = some (some (.agg #[.int .i64 0, .slice none 0 0]), 2, 32) := by kernel_rfl
set_option maxHeartbeats 1000000 in
theorem c_laws_toPatchS (a : List Patch) (F : Nat → Prop) (A : Option Addr) (n c : Nat) (w : World) (h : rep w F [.slice A n c] a) (hn : a.length + szPats a ≤ 1048576) :
    Calls Try.prog 41 #[.slice A n c] w fun e w' => ∃ A c, e = .returned (.slice A a.length c) ∧ New w.heap.size w' [.slice A a.length c] a ∧ Ext w w' := by
  obtain ⟨rfl, h1, h2, h3⟩ := rep_slice h
  clear h
  obtain ⟨i0, hi0, hz0, hz1, hz2⟩ := info_parts info_patch
  go_enter Try.func41, Try.ntmps41
  go_wp2_with (at_make; refine wpList_make_full _ rfl (.tmp 6) (.tmp 6) _ rfl w.heap.size 49 i0 _ 2 Try.underlying44 hi0 hz0 hz1 .i64 .i64 _ _ a.length rfl rfl rfl rfl (by rw [hz2]; omega) (by simp only [maxLen]; omega) (Nat.le_refl _) ?_; intro w1 hown1 hg1)
  have hb1 : Ext w w1 := Ext.grown (Below.refl _ _) hg1 (by simp)
  have HF := Fill.start (α := Patch) hown1
  generalize (madeCells _ _).toList = Z at HF
  clear hown1 hg1
  go_loopw [4] (fun i wr => ∃ (k : Nat), k ≤ a.length ∧ i = .int .i64 k ∧ Ext w wr ∧ Fill wr w.heap.size w.heap.size a.length Z (a.take k)) (fun i _ => a.length - (intOf i).toNat)
  case atStart => exact ⟨0, Nat.zero_le _, rfl, hb1, by simpa using HF⟩
  case round =>
    obtain ⟨k, hk, rfl, hwr, hf⟩ := hrel
    have hl : (a.take k).length = k := by rw [List.length_take]; omega
    by_cases hlt : k < a.length
    · obtain ⟨b, off, p, A', c', rfl, _, hbl, hp, q0, q1, hp1, hp2, hp3, hp4, hp5⟩ := Patch.at_k (h3.ext hwr) k hlt
      have hps : p.bytes.length ≤ 1048576 := by
        have := szPats_mem (List.mem_of_getElem? hp.out)
        omega
      go_wp2_with fail
      refine (c_laws_toPatch p F _ _ (rep_ext hp5 (by repeat (first | exact Below.refl _ _ | assumption | refine Ext.alloc ?_ _ | refine Ext.drew ?_ | refine Ext.drewN ?_ _ | refine Ext.setCell ?_ (by first | omega | (dsimp only; omega) | go_size) _ | refine Ext.trans ?_ (by assumption)))) hps).mono ?_
      rintro e w2 ⟨A2, c2, rfl, hN, hE2⟩
      have hs := hf.step hE2 hN (by rw [hl]; omega)
      rw [hl, ← take_of hp] at hs
      have hs := Lib.hid hs
      have hf2 := hf.ext hE2
      obtain ⟨z0, kz0⟩ := hf2.cell (j := 0) (by rw [hl]; simp only [Mem.sz]; omega)
      obtain ⟨z1, kz1⟩ := hf2.cell (j := 1) (by rw [hl]; simp only [Mem.sz]; omega)
      have kf0 := hf2.frozen (k * 2)
      have kf1 := hf2.frozen (k * 2 + 1)
      rw [hl] at kz0 kz1
      have hlo := hf2.lo_
      have kz0 : w2.cell? ⟨w.heap.size, k * 2, none⟩ = some z0 := kz0
      have kz1 : w2.cell? ⟨w.heap.size, k * 2 + 1, none⟩ = some z1 := kz1
      go_wp2_with fail
      go_roundw
      case rel => exact ⟨k + 1, by omega, by go_num, (by repeat (first | exact Below.refl _ _ | assumption | refine Ext.alloc ?_ _ | refine Ext.drew ?_ | refine Ext.drewN ?_ _ | refine Ext.setCell ?_ (by first | omega | (dsimp only; omega) | go_size) _ | refine Ext.trans ?_ (by assumption))), hs⟩
      case measure => simp [intOf]; omega
    · go_wp2
      go_ret
      rw [take_all hlt] at hf
      exact ⟨_, _, rfl, hf.done rfl, (by repeat (first | exact Below.refl _ _ | assumption | refine Ext.alloc ?_ _ | refine Ext.drew ?_ | refine Ext.drewN ?_ _ | refine Ext.setCell ?_ (by first | omega | (dsimp only; omega) | go_size) _ | refine Ext.trans ?_ (by assumption)))⟩
theorem c_laws_eqPatch (m : Patch) (F G : Nat → Prop) (cs ds : List Value) (w : World) (h : rep w F cs m) (h' : rep w G ds m) :
    Calls Try.prog 65 #[.agg cs.toArray, .agg ds.toArray] w fun e w' => e = .returned (.bool true) ∧ Ext w w' := by
  obtain ⟨A, c, rfl, hm1, hm2, hm3, hm4⟩ := Patch.open_ h
  obtain ⟨B, d, rfl, _, hk2, hk3, hk4⟩ := Patch.open_ h'
  clear h h'
  go_enter Try.func65, Try.ntmps65
  go_wp2_with (go_at_call 54; refine (c_laws_eqByteS m.bytes F G _ _ _ (rep_mk hm2 hm3 (hm4.ext (by repeat (first | exact Below.refl _ _ | assumption | refine Ext.alloc ?_ _ | refine Ext.drew ?_ | refine Ext.drewN ?_ _ | refine Ext.setCell ?_ (by first | omega | (dsimp only; omega) | go_size) _ | refine Ext.trans ?_ (by assumption))))) (rep_mk hk2 hk3 (hk4.ext (by repeat (first | exact Below.refl _ _ | assumption | refine Ext.alloc ?_ _ | refine Ext.drew ?_ | refine Ext.drewN ?_ _ | refine Ext.setCell ?_ (by first | omega | (dsimp only; omega) | go_size) _ | refine Ext.trans ?_ (by assumption)))))).mono ?_; rintro e w1 ⟨rfl, hb1⟩)
  go_ret
  exact ⟨rfl, (by repeat (first | exact Below.refl _ _ | assumption | refine Ext.alloc ?_ _ | refine Ext.drew ?_ | refine Ext.drewN ?_ _ | refine Ext.setCell ?_ (by first | omega | (dsimp only; omega) | go_size) _ | refine Ext.trans ?_ (by assumption)))⟩
set_option maxHeartbeats 1000000 in
theorem c_laws_eqPatchS (a : List Patch) (F G : Nat → Prop) (u v : Value) (w : World) (h : rep w F [u] a) (h' : rep w G [v] a) :
    Calls Try.prog 42 #[u, v] w fun e w' => e = .returned (.bool true) ∧ Ext w w' := by
  obtain ⟨A, c, hv, h1, h2, h3⟩ := rep_list h
  obtain ⟨B, d, hv', h1', h2', h3'⟩ := rep_list h'
  simp only [List.cons.injEq, and_true] at hv hv'
  subst hv hv'
  clear h h'
  go_enter Try.func42, Try.ntmps42
  go_wp2_with fail
  go_loopw [5] (fun i wr => ∃ (k : Nat), k ≤ a.length ∧ i = .int .i64 k ∧ Ext w wr) (fun i _ => a.length - (intOf i).toNat)
  case atStart => exact ⟨0, Nat.zero_le _, rfl, Below.refl _ _⟩
  case round =>
    obtain ⟨k, hk, rfl, hwr⟩ := hrel
    by_cases hlt : k < a.length
    · obtain ⟨b1, off, p, A1, c1, rfl, _, hb, hx, k0, k1, e1, e2, e3, e4, e5⟩ := Patch.at_k (h3.ext hwr) k hlt
      obtain ⟨b2, off', p', A2, c2, rfl, _, hb', hy, k0', k1', e1', e2', e3', e4', e5'⟩ := Patch.at_k (h3'.ext hwr) k hlt
      obtain rfl := at_same hx hy
      go_wp2_with fail
      go_region_held3 (fun W => W.cell? ⟨b1, off + k * 2, none⟩ = some (.int .i64 p.at_) ∧ W.cell? ⟨b1, off + k * 2 + 1, none⟩ = some (.slice A1 p.bytes.length c1) ∧ W.cell? ⟨b2, off' + k * 2, none⟩ = some (.int .i64 p.at_) ∧ W.cell? ⟨b2, off' + k * 2 + 1, none⟩ = some (.slice A2 p.bytes.length c2))
        (first | exact ⟨k0, k1, k0', k1'⟩ | exact ⟨cell_ext (by repeat (first | exact Below.refl _ _ | assumption | refine Ext.alloc ?_ _ | refine Ext.drew ?_ | refine Ext.drewN ?_ _ | refine Ext.setCell ?_ (by first | omega | (dsimp only; omega) | go_size) _ | refine Ext.trans ?_ (by assumption))) k0, cell_ext (by repeat (first | exact Below.refl _ _ | assumption | refine Ext.alloc ?_ _ | refine Ext.drew ?_ | refine Ext.drewN ?_ _ | refine Ext.setCell ?_ (by first | omega | (dsimp only; omega) | go_size) _ | refine Ext.trans ?_ (by assumption))) k1, cell_ext (by repeat (first | exact Below.refl _ _ | assumption | refine Ext.alloc ?_ _ | refine Ext.drew ?_ | refine Ext.drewN ?_ _ | refine Ext.setCell ?_ (by first | omega | (dsimp only; omega) | go_size) _ | refine Ext.trans ?_ (by assumption))) k0', cell_ext (by repeat (first | exact Below.refl _ _ | assumption | refine Ext.alloc ?_ _ | refine Ext.drew ?_ | refine Ext.drewN ?_ _ | refine Ext.setCell ?_ (by first | omega | (dsimp only; omega) | go_size) _ | refine Ext.trans ?_ (by assumption))) k1'⟩)
        (first | (go_at_call 65; refine (c_laws_eqPatch p F G _ _ _ (rep_ext e5 (by repeat (first | exact Below.refl _ _ | assumption | refine Ext.alloc ?_ _ | refine Ext.drew ?_ | refine Ext.drewN ?_ _ | refine Ext.setCell ?_ (by first | omega | (dsimp only; omega) | go_size) _ | refine Ext.trans ?_ (by assumption)))) (rep_ext e5' (by repeat (first | exact Below.refl _ _ | assumption | refine Ext.alloc ?_ _ | refine Ext.drew ?_ | refine Ext.drewN ?_ _ | refine Ext.setCell ?_ (by first | omega | (dsimp only; omega) | go_size) _ | refine Ext.trans ?_ (by assumption))))).mono ?_; rintro e w1 ⟨rfl, hb1⟩))
      go_wp2_with fail
      go_roundw
      case rel => exact ⟨k + 1, by omega, by go_num, (by repeat (first | exact Below.refl _ _ | assumption | refine Ext.alloc ?_ _ | refine Ext.drew ?_ | refine Ext.drewN ?_ _ | refine Ext.setCell ?_ (by first | omega | (dsimp only; omega) | go_size) _ | refine Ext.trans ?_ (by assumption)))⟩
      case measure => simp [intOf]; omega
    · go_wp2_with fail
      go_ret
      exact ⟨rfl, (by repeat (first | exact Below.refl _ _ | assumption | refine Ext.alloc ?_ _ | refine Ext.drew ?_ | refine Ext.drewN ?_ _ | refine Ext.setCell ?_ (by first | omega | (dsimp only; omega) | go_size) _ | refine Ext.trans ?_ (by assumption)))⟩
end Go.Proofs.Ythdekdghhppkgaa
