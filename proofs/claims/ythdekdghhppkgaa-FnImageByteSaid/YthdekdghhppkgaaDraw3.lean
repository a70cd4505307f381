/- Images drawn. -/
import Derived.Test.YthdekdghhppkgaaDraw2
namespace Go.Proofs.Ythdekdghhppkgaa
open Go.RowKit
open Mem (rep own)

def ImgPost (r p : Nat) (w : World) (e : Ending) (w' : World) : Prop := ∃ (m : Img) (A : Option Addr) (c q : Nat), e = .returned (.agg #[.int .i64 m.base, .slice A m.bytes.length c]) ∧ New w.heap.size w' [.int .i64 m.base, .slice A m.bytes.length c] m ∧ -8 ≤ m.base ∧ m.base ≤ 4104 ∧ m.bytes.length ≤ 2001 ∧ p ≤ q ∧ q ≤ p + 60 ∧ Rd w' r q ∧ ExtR r w w'
set_option maxHeartbeats 4000000 in
theorem c_image (r p : Nat) (n : Int) (w : World) (h : Rd w r p) (hp : p ≤ 10000000000) (hn : n ≤ 1000000000000) (hn0 : 0 ≤ n) :
    Calls Try.prog 58 #[.pointer (some ⟨r, 0, none⟩), .int .i64 n] w (ImgPost r p w) := by
  obtain ⟨i0, hi0, hz0, hz1, hz2⟩ := info_parts info_u8
  have hrw := h.lt
  go_enter Try.func58, Try.ntmps58
  go_wp2_with fail
  refine (c_pick r p 20 _ (h.ext (by repeat (first | exact Below.refl _ _ | assumption | refine Ext.alloc ?_ _ | refine Ext.drew ?_ | refine Ext.drewN ?_ _ | refine Ext.setCell ?_ (by first | omega | (dsimp only; omega) | go_size) _ | refine Ext.trans ?_ (by assumption)))) (by omega) (by omega)).mono ?_
  rintro e w1 ⟨x, rfl, hx0, hx1, hR1, hE1⟩
  have hx2 : x < 20 := by omega
  have hlt1 := hR1.lt
  have kr := (Blk.new w 32 _).extR hE1 (by omega)
  have kz1 := hE1.size
  simp at kz1
  go_wp2_with fail
  refine (c_bytes r (p + 1) 20 _ hR1 (by omega) (by omega) (by omega)).mono ?_
  rintro e w2 ⟨l, A, c, q, rfl, hl, hnew, hq1, hq2, hR2, hE2⟩
  have kz2 := hE2.size
  replace kr := kr.extR hE2 (by omega)
  have hlt2 := hR2.lt
  go_wp2_with fail
  refine (c_odd r q n _ (hR2.ext (by repeat (first | exact Below.refl _ _ | assumption | refine Ext.alloc ?_ _ | refine Ext.drew ?_ | refine Ext.drewN ?_ _ | refine Ext.setCell ?_ (by first | omega | (dsimp only; omega) | go_size) _ | refine Ext.trans ?_ (by assumption)))) (by omega) hn hn0).mono ?_
  rintro e w3 ⟨b, q3, rfl, hq3a, hq3b, hR3, hE3⟩
  have km := (Blk.new w2 32 _).extR hE3 (by omega)
  replace kr := (kr.alloc _).extR hE3 (by omega)
  have kz3 := hE3.size
  simp at kz3
  have hlt3 := hR3.lt
  have hE03 : ExtR r w w3 := (ExtR.of_ext (by repeat (first | exact Below.refl _ _ | assumption | refine Ext.alloc ?_ _ | refine Ext.drew ?_ | refine Ext.drewN ?_ _ | refine Ext.setCell ?_ (by first | omega | (dsimp only; omega) | go_size) _ | refine Ext.trans ?_ (by assumption)))).trans (hE1.trans (hE2.trans ((ExtR.of_ext (by repeat (first | exact Below.refl _ _ | assumption | refine Ext.alloc ?_ _ | refine Ext.drew ?_ | refine Ext.drewN ?_ _ | refine Ext.setCell ?_ (by first | omega | (dsimp only; omega) | go_size) _ | refine Ext.trans ?_ (by assumption)))).trans hE3)))
  have hnew3 := ((hnew.seal_.alloc _).extR hE3 (by omega))
  cases b with
  | false =>
    obtain ⟨f0, f1, f2, f3⟩ := kr.two
    obtain ⟨g0, g1, g2, g3⟩ := km.two
    go_wp2_with fail
    refine bodyPost_ret (v := .agg #[.int .i64 (8 * x), .slice A l.length c]) (by simp only [results, Try.results58]; go_simp) rfl ?_
    exact ⟨⟨8 * x, l⟩, A, c, q3, rfl, Img.new_mk ⟨by show _ ≤ 8 * x; omega, by show 8 * x ≤ _; omega⟩ (NewI.new (lo := w1.heap.size) (hi := w2.heap.size) (by repeat (first | assumption | refine NewI.setCell ?_ (by first | (left; dsimp only; omega) | (right; dsimp only; omega) | (left; go_size) | (right; go_size)) _ | refine NewI.alloc ?_ _ | refine NewI.drewN ?_ _ | refine NewI.ext ?_ (by assumption))) (by omega)), by show _ ≤ 8 * x; omega, by show 8 * x ≤ _; omega, by show l.length ≤ _; omega, by omega, by omega, (by repeat (first | assumption | refine Rd.setCell ?_ (by first | omega | (dsimp only; omega) | go_size) _ | refine Rd.ext ?_ (Ext.alloc (Below.refl _ _) _) | refine Rd.ext ?_ (Ext.drewN (Below.refl _ _) _))), (by repeat (first | exact ExtR.refl | assumption | refine ExtR.setCell ?_ (.inr (by first | omega | (dsimp only; omega) | go_size)) _ | refine ExtR.alloc ?_ _ | refine ExtR.drew ?_ | refine ExtR.drewN ?_ _))⟩
  | true =>
    obtain ⟨g0, g1, g2, g3⟩ := km.two
    go_wp2_with fail
    refine (c_pick r q3 3 _ hR3 (by omega) (by omega)).mono ?_
    rintro e w4 ⟨y, rfl, hy0, hy1, hR4, hE4⟩
    replace kr := kr.extR hE4 (by omega)
    replace km := km.extR hE4 (by omega)
    have hnew4 := hnew3.extR hE4 (by omega)
    have hE04 := hE03.trans hE4
    have kz4 := hE4.size
    have hlt4 := hR4.lt
    clear g0 g1 g2 g3 hnew3 hE4 hnew
    by_cases hy : y = 0
    · have ey : (y == 0) = true := by simp [hy]
      clear hy hy0 hy1
      go_wp2_with fail
      refine (c_pick r (q3 + 1) 3 _ (hR4.ext (by repeat (first | exact Below.refl _ _ | assumption | refine Ext.alloc ?_ _ | refine Ext.drew ?_ | refine Ext.drewN ?_ _ | refine Ext.setCell ?_ (by first | omega | (dsimp only; omega) | go_size) _ | refine Ext.trans ?_ (by assumption)))) (by omega) (by omega)).mono ?_
      rintro e w5 ⟨z, rfl, hz0', hz1', hR5, hE5⟩
      have hz2' : z < 3 := by omega
      obtain ⟨u, ku, b, rfl, hb1, hb2⟩ := cell_new_R (Q := fun u => ∃ b : Int, u = .int .i64 b ∧ -8 ≤ b ∧ b ≤ 4104) (i := z.toNat) hE5 hlt4 (by repeat (first | exact allQ_nil | refine allQ_cons ⟨_, rfl, by decide, by decide⟩ ?_)) (by simp; omega)
      replace kr := (kr.alloc _).extR hE5 (by omega)
      replace km := (km.alloc _).extR hE5 (by omega)
      have hnew5 := (hnew4.alloc _).extR hE5 (by omega)
      have hE05 := hE04.trans ((ExtR.of_ext (by repeat (first | exact Below.refl _ _ | assumption | refine Ext.alloc ?_ _ | refine Ext.drew ?_ | refine Ext.drewN ?_ _ | refine Ext.setCell ?_ (by first | omega | (dsimp only; omega) | go_size) _ | refine Ext.trans ?_ (by assumption)))).trans hE5)
      have kz5 := hE5.size
      simp at kz5
      clear hnew4 hE5
      obtain ⟨f0, f1, f2, f3⟩ := kr.two
      obtain ⟨g0, g1, g2, g3⟩ := km.two
      go_wp2_with fail
      refine bodyPost_ret (v := .agg #[.int .i64 b, .slice A l.length c]) (by simp only [results, Try.results58]; go_simp) rfl ?_
      exact ⟨⟨b, l⟩, A, c, q3 + 1 + 1, rfl, Img.new_mk ⟨by show _ ≤ b; omega, by show b ≤ _; omega⟩ (NewI.new (lo := w1.heap.size) (hi := w2.heap.size) (by repeat (first | assumption | refine NewI.setCell ?_ (by first | (left; dsimp only; omega) | (right; dsimp only; omega) | (left; go_size) | (right; go_size)) _ | refine NewI.alloc ?_ _ | refine NewI.drewN ?_ _ | refine NewI.ext ?_ (by assumption))) (by omega)), hb1, hb2, by show l.length ≤ _; omega, by omega, by omega, (by repeat (first | assumption | refine Rd.setCell ?_ (by first | omega | (dsimp only; omega) | go_size) _ | refine Rd.ext ?_ (Ext.alloc (Below.refl _ _) _) | refine Rd.ext ?_ (Ext.drewN (Below.refl _ _) _))), (by repeat (first | exact ExtR.refl | assumption | refine ExtR.setCell ?_ (.inr (by first | omega | (dsimp only; omega) | go_size)) _ | refine ExtR.alloc ?_ _ | refine ExtR.drew ?_ | refine ExtR.drewN ?_ _))⟩
    · have ey : (y == 0) = false := by simpa using hy
      clear hy
      obtain ⟨f0, f1, f2, f3⟩ := kr.two
      obtain ⟨g0, g1, g2, g3⟩ := km.two
      go_wp2_with (at_make; refine wpList_make_full _ rfl _ _ _ rfl w4.heap.size 5 i0 (.int .u8 0) 1 Try.underlying27 hi0 hz0 hz1 .i64 .i64 _ _ 2001 rfl rfl rfl rfl (by rw [hz2]; omega) (by simp only [maxLen]; omega) (Nat.le_refl _) ?_; intro w5 hown5 hg5; have kr5 := kr.grown hg5 (by simp); have km5 := km.grown hg5 (by simp); obtain ⟨f0, f1, f2, f3⟩ := kr5.two; obtain ⟨g0, g1, g2, g3⟩ := km5.two; have HO := Lib.hid hown5; clear hown5)
      have e : (madeCells (Value.int .u8 0).cells (2001 * 1)).toList = (List.replicate 2001 (0 : UInt8)).map Flat.enc := by
        rw [List.map_replicate]; exact toList_madeCells_one _ _
      have HL := (show (List.replicate 2001 (0 : UInt8)).length = 2001 from List.length_replicate)
      have HN : New w4.heap.size w5 [.slice (some ⟨w4.heap.size, 0, none⟩) 2001 2001] (List.replicate 2001 (0 : UInt8)) := by
        have ho := HO.out
        rw [e] at ho
        refine new_flat ?_ (ownCells_u8 _)
        rw [HL]; exact ho
      generalize List.replicate 2001 (0 : UInt8) = zs at HN HL
      have HI := HN.seal_
      refine bodyPost_ret (v := .agg #[.int .i64 (8 * x), .slice (some ⟨w4.heap.size, 0, none⟩) 2001 2001]) (by simp only [results, Try.results58]; go_simp) rfl ?_
      have hE05 : ExtR r w w5 := ExtR.own hE04 hg5 (by simp)
      have hR5 : Rd w5 r (q3 + 1) := hR4.grown hg5 (by simp)
      have hz5 := hg5.size
      refine ⟨⟨8 * x, zs⟩, some ⟨w4.heap.size, 0, none⟩, 2001, q3 + 1, by rw [show (Img.mk (8 * x) zs).bytes.length = 2001 from HL], Img.new_mk ⟨by show _ ≤ 8 * x; omega, by show 8 * x ≤ _; omega⟩ ?_, by show _ ≤ 8 * x; omega, by show 8 * x ≤ _; omega, by show zs.length ≤ _; omega, by omega, by omega, (by repeat (first | assumption | refine Rd.setCell ?_ (by first | omega | (dsimp only; omega) | go_size) _ | refine Rd.ext ?_ (Ext.alloc (Below.refl _ _) _) | refine Rd.ext ?_ (Ext.drewN (Below.refl _ _) _))), (by repeat (first | exact ExtR.refl | assumption | refine ExtR.setCell ?_ (.inr (by first | omega | (dsimp only; omega) | go_size)) _ | refine ExtR.alloc ?_ _ | refine ExtR.drew ?_ | refine ExtR.drewN ?_ _))⟩
      show New _ _ [.slice _ zs.length 2001] zs
      rw [HL]
      exact (NewI.new (lo := w4.heap.size) (hi := w5.heap.size) (by repeat (first | assumption | refine NewI.setCell ?_ (by first | (left; dsimp only; omega) | (right; dsimp only; omega) | (left; go_size) | (right; go_size)) _ | refine NewI.alloc ?_ _ | refine NewI.drewN ?_ _ | refine NewI.ext ?_ (by assumption))) (by omega))
end Go.Proofs.Ythdekdghhppkgaa
