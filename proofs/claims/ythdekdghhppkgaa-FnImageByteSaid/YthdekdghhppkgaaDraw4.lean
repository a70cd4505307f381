/- An image and a place drawn. -/
import Derived.Test.YthdekdghhppkgaaDraw3
import Derived.Deep.RegionWith
namespace Go.Proofs.Ythdekdghhppkgaa
open Go.RowKit
open Mem (rep own)

set_option maxHeartbeats 1000000 in
theorem c_DrawImageByte (code : List UInt8) (F : Nat → Prop) (v : Value) (w : World) (h : rep w F [v] code) :
    Calls Try.prog 29 #[v] w fun e w' => ∃ (m : Img) (A : Option Addr) (c : Nat) (x : Int), e = .returned (.tuple #[.agg #[.int .i64 m.base, .slice A m.bytes.length c], .int .i64 x]) ∧ rep w' (fun b => w.heap.size ≤ b) [.int .i64 m.base, .slice A m.bytes.length c] m ∧ m.bytes.length ≤ 2001 ∧ -20 ≤ x ∧ x ≤ 5000 ∧ -8 ≤ m.base ∧ Ext w w' := by
  obtain ⟨A, c, hv, _⟩ := rep_list h
  simp only [List.cons.injEq, and_true] at hv
  subst hv
  go_enter Try.func29, Try.ntmps29
  go_wp2_with fail
  refine (c_open code F _ _ _ _ (rep_ext h (by repeat (first | exact Below.refl _ _ | assumption | refine Ext.alloc ?_ _ | refine Ext.drew ?_ | refine Ext.drewN ?_ _ | refine Ext.setCell ?_ (by first | omega | (dsimp only; omega) | go_size) _ | refine Ext.trans ?_ (by assumption))))).mono ?_
  rintro e w1 ⟨r, rfl, hr, hR1, hE1⟩
  have hlt1 := hR1.lt
  have kr := (Blk.new w 32 _).ext hE1
  simp at hr
  go_wp2_with fail
  refine (c_image r 0 9 _ hR1 (by omega) (by omega) (by omega)).mono ?_
  rintro e w2 ⟨m, A1, c1, q1, rfl, hnew, hm1, hm2, hm3, hq1a, hq1b, hR2, hE2⟩
  replace kr := kr.extR hE2 (by omega)
  have hn := hnew.seal_
  have kz := hE2.size
  have kz1 := hE1.size
  simp at kz1
  clear hnew
  have hE : Ext w w2 := Ext.ofR (Ext.trans (by repeat (first | exact Below.refl _ _ | assumption | refine Ext.alloc ?_ _ | refine Ext.drew ?_ | refine Ext.drewN ?_ _ | refine Ext.setCell ?_ (by first | omega | (dsimp only; omega) | go_size) _ | refine Ext.trans ?_ (by assumption))) hE1) hE2 (by omega)
  have km := Blk.new w2 32 #[.int .i64 m.base, .slice A1 m.bytes.length c1]
  replace kr := kr.alloc (.cells #[.int .i64 m.base, .slice A1 m.bytes.length c1] 32)
  have hlt2 := hR2.lt
  obtain ⟨f0, f1, f2, f3⟩ := kr.two
  obtain ⟨g0, g1, g2, g3⟩ := km.two
  go_wp2_with fail
  have hR2' := hR2.ext (show Ext w2 (w2.alloc (.cells #[.int .i64 m.base, .slice A1 m.bytes.length c1] 32)) from (by repeat (first | exact Below.refl _ _ | assumption | refine Ext.alloc ?_ _ | refine Ext.drew ?_ | refine Ext.drewN ?_ _ | refine Ext.setCell ?_ (by first | omega | (dsimp only; omega) | go_size) _ | refine Ext.trans ?_ (by assumption))))
  have hn2 := hn.alloc (.cells #[.int .i64 m.base, .slice A1 m.bytes.length c1] 32)
  have hE' : Ext w (w2.alloc (.cells #[.int .i64 m.base, .slice A1 m.bytes.length c1] 32)) := (by repeat (first | exact Below.refl _ _ | assumption | refine Ext.alloc ?_ _ | refine Ext.drew ?_ | refine Ext.drewN ?_ _ | refine Ext.setCell ?_ (by first | omega | (dsimp only; omega) | go_size) _ | refine Ext.trans ?_ (by assumption)))
  clear hn hE hE1 hE2 hR1 hR2 h
  generalize w2.alloc (.cells #[.int .i64 m.base, .slice A1 m.bytes.length c1] 32) = W2 at *
  go_region_with (first | (go_at_call 60; refine (c_pick r q1 24 _ (hR2'.ext (by repeat (first | exact Below.refl _ _ | assumption | refine Ext.alloc ?_ _ | refine Ext.drew ?_ | refine Ext.drewN ?_ _ | refine Ext.setCell ?_ (by first | omega | (dsimp only; omega) | go_size) _ | refine Ext.trans ?_ (by assumption)))) (by omega) (by omega)).mono ?_; rintro e w3 ⟨x, rfl, hx0, hx1, hR3, hE3⟩; have hx2 : x < 24 := (by omega); have hE3' : ExtR r W2 w3 := World.grownBy.trans (ExtR.drew ExtR.refl) hE3; obtain ⟨f0', f1', f2', f3'⟩ := (kr.extR hE3' (by omega)).two; obtain ⟨g0', g1', g2', g3'⟩ := (km.extR hE3' (by omega)).two))
  all_goals
    go_wp2_with fail
    refine bodyPost_ret (v := .tuple #[.agg #[.int .i64 m.base, .slice A1 m.bytes.length c1], .int .i64 (IntKind.i64.wrap (IntKind.i64.wrap (m.base + x) - 2))]) (by simp only [results, Try.results29]; go_simp) rfl ?_
    have hn3 := hn2.extR hE3' (by omega)
    have hE3'' : Ext w w3 := Ext.ofR hE' hE3' (by omega)
    have kz3 := hE3'.size
    exact ⟨m, A1, c1, m.base + x - 2, by rw [IntWalk.i64_in (m.base + x) (by omega), IntWalk.i64_in _ (by omega)], (NewI.new (lo := w1.heap.size) (hi := w2.heap.size) (lo' := w.heap.size) (by repeat (first | assumption | refine NewI.setCell ?_ (by first | (left; dsimp only; omega) | (right; dsimp only; omega) | (left; go_size) | (right; go_size)) _ | refine NewI.alloc ?_ _ | refine NewI.drewN ?_ _ | refine NewI.ext ?_ (by assumption))) (by omega)).rep_, hm3, by omega, by omega, hm1, (by repeat (first | exact Below.refl _ _ | assumption | refine Ext.alloc ?_ _ | refine Ext.drew ?_ | refine Ext.drewN ?_ _ | refine Ext.setCell ?_ (by first | omega | (dsimp only; omega) | go_size) _ | refine Ext.trans ?_ (by assumption)))⟩
end Go.Proofs.Ythdekdghhppkgaa
