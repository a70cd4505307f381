/- The reader of codes: pick, odd, open. What is drawn does not matter: only its range, and that the reader's own block alone is written. -/
import Derived.Test.YthdekdghhppkgaaNum
import Derived.Laws.BitsAllLaws
import Derived.Laws.BitsLemmas
import Derived.Deep.RegionHeld3
namespace Go.Proofs.Ythdekdghhppkgaa
open Go.RowKit
open Mem (rep own)

/-- Of the old blocks at most block r has turned. -/
abbrev ExtR (r : Nat) (w w' : World) : Prop := w.grownBy w' (some r)
theorem ExtR.of_ext {r : Nat} {w w' : World} (h : Ext w w') : ExtR r w w' := ⟨h.os, h.tape, h.output, h.size, fun k hk _ => h.block k hk⟩
theorem ExtR.refl {r : Nat} {w : World} : ExtR r w w := World.grownBy.refl _ _
theorem ExtR.alloc {r : Nat} {a w : World} (h : ExtR r a w) (o : Obj) : ExtR r a (w.alloc o) := h.trans (World.grownBy_alloc _ _ _)
theorem ExtR.drew {r : Nat} {a w : World} (h : ExtR r a w) : ExtR r a w.drew := ⟨h.os, h.tape, h.output, h.size, h.block⟩
theorem ExtR.drewN {r : Nat} {a w : World} (h : ExtR r a w) (n : Nat) : ExtR r a (w.drewN n) := ⟨h.os, h.tape, h.output, h.size, h.block⟩
theorem ExtR.setCell {r : Nat} {a w : World} (h : ExtR r a w) {p : Addr} (hp : p.block = r ∨ a.heap.size ≤ p.block) (u : Value) : ExtR r a (w.setCell p u) :=
  ⟨h.os, h.tape, h.output, by simpa [World.setCell] using h.size, fun i hi hne => (Below.heap_setCell w p u i (by
    rintro rfl
    rcases hp with hp | hp
    · exact hne (by rw [hp])
    · omega)).trans (h.block i hi hne)⟩
theorem Ext.ofR {a w w' : World} {r : Nat} (h : Ext a w) (hr : ExtR r w w') (hlt : a.heap.size ≤ r) : Ext a w' := Ext.grown h hr (by intro k hk; injection hk with hk; omega)
theorem cell_extR {r : Nat} {w w' : World} {a : Addr} {v : Value} (hb : ExtR r w w') (h : w.cell? a = some v) (hne : a.block ≠ r) : w'.cell? a = some v :=
  hb.cell h (fun e => hne (by injection e))
theorem New.extR {α : Type} [Mem α] {lo r : Nat} {w w' : World} {cs : List Value} {x : α} (h : New lo w cs x) (hb : ExtR r w w') (hr : r < lo) : New lo w' cs x := by
  obtain ⟨l, h1, h2⟩ := h
  exact ⟨l, own_grown h1 hb (fun k hk hm => by injection hk with hk; subst hk; have := h2 _ hm; omega), h2⟩
theorem ownsRow_extR {base e size n r : Nat} {v : Value} {xs : List Value} {w w' : World} (h : w.ownsRow base e size v n xs) (hb : ExtR r w w') (hr : v.ownBlock ≠ some r) : w'.ownsRow base e size v n xs :=
  h.kept hb (.inr hr)

/-- Block r is a reader at place p. -/
def Rd (w : World) (r p : Nat) : Prop :=
  ∃ (A : Option Addr) (c : Nat) (code : List UInt8), w.heap[r]? = some (.cells #[.slice A code.length c, .int .i64 p] 91 (0, 0)) ∧ RepAt w (· < r) A code ∧ code.length ≤ 2000 ∧ code.length ≤ c ∧ c ≤ 9223372036854775807
theorem Rd.lt {w : World} {r p : Nat} (h : Rd w r p) : r < w.heap.size := by
  obtain ⟨A, c, code, hh, _⟩ := h
  exact (Array.getElem?_eq_some_iff.1 hh).1
theorem Rd.ext {w w' : World} {r p : Nat} (h : Rd w r p) (hb : Ext w w') : Rd w' r p := by
  have hlt := h.lt
  obtain ⟨A, c, code, hh, hr, h1, h2, h3⟩ := h
  exact ⟨A, c, code, (hb.block r hlt).trans hh, hr.ext hb, h1, h2, h3⟩
theorem Rd.setCell {w : World} {r p : Nat} (h : Rd w r p) {q : Addr} (hq : r < q.block) (u : Value) : Rd (w.setCell q u) r p := by
  obtain ⟨A, c, code, hh, hr, h1, h2, h3⟩ := h
  refine ⟨A, c, code, (Below.heap_setCell _ _ _ _ (by omega)).trans hh, hr.mono (fun b hb _ => Below.heap_setCell _ _ _ _ (by omega)) (fun _ h => h) (by simp), h1, h2, h3⟩
theorem Rd.next {w : World} {r p q : Nat} (h : Rd w r p) : Rd (w.setCell ⟨r, 1, none⟩ (.int .i64 q)) r q := by
  obtain ⟨A, c, code, hh, hr, h1, h2, h3⟩ := h
  refine ⟨A, c, code, by rw [heap_setCell_same w r 1 _ _ _ hh]; rfl, hr.mono (fun b hb _ => Below.heap_setCell _ _ _ _ (by simp; omega)) (fun _ h => h) (by simp), h1, h2, h3⟩

theorem ofInt_i64 (a : Nat) (ha : a < 9223372036854775808) : (BitVec.ofInt 64 (a : Int)).toNat = a := by
  rw [BitVec.ofInt_natCast, BitVec.toNat_ofNat]; exact Nat.mod_eq_of_lt (by omega)
theorem i64_xor_nat (a b : Nat) (ha : a < 9223372036854775808) (hb : b < 9223372036854775808) : bits .xor .i64 (a : Int) (b : Int) = ((a ^^^ b : Nat) : Int) := by
  have hx : a ^^^ b < 2 ^ 63 := Nat.xor_lt_two_pow (by omega) (by omega)
  show IntKind.i64.wrap ((BitVec.ofInt 64 (a : Int) ^^^ BitVec.ofInt 64 (b : Int)).toNat : Int) = _
  rw [BitVec.toNat_xor, ofInt_i64 a ha, ofInt_i64 b hb, IntKind.wrap_i64]
  omega
theorem xor_bd (x : Int) (h0 : 0 ≤ x) (h1 : x ≤ 9000000000000000000) : 0 ≤ bits .xor .i64 x (x / 64) ∧ bits .xor .i64 x (x / 64) ≤ 9223372036854775807 := by
  obtain ⟨a, rfl⟩ := Int.eq_ofNat_of_zero_le h0
  rw [show ((a : Int) / 64) = ((a / 64 : Nat) : Int) from rfl, i64_xor_nat a (a / 64) (by omega) (by omega)]
  have hx : a ^^^ (a / 64) < 2 ^ 63 := Nat.xor_lt_two_pow (by omega) (by omega)
  omega

/-- What pick hands back: a number in 0..n-1, or 0. -/
def PickPost (r p : Nat) (n : Int) (w : World) (e : Ending) (w' : World) : Prop :=
  ∃ x : Int, e = .returned (.int .i64 x) ∧ 0 ≤ x ∧ (x < n ∨ x = 0) ∧ Rd w' r (p + 1) ∧ ExtR r w w'
set_option maxHeartbeats 4000000 in
theorem c_pick (r p : Nat) (n : Int) (w : World) (h : Rd w r p) (hp : p ≤ 1000000000000) (hn : n ≤ 1000000000000) :
    Calls Try.prog 60 #[.pointer (some ⟨r, 0, none⟩), .int .i64 n] w (PickPost r p n w) := by
  have hR := h
  have hlt := h.lt
  have hR1 : Rd (w.setCell ⟨r, 1, none⟩ (.int .i64 ((p + 1 : Nat) : Int))) r (p + 1) := h.next
  obtain ⟨A, c, code, hh, hr, h1, h2, h3⟩ := h
  have k0 : w.cell? ⟨r, 0, none⟩ = some (.slice A code.length c) := by rw [cell_of_row w r 0 _ _ _ hh]; rfl
  have k1 : w.cell? ⟨r, 1, none⟩ = some (.int .i64 p) := by rw [cell_of_row w r 1 _ _ _ hh]; rfl
  have kf : w.frozen? ⟨r, 1, none⟩ = false := frozen_of_row w r 1 _ _ hh
  by_cases g1 : n < 1
  · go_enter Try.func60, Try.ntmps60
    go_wp2_with fail
    go_ret
    exact ⟨0, rfl, by omega, by omega, hR1, ExtR.setCell ExtR.refl (.inl rfl) _⟩
  by_cases g2 : code.length = 0
  · have e2 : ((code.length : Int) == 0) = true := by simp [g2]
    clear g2
    go_enter Try.func60, Try.ntmps60
    go_wp2_with fail
    go_ret
    exact ⟨0, rfl, by omega, by omega, hR1, ExtR.setCell ExtR.refl (.inl rfl) _⟩
  have e2 : ((code.length : Int) == 0) = false := by simpa using g2
  by_cases g3 : p < code.length
  · obtain ⟨b, off, x, rfl, hb0, hbl, hx, kx, hx2⟩ := u8_at_k hr p g3
    have kx' : (w.setCell ⟨r, 1, none⟩ (.int .i64 ((p + 1 : Nat) : Int))).cell? ⟨b, off + p, none⟩ = some (.int .u8 (x.toNat : Int)) := by
      rw [World.cell?_setCell_other _ _ _ _ (by intro hh; injection hh with h1 _; omega)]; exact kx
    go_enter Try.func60, Try.ntmps60
    go_wp2_with fail
    go_ret
    exact ⟨_, rfl, Int.emod_nonneg _ (by omega), .inl (Int.emod_lt_of_pos _ (by omega)), hR1, ExtR.setCell ExtR.refl (.inl rfl) _⟩
  · have hl : 0 < code.length := by omega
    have t1 : (p : Int).tmod code.length = (p : Int) % code.length := Int.tmod_eq_emod_of_nonneg (by omega)
    have t2 : ((p : Int) * 7 + 3).tmod code.length = ((p : Int) * 7 + 3) % code.length := Int.tmod_eq_emod_of_nonneg (by omega)
    have t3 : (p : Int).tdiv code.length = (p : Int) / code.length := Int.tdiv_eq_ediv_of_nonneg (by omega)
    have m1 : (0 : Int) ≤ (p : Int) % code.length := Int.emod_nonneg _ (by omega)
    have m2 : (p : Int) % code.length < code.length := Int.emod_lt_of_pos _ (by omega)
    have m3 : (0 : Int) ≤ ((p : Int) * 7 + 3) % code.length := Int.emod_nonneg _ (by omega)
    have m4 : ((p : Int) * 7 + 3) % code.length < code.length := Int.emod_lt_of_pos _ (by omega)
    have m5 : (0 : Int) ≤ (p : Int) / code.length := Int.ediv_nonneg (by omega) (by omega)
    have m6 : (p : Int) / code.length ≤ p := Int.ediv_le_self _ (by omega)
    have hm1 : ((p : Int) % code.length).toNat < code.length := by omega
    have hm2 : (((p : Int) * 7 + 3) % code.length).toNat < code.length := by omega
    obtain ⟨b, off, x, rfl, hb0, hbl, hx, kx, hx2⟩ := u8_at_k hr _ hm1
    obtain ⟨b', off', y, he, hb0', hbl', hy, ky, hy2⟩ := u8_at_k hr _ hm2
    injection he with he
    injection he with he1 he2
    subst he1 he2
    have kx' : (w.setCell ⟨r, 1, none⟩ (.int .i64 ((p : Int) + 1))).cell? ⟨b, off + ((p : Int) % code.length).toNat, none⟩ = some (.int .u8 (x.toNat : Int)) := by
      rw [World.cell?_setCell_other _ _ _ _ (by intro hh; injection hh with h1 _; omega)]; exact kx
    have ky' : (w.setCell ⟨r, 1, none⟩ (.int .i64 ((p : Int) + 1))).cell? ⟨b, off + (((p : Int) * 7 + 3) % code.length).toNat, none⟩ = some (.int .u8 (y.toNat : Int)) := by
      rw [World.cell?_setCell_other _ _ _ _ (by intro hh; injection hh with h1 _; omega)]; exact ky
    have e1 : IntKind.i64.wrap ((p : Int) * 7) = (p : Int) * 7 := IntWalk.i64_in _ (by omega)
    have e2 : IntKind.i64.wrap ((p : Int) * 7 + 3) = (p : Int) * 7 + 3 := IntWalk.i64_in _ (by omega)
    have e3 : IntKind.i64.wrap ((x.toNat : Int) * 131) = (x.toNat : Int) * 131 := IntWalk.i64_in _ (by omega)
    have e4 : IntKind.i64.wrap ((y.toNat : Int) * 1117) = (y.toNat : Int) * 1117 := IntWalk.i64_in _ (by omega)
    have e5 : IntKind.i64.wrap ((x.toNat : Int) * 131 + (y.toNat : Int) * 1117) = (x.toNat : Int) * 131 + (y.toNat : Int) * 1117 := IntWalk.i64_in _ (by omega)
    have e6 : IntKind.i64.wrap ((p : Int) * 29) = (p : Int) * 29 := IntWalk.i64_in _ (by omega)
    have e7 : IntKind.i64.wrap ((x.toNat : Int) * 131 + (y.toNat : Int) * 1117 + (p : Int) * 29) = (x.toNat : Int) * 131 + (y.toNat : Int) * 1117 + (p : Int) * 29 := IntWalk.i64_in _ (by omega)
    have e8 : IntKind.i64.wrap ((p : Int) / code.length) = (p : Int) / code.length := IntWalk.i64_in _ (by omega)
    have e9 : IntKind.i64.wrap ((p : Int) / code.length * 53) = (p : Int) / code.length * 53 := IntWalk.i64_in _ (by omega)
    have e10 : IntKind.i64.wrap ((x.toNat : Int) * 131 + (y.toNat : Int) * 1117 + (p : Int) * 29 + (p : Int) / code.length * 53) = (x.toNat : Int) * 131 + (y.toNat : Int) * 1117 + (p : Int) * 29 + (p : Int) / code.length * 53 := IntWalk.i64_in _ (by omega)
    have e11 : IntKind.i64.wrap (x.toNat : Int) = (x.toNat : Int) := IntWalk.i64_in _ (by omega)
    have e12 : IntKind.i64.wrap (y.toNat : Int) = (y.toNat : Int) := IntWalk.i64_in _ (by omega)
    go_enter Try.func60, Try.ntmps60
    go_wp2_with fail
    go_quiet (fail)
    clear e1 e2 e3 e4 e5 e6 e7 e8 e9 e10 e11 e12 t1 t2 t3 kx' ky'
    obtain ⟨V, hV, hV0, hV1⟩ : ∃ V : Int, V = (x.toNat : Int) * 131 + (y.toNat : Int) * 1117 + (p : Int) * 29 + (p : Int) / code.length * 53 ∧ 0 ≤ V ∧ V ≤ 9000000000000000000 := ⟨_, rfl, by omega, by omega⟩
    rw [← hV]
    clear hV
    obtain ⟨hX0, hX1⟩ := xor_bd V hV0 hV1
    go_wp2_with fail
    go_ret
    exact ⟨_, rfl, Int.emod_nonneg _ (by omega), .inl (Int.emod_lt_of_pos _ (by omega)), hR1.ext (by repeat (first | exact Below.refl _ _ | assumption | refine Ext.alloc ?_ _ | refine Ext.drew ?_ | refine Ext.drewN ?_ _ | refine Ext.setCell ?_ (by first | omega | (dsimp only; omega) | go_size) _ | refine Ext.trans ?_ (by assumption))), ExtR.drewN (ExtR.setCell ExtR.refl (.inl rfl) _) _⟩

/-- What odd hands back: whatever it is. -/
def OddPost (r p : Nat) (w : World) (e : Ending) (w' : World) : Prop := ∃ (b : Bool) (q : Nat), e = .returned (.bool b) ∧ p ≤ q ∧ q ≤ p + 1 ∧ Rd w' r q ∧ ExtR r w w'
theorem c_odd (r p : Nat) (n : Int) (w : World) (h : Rd w r p) (hp : p ≤ 1000000000000) (hn : n ≤ 1000000000000) (hn0 : 0 ≤ n) :
    Calls Try.prog 66 #[.pointer (some ⟨r, 0, none⟩), .int .i64 n] w (OddPost r p w) := by
  by_cases g : 0 < n
  · go_enter Try.func66, Try.ntmps66
    go_wp2_with (go_at_call 60; refine (c_pick r p n _ h hp hn).mono ?_; rintro e w1 ⟨x, rfl, hx0, hx1, hR, hE⟩)
    go_ret
    exact ⟨_, p + 1, rfl, by omega, by omega, hR, hE⟩
  · go_enter Try.func66, Try.ntmps66
    go_wp2_with fail
    go_ret
    exact ⟨_, p, rfl, by omega, by omega, h, ExtR.refl⟩
end Go.Proofs.Ythdekdghhppkgaa
