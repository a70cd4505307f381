/- The reader opened; names, bytes and images drawn. -/
import Derived.Test.YthdekdghhppkgaaDraw
import Derived.Test.YthdekdghhppkgaaToS
import Derived.Test.YthdekdghhppkgaaFill
namespace Go.Proofs.Ythdekdghhppkgaa
open Go.RowKit
open Mem (rep own)

theorem ownsRow_form {lo e size n : Nat} {v : Value} {xs : List Value} {w : World} (h : w.ownsRow lo e size v n xs) : ∃ A c, v = .slice A n c ∧ n ≤ c ∧ c ≤ 9223372036854775807 := by
  obtain ⟨h1, ⟨rfl, rfl⟩ | ⟨g, cap, cur, rfl, _, _, h2, h3, _⟩⟩ := h
  · exact ⟨none, 0, rfl, Nat.le_refl _, by omega⟩
  · exact ⟨_, cap, rfl, h2, by simpa [maxLen] using h3⟩
theorem cell_of_all {Q : Value → Prop} {cs : Array Value} (h : ∀ u ∈ cs.toList, Q u) {i : Nat} (hi : i < cs.size) : ∃ u, cs[i]? = some u ∧ Q u :=
  ⟨cs[i], Array.getElem?_eq_getElem hi, h _ (Array.getElem_mem_toList hi)⟩
theorem allQ_nil {Q : Value → Prop} : ∀ u ∈ ([] : List Value), Q u := by intro u hu; cases hu
theorem allQ_cons {Q : Value → Prop} {a : Value} {l : List Value} (h : Q a) (hl : ∀ u ∈ l, Q u) : ∀ u ∈ a :: l, Q u := by
  intro u hu
  rcases List.mem_cons.1 hu with rfl | h'
  · exact h
  · exact hl u h'
/-- The cell i of a block that was just laid, behind a step of the reader. -/
theorem cell_new_R {Q : Value → Prop} {w w' : World} {cs : Array Value} {t r : Nat} (hE : ExtR r (w.alloc (.cells cs t)) w') (hr : r < w.heap.size) (h : ∀ u ∈ cs.toList, Q u) {i : Nat} (hi : i < cs.size) :
    ∃ u, w'.cell? ⟨w.heap.size, i, none⟩ = some u ∧ Q u := by
  obtain ⟨u, hu, hq⟩ := cell_of_all h hi
  exact ⟨u, cell_extR hE ((World.cell?_alloc_new w cs t i).trans hu) (by simp; omega), hq⟩

theorem repCells_u8 {w w' : World} {F G : Nat → Prop} {cs : List Value} {xs : List UInt8} (h : RepCells w F cs xs) : RepCells w' G cs xs := by
  induction h with
  | nil => exact .nil
  | cons h1 _ ih => exact .cons h1 ih
theorem ExtR.own {r : Nat} {a w w' : World} {row : Option Nat} (h : ExtR r a w) (hg : w.grownBy w' row) (hr : ∀ k, row = some k → a.heap.size ≤ k) : ExtR r a w' :=
  ⟨hg.os.trans h.os, hg.tape.trans h.tape, hg.output.trans h.output, Nat.le_trans h.size hg.size, fun i hi hne => (hg.block i (Nat.lt_of_lt_of_le hi h.size) (fun e => by have := hr i e.symm; omega)).trans (h.block i hi hne)⟩
theorem Rd.grown {w w' : World} {r p : Nat} {row : Option Nat} (h : Rd w r p) (hg : w.grownBy w' row) (hr : ∀ k, row = some k → r < k) : Rd w' r p := by
  have hlt := h.lt
  obtain ⟨A, c, code, hh, hr', h1, h2, h3⟩ := h
  exact ⟨A, c, code, (hg.block r hlt (fun e => by have := hr r e.symm; omega)).trans hh, hr'.mono (fun b hb hlt => hg.block b hlt (fun e => by have := hr b e.symm; omega)) (fun _ h => h) hg.size, h1, h2, h3⟩
theorem c_open (code : List UInt8) (F : Nat → Prop) (A : Option Addr) (n c : Nat) (w : World) (h : rep w F [.slice A n c] code) :
    Calls Try.prog 55 #[.slice A n c] w fun e w' => ∃ r, e = .returned (.pointer (some ⟨r, 0, none⟩)) ∧ w.heap.size ≤ r ∧ Rd w' r 0 ∧ Ext w w' := by
  obtain ⟨rfl, h1, h2, h3⟩ := rep_slice h
  clear h
  have h4 : ∀ k, RepAt w (fun b => F b ∧ b < w.heap.size) A (code.take k) := fun k hne => by
    obtain ⟨b, off, rfl, hF, hlt, cs, hc, hx⟩ := (h3.take k) hne
    exact ⟨b, off, rfl, ⟨hF, hlt⟩, hlt, cs, repCells_u8 hc, hx⟩
  by_cases g : code.length ≤ 2000
  · have h5 := h4 code.length
    rw [List.take_length] at h5
    go_enter Try.func55, Try.ntmps55
    go_wp2_with fail
    go_ret
    exact ⟨_, rfl, Nat.le_refl _, ⟨A, c, code, heap_alloc_new _ _, (h5.mono (fun b _ hb => Below.heap_alloc _ _ _ hb) (fun _ hh => hh.2) (by simp)), g, h1, h2⟩, (by repeat (first | exact Below.refl _ _ | assumption | refine Ext.alloc ?_ _ | refine Ext.drew ?_ | refine Ext.drewN ?_ _ | refine Ext.setCell ?_ (by first | omega | (dsimp only; omega) | go_size) _ | refine Ext.trans ?_ (by assumption)))⟩
  · have h5 := h4 2000
    have hl : (code.take 2000).length = 2000 := by rw [List.length_take]; omega
    have hl' := Lib.hid hl
    clear hl
    go_enter Try.func55, Try.ntmps55
    go_wp2_with fail
    go_ret
    refine ⟨_, rfl, Nat.le_refl _, ⟨A, c, code.take 2000, ?_, (h5.mono (fun b _ hb => Below.heap_alloc _ _ _ hb) (fun _ hh => hh.2) (by simp)), by rw [hl'.out]; omega, by rw [hl'.out]; omega, h2⟩, (by repeat (first | exact Below.refl _ _ | assumption | refine Ext.alloc ?_ _ | refine Ext.drew ?_ | refine Ext.drewN ?_ _ | refine Ext.setCell ?_ (by first | omega | (dsimp only; omega) | go_size) _ | refine Ext.trans ?_ (by assumption)))⟩
    rw [hl'.out]
    exact heap_alloc_new _ _

def NamePost (r p : Nat) (w : World) (e : Ending) (w' : World) : Prop := ∃ (s : ByteArray) (q : Nat), e = .returned (.string s) ∧ s.size ≤ 9 ∧ p ≤ q ∧ q ≤ p + 2 ∧ Rd w' r q ∧ ExtR r w w'
def ShortStr (u : Value) : Prop := ∃ s : ByteArray, u = .string s ∧ s.size ≤ 9
set_option maxHeartbeats 1000000 in
theorem c_name (r p : Nat) (n : Int) (w : World) (h : Rd w r p) (hp : p ≤ 100000000000) (hn : n ≤ 1000000000000) (hn0 : 0 ≤ n) :
    Calls Try.prog 56 #[.pointer (some ⟨r, 0, none⟩), .int .i64 n] w (NamePost r p w) := by
  go_enter Try.func56, Try.ntmps56
  go_wp2_with (go_at_call 66; refine (c_odd r p n _ h (by omega) hn hn0).mono ?_; rintro e w1 ⟨b, q, rfl, hq1, hq2, hR1, hE1⟩)
  all_goals
    have hlt := hR1.lt
    refine (c_pick r q _ _ (hR1.ext (by repeat (first | exact Below.refl _ _ | assumption | refine Ext.alloc ?_ _ | refine Ext.drew ?_ | refine Ext.drewN ?_ _ | refine Ext.setCell ?_ (by first | omega | (dsimp only; omega) | go_size) _ | refine Ext.trans ?_ (by assumption)))) (by omega) (by omega)).mono ?_
    rintro e w2 ⟨x, rfl, hx0, hx1, hR2, hE2⟩
  · obtain ⟨u, ku, s, rfl, hs⟩ := cell_new_R (Q := ShortStr) (i := x.toNat) hE2 hlt (by repeat (first | exact allQ_nil | refine allQ_cons ⟨_, rfl, by decide⟩ ?_)) (by simp; omega)
    have hx2 : x < 6 := by omega
    go_wp2_with fail
    go_ret
    exact ⟨s, q + 1, rfl, hs, by omega, by omega, hR2, hE1.trans ((ExtR.of_ext (by repeat (first | exact Below.refl _ _ | assumption | refine Ext.alloc ?_ _ | refine Ext.drew ?_ | refine Ext.drewN ?_ _ | refine Ext.setCell ?_ (by first | omega | (dsimp only; omega) | go_size) _ | refine Ext.trans ?_ (by assumption)))).trans hE2)⟩
  · obtain ⟨u, ku, s, rfl, hs⟩ := cell_new_R (Q := ShortStr) (i := x.toNat) hE2 hlt (by repeat (first | exact allQ_nil | refine allQ_cons ⟨_, rfl, by decide⟩ ?_)) (by simp; omega)
    have hx2 : x < 10 := by omega
    go_wp2_with fail
    go_ret
    exact ⟨s, q + 1, rfl, hs, by omega, by omega, hR2, hE1.trans ((ExtR.of_ext (by repeat (first | exact Below.refl _ _ | assumption | refine Ext.alloc ?_ _ | refine Ext.drew ?_ | refine Ext.drewN ?_ _ | refine Ext.setCell ?_ (by first | omega | (dsimp only; omega) | go_size) _ | refine Ext.trans ?_ (by assumption)))).trans hE2)⟩

def BytesPost (r p : Nat) (most : Int) (w : World) (e : Ending) (w' : World) : Prop := ∃ (l : List UInt8) (A : Option Addr) (c q : Nat), e = .returned (.slice A l.length c) ∧ (l.length : Int) ≤ most ∧ New w.heap.size w' [.slice A l.length c] l ∧ p ≤ q ∧ q ≤ p + 1 + 2 * l.length ∧ Rd w' r q ∧ ExtR r w w'
set_option maxHeartbeats 2000000 in
theorem c_bytes (r p : Nat) (most : Int) (w : World) (h : Rd w r p) (hp : p ≤ 100000000000) (hm0 : 0 ≤ most) (hm : most ≤ 1000) :
    Calls Try.prog 71 #[.pointer (some ⟨r, 0, none⟩), .int .i64 most] w (BytesPost r p most w) := by
  obtain ⟨i0, hi0, hz0, hz1, hz2⟩ := info_parts info_u8
  have hrw := h.lt
  go_enter Try.func71, Try.ntmps71
  go_wp2_with (go_at_call 60; refine (c_pick r p _ _ (h.ext (by repeat (first | exact Below.refl _ _ | assumption | refine Ext.alloc ?_ _ | refine Ext.drew ?_ | refine Ext.drewN ?_ _ | refine Ext.setCell ?_ (by first | omega | (dsimp only; omega) | go_size) _ | refine Ext.trans ?_ (by assumption)))) (by omega) (by omega)).mono ?_; rintro e w1 ⟨x, rfl, hx0, hx1, hR1, hE1⟩)
  obtain ⟨k0, rfl⟩ := Int.eq_ofNat_of_zero_le hx0
  have ho1 : w1.ownsRow w.heap.size 5 1 (.slice (some ⟨w.heap.size, 0, none⟩) 0 0) 0 (([] : List UInt8).map Flat.enc) :=
    ownsRow_extR (World.ownsRow_made w #[] 0 (Nat.le_refl _) (by decide) rfl) hE1 (by simp [Value.ownBlock]; omega)
  have ho1 := Lib.hid ho1
  have hEw : ExtR r w w1 := (ExtR.of_ext (by repeat (first | exact Below.refl _ _ | assumption | refine Ext.alloc ?_ _ | refine Ext.drew ?_ | refine Ext.drewN ?_ _ | refine Ext.setCell ?_ (by first | omega | (dsimp only; omega) | go_size) _ | refine Ext.trans ?_ (by assumption)))).trans hE1
  clear hE1
  go_loopw [5, 6] (fun v i wr => ∃ (l : List UInt8) (k q : Nat), i = .int .i64 k ∧ l.length + k ≤ k0 ∧ Hid (wr.ownsRow w.heap.size 5 1 v l.length (l.map Flat.enc)) ∧ Rd wr r q ∧ p ≤ q ∧ q ≤ p + 1 + 2 * l.length ∧ ExtR r w wr) (fun _ i _ => (intOf i).toNat)
  case atStart => exact ⟨[], k0, p + 1, rfl, by simp, ho1, hR1, by omega, by simp, hEw⟩
  case round =>
    obtain ⟨l, k, q, rfl, hlk, hown, hR, hq1, hq2, hE⟩ := hrel
    by_cases hk : 0 < k
    · go_wp2_with fail
      refine (c_pick r q _ _ hR (by omega) (by omega)).mono ?_
      rintro e w2 ⟨x1, rfl, hy0, hy1, hR2, hE2⟩
      have hy2 : x1 < 256 := by omega
      obtain ⟨b1, rfl⟩ : ∃ b : UInt8, x1 = (b.toNat : Int) := ⟨UInt8.ofNat x1.toNat, by rw [UInt8.toNat_ofNat_of_lt' (by show x1.toNat < 256; omega)]; omega⟩
      have hlt2 := hR2.lt
      go_wp2_with fail
      refine (c_pick r (q + 1) _ _ (hR2.ext (by repeat (first | exact Below.refl _ _ | assumption | refine Ext.alloc ?_ _ | refine Ext.drew ?_ | refine Ext.drewN ?_ _ | refine Ext.setCell ?_ (by first | omega | (dsimp only; omega) | go_size) _ | refine Ext.trans ?_ (by assumption)))) (by omega) (by omega)).mono ?_
      rintro e w3 ⟨x2, rfl, hz0', hz1', hR3, hE3⟩
      have hz2' : x2 < 3 := by omega
      obtain ⟨u, ku, b2, rfl⟩ := cell_new_R (Q := fun u => ∃ b : UInt8, u = .int .u8 (b.toNat : Int)) (i := x2.toNat) hE3 hlt2 (by exact allQ_cons ⟨b1, rfl⟩ (allQ_cons ⟨0, rfl⟩ (allQ_cons ⟨255, rfl⟩ allQ_nil))) (by simp; omega)
      have hE' : ExtR r wr w3 := hE2.trans ((ExtR.of_ext (by repeat (first | exact Below.refl _ _ | assumption | refine Ext.alloc ?_ _ | refine Ext.drew ?_ | refine Ext.drewN ?_ _ | refine Ext.setCell ?_ (by first | omega | (dsimp only; omega) | go_size) _ | refine Ext.trans ?_ (by assumption)))).trans hE3)
      have hown3 := Lib.hid (ownsRow_extR hown.out hE' (fun e => by have := (hown.out.lt r e).1; omega))
      have hlt3 := hR3.lt
      have hsz := hE.size
      have hsz' := hE'.size
      go_wp2_with (at_builtin; refine wpList_append_own _ rfl (.tmp 16) (.tmp 25) _ rfl w.heap.size 5 i0 (.int .u8 0) 1 1 Try.underlying27 hi0 hz0 hz1 hz2 rfl (by decide) u5 l.length (l.map Flat.enc) rfl (hown3.out.alloc _) ⟨w3.heap.size, 0, none⟩ 1 1 [.int .u8 (b2.toNat : Int)] rfl rfl (cell_one_new _ _ _) (by simp [Value.oneCell']) (by simp only [maxLen]; omega) (by omega) (by simp; omega) ?_; intro v' w5 hown5 hg5 _)
      have hEX : ExtR r w (w3.alloc (.cells #[.int .u8 (b2.toNat : Int)] 5)) := (hE.trans hE').trans (ExtR.of_ext (by repeat (first | exact Below.refl _ _ | assumption | refine Ext.alloc ?_ _ | refine Ext.drew ?_ | refine Ext.drewN ?_ _ | refine Ext.setCell ?_ (by first | omega | (dsimp only; omega) | go_size) _ | refine Ext.trans ?_ (by assumption))))
      have hbl : ∀ j, u5.ownBlock = some j → w.heap.size ≤ j := fun j e => (hown.out.lt j e).1
      have hown6 := Lib.hid (show w5.ownsRow w.heap.size 5 1 v' (l ++ [b2]).length ((l ++ [b2]).map Flat.enc) by simpa [Flat.enc] using hown5)
      clear hown5
      go_roundw
      case rel => exact ⟨l ++ [b2], k - 1, q + 1 + 1, by congr 1; omega, by simp; omega, hown6, (hR3.ext (by repeat (first | exact Below.refl _ _ | assumption | refine Ext.alloc ?_ _ | refine Ext.drew ?_ | refine Ext.drewN ?_ _ | refine Ext.setCell ?_ (by first | omega | (dsimp only; omega) | go_size) _ | refine Ext.trans ?_ (by assumption)))).grown hg5 (fun j e => by have := hbl j e; omega), by omega, by simp; omega, hEX.own hg5 hbl⟩
      case measure => simp [intOf]; omega
    · go_wp2_with fail
      go_ret
      obtain ⟨A, c, rfl, hc1, hc2⟩ := ownsRow_form hown.out
      exact ⟨l, A, c, q, rfl, by omega, new_flat hown.out (ownCells_u8 l), by omega, hq2, hR, hE⟩

/-- A value whose memory lies in the blocks lo .. hi - 1. -/
def NewI {α : Type} [Mem α] (lo hi : Nat) (w : World) (cs : List Value) (x : α) : Prop := ∃ l, own w l cs x ∧ ∀ b ∈ l, lo ≤ b ∧ b < hi
section
variable {α : Type} [Mem α] {lo hi lo' r : Nat} {w w' : World} {cs : List Value} {x : α}
theorem New.seal_ (h : New lo w cs x) : NewI lo w.heap.size w cs x := by
  obtain ⟨l, h1, h2⟩ := h
  exact ⟨l, h1, fun b hb => ⟨h2 b hb, Mem.own_lt h1 b hb⟩⟩
theorem NewI.new (h : NewI lo hi w cs x) (hl : lo' ≤ lo) : New lo' w cs x := by
  obtain ⟨l, h1, h2⟩ := h
  exact ⟨l, h1, fun b hb => Nat.le_trans hl (h2 b hb).1⟩
theorem NewI.rep_ (h : NewI lo hi w cs x) : rep w (fun b => lo ≤ b ∧ b < hi) cs x := by
  obtain ⟨l, ho, hl⟩ := h
  exact Mem.rep_mono (fun _ _ _ => rfl) hl (Nat.le_refl _) (Mem.own_rep ho)
theorem NewI.ext (h : NewI lo hi w cs x) (hb : Ext w w') : NewI lo hi w' cs x := by
  obtain ⟨l, h1, h2⟩ := h
  exact ⟨l, own_ext h1 hb, h2⟩
theorem NewI.extR (h : NewI lo hi w cs x) (hb : ExtR r w w') (hr : r < lo) : NewI lo hi w' cs x := by
  obtain ⟨l, h1, h2⟩ := h
  exact ⟨l, own_grown h1 hb (fun k hk hm => by injection hk with hk; subst hk; have := h2 _ hm; omega), h2⟩
theorem NewI.grown {row : Option Nat} (h : NewI lo hi w cs x) (hb : w.grownBy w' row) (hr : ∀ k, row = some k → k < lo ∨ hi ≤ k) : NewI lo hi w' cs x := by
  obtain ⟨l, h1, h2⟩ := h
  exact ⟨l, own_grown h1 hb (fun k hk hm => by have := hr k hk; have := h2 _ hm; omega), h2⟩
theorem NewI.setCell (h : NewI lo hi w cs x) {p : Addr} (hp : p.block < lo ∨ hi ≤ p.block) (u : Value) : NewI lo hi (w.setCell p u) cs x := by
  obtain ⟨l, h1, h2⟩ := h
  exact ⟨l, Mem.own_mono (fun b hm => Below.heap_setCell _ _ _ _ (by have := h2 b hm; omega)) h1, h2⟩
theorem NewI.alloc (h : NewI lo hi w cs x) (o : Obj) : NewI lo hi (w.alloc o) cs x := h.ext (Ext.alloc (Below.refl _ _) o)
theorem NewI.drewN (h : NewI lo hi w cs x) (n : Nat) : NewI lo hi (w.drewN n) cs x := h.ext (Ext.drewN (Below.refl _ _) n)
end
theorem Blk.extR {w w' : World} {g : Nat} {t : TypeId} {cs : Array Value} {r : Nat} (h : Blk w g t cs) (hb : ExtR r w w') (hne : g ≠ r) : Blk w' g t cs := (hb.block g h.lt (fun e => hne (by injection e))).trans h
end Go.Proofs.Ythdekdghhppkgaa
