/- Where sections lie: apart, in order, further on from a greater base. Plain Lean. -/
import Derived.Test.YtfdngmkmeeaeeaaGreatLnkDw
set_option linter.unusedVariables false
set_option linter.unusedSimpArgs false
namespace Go.Proofs.YtfdngmkmeeaeeaaGreat
open Go Go.RowKit

theorem plS_ge {c : Int} {l : List Sect} {a : Int} (h : secsOk l) : a ≤ plS c l a := (plS_bd h).1
theorem curAt_mono {l : List Objt} {b c k i j : Int} (h : layOk l b = true) (hi : 0 ≤ i) (hij : i ≤ j) : curAt l b c k i ≤ curAt l b c k j := by
 unfold curAt
 have hs := (sectsAt_ok (lay_all h).1 k).1
 have e : (sectsAt l k).take j.toNat = (sectsAt l k).take i.toNat ++ ((sectsAt l k).take j.toNat).drop i.toNat := by
  have := List.take_append_drop i.toNat ((sectsAt l k).take j.toNat)
  rw [List.take_take, Nat.min_eq_left (by omega)] at this
  exact this.symm
 rw [e, plS_app]
 exact plS_ge fun s hs' => hs s (List.mem_of_mem_take (List.mem_of_mem_drop hs'))
theorem curO_mono {l : List Objt} {b c k q : Int} (h : layOk l b = true) (hk : 0 ≤ k) (hkq : k ≤ q) : curO l b c k ≤ curO l b c q := by
 unfold curO
 have ha := (lay_all h).1
 have e : l.take q.toNat = l.take k.toNat ++ (l.take q.toNat).drop k.toNat := by
  have := List.take_append_drop k.toNat (l.take q.toNat)
  rw [List.take_take, Nat.min_eq_left (by omega)] at this
  exact this.symm
 rw [e, plO_app]
 refine (plO_bd ?_).1
 rw [List.all_eq_true] at *
 exact fun o ho => ha o (List.mem_of_mem_take (List.mem_of_mem_drop ho))
theorem curO_beg {l : List Objt} {b c k : Int} (h : layOk l b = true) (hk : 0 ≤ k) : begK l b c ≤ curO l b c k := by
 have := curO_mono (b := b) (c := c) h (Int.le_refl 0) hk
 rwa [curO_zero] at this
theorem curAt_O {l : List Objt} {b c k i : Int} (h : layOk l b = true) (hi : 0 ≤ i) : curO l b c k ≤ curAt l b c k i := by
 have := curAt_mono (b := b) (c := c) (k := k) h (Int.le_refl 0) hi
 rwa [curAt_zero] at this
theorem curAt_le_end {l : List Objt} {b c k i : Int} (h : layOk l b = true) (hk : 0 ≤ k) (hl : k < l.length) (hi : 0 ≤ i) : curAt l b c k i ≤ curO l b c (k + 1) := by
 by_cases hi' : i ≤ (sectsAt l k).length
 ·rw [← curAt_end (b := b) (c := c) hk hl (Int.le_refl _)]
  exact curAt_mono h hi hi'
 ·rw [← curAt_end (b := b) (c := c) (i := i) hk hl (by omega)]
  exact Int.le_refl _
theorem atK_step {l : List Objt} {b : Int} (h : layOk l b = true) (n : Nat) : atK l b n ≤ alg (atK l b n) 8 ∧ alg (atK l b n) 8 ≤ atK l b (n + 1) := by
 have h1 := alg_bd (n := atK l b n) al8_8
 have h2 := plO_bd (c := (n : Int) + 1) (a := alg (atK l b n) 8) (lay_all h).1
 simp only [atK]
 omega
theorem atK_mono {l : List Objt} {b : Int} (h : layOk l b = true) : ∀ {n m : Nat}, n ≤ m → atK l b n ≤ atK l b m := by
 intro n m hnm
 induction hnm with
 | refl => exact Int.le_refl _
 | step _ ih => have := atK_step h; rename_i m _; have := this m; exact Int.le_trans ih (Int.le_trans this.1 this.2)
def secP (l : List Objt) (b k i : Int) : Int := plc l b k.toNat i.toNat
theorem secP_eq {l : List Objt} {b k i : Int} {s : Sect} (hk : 0 ≤ k) (hl : k < l.length) (hi : 0 ≤ i) (hs : (sectsAt l k)[i.toNat]? = some s) : secP l b k i = alg (curAt l b s.kind k i) s.align ∧ curAt l b s.kind k (i + 1) = secP l b k i + secSize s := by
 have e := plc_cur (b := b) hk hl hs
 exact ⟨e, by rw [curAt_hit hi hs rfl]; unfold secP; rw [e]⟩
theorem secP_in {l : List Objt} {b k i : Int} {s : Sect} (h : layOk l b = true) (hk : 0 ≤ k) (hl : k < l.length) (hi : 0 ≤ i) (hs : (sectsAt l k)[i.toNat]? = some s) : curAt l b s.kind k i ≤ secP l b k i ∧ secP l b k i % s.align = 0 ∧ begK l b s.kind ≤ secP l b k i ∧ secP l b k i + secSize s ≤ atK l b s.kind.toNat ∧ 0 ≤ secSize s ∧ secSize s ≤ 48 ∧ 1 ≤ s.kind ∧ s.kind ≤ 3 ∧ 1 ≤ s.align := by
 obtain ⟨e1, e2⟩ := secP_eq (b := b) hk hl hi hs
 have g := sect_ok h hs
 have a1 := alg_bd (n := curAt l b s.kind k i) g.2.2.1
 have a2 := al8_bd g.2.2.1
 have c1 := curO_beg (b := b) (c := s.kind) h hk
 have c2 := curAt_O (b := b) (c := s.kind) (k := k) h hi
 have c3 := curAt_le_end (b := b) (c := s.kind) (i := i + 1) h hk hl (by omega)
 have c4 := curO_mono (b := b) (c := s.kind) (k := k + 1) (q := l.length) h (by omega) (by omega)
 rw [curO_end (b := b) g.1 (Int.le_refl _)] at c4
 rw [e2] at c3
 refine ⟨by omega, by rw [e1]; exact a1.2.2, by omega, by omega, g.2.2.2.1, g.2.2.2.2, g.1, g.2.1, a2.1⟩
theorem secP_lt {l : List Objt} {b k i q j : Int} {s t : Sect} (h : layOk l b = true) (hk : 0 ≤ k) (hl : k < l.length) (hi : 0 ≤ i) (hs : (sectsAt l k)[i.toNat]? = some s) (hq : 0 ≤ q) (hql : q < l.length) (hj : 0 ≤ j) (ht : (sectsAt l q)[j.toNat]? = some t)
  (hlt : s.kind < t.kind ∨ (s.kind = t.kind ∧ (k < q ∨ (k = q ∧ i < j)))) : secP l b k i + secSize s ≤ secP l b q j := by
 have g1 := secP_in h hk hl hi hs
 have g2 := secP_in h hq hql hj ht
 obtain ⟨_, e2⟩ := secP_eq (b := b) hk hl hi hs
 rcases hlt with hlt | ⟨he, hlt | ⟨rfl, hlt⟩⟩
 ·have m1 := atK_mono h (n := s.kind.toNat) (m := (t.kind - 1).toNat) (by omega)
  have m2 := atK_step h (t.kind - 1).toNat
  have : begK l b t.kind = alg (atK l b (t.kind - 1).toNat) 8 := rfl
  omega
 ·have m1 := curAt_le_end (b := b) (c := s.kind) (i := i + 1) h hk hl (by omega)
  have m2 := curO_mono (b := b) (c := s.kind) (k := k + 1) (q := q) h (by omega) (by omega)
  have m3 := curAt_O (b := b) (c := s.kind) (k := q) h hj
  rw [← he] at g2
  omega
 ·have m1 := curAt_mono (b := b) (c := s.kind) (k := k) (i := i + 1) (j := j) h (by omega) (by omega)
  rw [← he] at g2
  omega
theorem secP_dis {l : List Objt} {b k i q j : Int} {s t : Sect} (h : layOk l b = true) (hk : 0 ≤ k) (hl : k < l.length) (hi : 0 ≤ i) (hs : (sectsAt l k)[i.toNat]? = some s) (hq : 0 ≤ q) (hql : q < l.length) (hj : 0 ≤ j) (ht : (sectsAt l q)[j.toNat]? = some t)
  (hne : k ≠ q ∨ i ≠ j) : secP l b k i + secSize s ≤ secP l b q j ∨ secP l b q j + secSize t ≤ secP l b k i := by
 by_cases h1 : s.kind < t.kind ∨ (s.kind = t.kind ∧ (k < q ∨ (k = q ∧ i < j)))
 ·exact .inl (secP_lt h hk hl hi hs hq hql hj ht h1)
 ·exact .inr (secP_lt h hq hql hj ht hk hl hi hs (by omega))
structure Used (l : List Objt) (b k j i : Int) (u : List Bool) : Prop where
 len : u.length = (endPl l b - b).toNat
 old : ∀ p : Nat, u[p]? = some true → ∃ (k' j' : Int) (s' : Sect), 0 ≤ k' ∧ k' < l.length ∧ 0 ≤ j' ∧ (sectsAt l k')[j'.toNat]? = some s' ∧ secP l b k' j' - b ≤ p ∧ p < secP l b k' j' - b + secSize s' ∧ (k' < k ∨ (k' = k ∧ (j' < j ∨ (j' = j ∧ p < secP l b k j - b + i))))
/-! A greater base. -/
/-! Kinds, regions. -/
end Go.Proofs.YtfdngmkmeeaeeaaGreat
