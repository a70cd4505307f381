/- Lists, loop by loop. -/
import Derived.Test.YtpgglbnagphgoaaGreatDraw0S
set_option linter.unusedVariables false
set_option linter.unusedSimpArgs false
namespace Go.Proofs.YtpgglbnagphgoaaGreat
open Go Go.RowKit

theorem take_snoc {α : Type} {l : List α} {k : Nat} {x : α} (h : l[k]? = some x) : l.take (k + 1) = l.take k ++ [x] := by
 obtain ⟨hk, e⟩ := List.getElem?_eq_some_iff.1 h
 rw [List.take_succ_eq_append_getElem hk, e]
theorem lt_of_some {α : Type} {l : List α} {k : Nat} {x : α} (h : l[k]? = some x) : k < l.length := (List.getElem?_eq_some_iff.1 h).1
theorem take_eq_step {α : Type} {a b : List α} {k : Nat} {x y : α} (ha : a[k]? = some x) (hb : b[k]? = some y) (h : a.take k = b.take k) (e : x = y) : a.take (k + 1) = b.take (k + 1) := by
 rw [take_snoc ha, take_snoc hb, h, e]
theorem take_ne {α : Type} {a b : List α} {k : Nat} {x y : α} (ha : a[k]? = some x) (hb : b[k]? = some y) (e : x ≠ y) : a ≠ b := fun h => by
 subst h
 rw [ha] at hb
 injection hb with hb
 exact e hb
theorem take_full {α : Type} {a b : List α} {k : Nat} (h : a.take k = b.take k) (ha : a.length ≤ k) (hb : b.length ≤ k) : a = b := by
 rwa [List.take_of_length_le ha, List.take_of_length_le hb] at h
def sumI {α : Type} (f : α → Int) : List α → Int
 | [] => 0
 | x :: l => f x + sumI f l
theorem sumI_append {α : Type} (f : α → Int) (l m : List α) : sumI f (l ++ m) = sumI f l + sumI f m := by
 induction l with
 | nil => simp [sumI]
 | cons x l ih => simp only [List.cons_append, sumI, ih]; omega
theorem sumI_nn {α : Type} {f : α → Int} (hf : ∀ x, 0 ≤ f x) (l : List α) : 0 ≤ sumI f l := by
 induction l with
 | nil => simp [sumI]
 | cons x l ih => have := hf x; simp only [sumI]; omega
def mkL {α : Type} (mk : α → Int → α) (c : α → Int) : List α → Int → List α
 | [], _ => []
 | x :: l, k => mk x k :: mkL mk c l (k + c x)
theorem mkL_len {α : Type} {mk : α → Int → α} {c : α → Int} (l : List α) (k : Int) : (mkL mk c l k).length = l.length := by
 induction l generalizing k with
 | nil => rfl
 | cons x l ih => simp [mkL, ih]
def mkd {α : Type} (mk : α → Int → α) (c : α → Int) (l : List α) (k : Int) (i : Nat) : List α := mkL mk c (l.take i) k ++ l.drop i
theorem mkd_len {α : Type} {mk : α → Int → α} {c : α → Int} {l : List α} {k : Int} {i : Nat} : (mkd mk c l k i).length = l.length := by
 simp [mkd, mkL_len]; omega
theorem mkd_get {α : Type} {mk : α → Int → α} {c : α → Int} {l : List α} {k : Int} {i : Nat} : (mkd mk c l k i)[i]? = l[i]? := by
 unfold mkd
 by_cases h : i < l.length
 ·have e : (mkL mk c (l.take i) k).length = i := by rw [mkL_len, List.length_take]; omega
  rw [List.getElem?_append_right (by omega), e, Nat.sub_self, List.getElem?_drop, Nat.add_zero]
 ·rw [List.getElem?_eq_none (by have := mkd_len (mk := mk) (c := c) (l := l) (k := k) (i := i); unfold mkd at this; omega), List.getElem?_eq_none (by omega)]
theorem all_take {α : Type} {p : α → Bool} {l : List α} (h : l.all p = true) (k : Nat) : (l.take k).all p = true := by
 rw [List.all_eq_true] at *
 intro x hx
 exact h x (List.mem_of_mem_take hx)
theorem all_get {α : Type} {p : α → Bool} {l : List α} {k : Nat} {x : α} (h : l.all p = true) (hx : l[k]? = some x) : p x = true := List.all_eq_true.1 h x (List.mem_of_getElem? hx)
end Go.Proofs.YtpgglbnagphgoaaGreat
