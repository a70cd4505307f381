/- Lists, loop by loop. -/
import Derived.Test.YtpgglbnagphgoaaGreatDraw0Q
set_option linter.unusedVariables false
set_option linter.unusedSimpArgs false
namespace Go.Proofs.YtpgglbnagphgoaaGreat
open Go Go.RowKit

theorem take_snoc {α : Type} {l : List α} {k : Nat} {x : α} (h : l[k]? = some x) : l.take (k + 1) = l.take k ++ [x] := by
 obtain ⟨hk, e⟩ := List.getElem?_eq_some_iff.1 h
 rw [List.take_succ_eq_append_getElem hk, e]
theorem lt_of_some {α : Type} {l : List α} {k : Nat} {x : α} (h : l[k]? = some x) : k < l.length := (List.getElem?_eq_some_iff.1 h).1
theorem take_eq_step {α : Type} {a b : List α} {k : Nat} {x y : α} (ha : a[k]? = some x) (hb : b[k]? = some y) (h : a.take k = b.take k) (e : x = y) : a.take (k + 1) = b.take (k + 1) := by
 rw [take_snoc ha, take_snoc hb, h, e]
theorem take_ne {α : Type} {a b : List α} {k : Nat} {x y : α} (ha : a[k]? = some x) (hb : b[k]? = some y) (e : x ≠ y) : a ≠ b := fun h => by
 subst h
 rw [ha] at hb
 injection hb with hb
 exact e hb
theorem take_full {α : Type} {a b : List α} {k : Nat} (h : a.take k = b.take k) (ha : a.length ≤ k) (hb : b.length ≤ k) : a = b := by
 rwa [List.take_of_length_le ha, List.take_of_length_le hb] at h
theorem set_fill {α : Type} {a : List α} {n k : Nat} {x z : α} (h : a[k]? = some x) (hn : a.length = n) : (a.take k ++ List.replicate (n - k) z).set k x = a.take (k + 1) ++ List.replicate (n - (k + 1)) z := by
 have hk := lt_of_some h
 have e : n - k = (n - (k + 1)) + 1 := by omega
 rw [take_snoc h, e, List.replicate_succ, List.set_append_right _ _ (by simp; omega)]
 have : k - (a.take k).length = 0 := by simp; omega
 rw [this, List.set_cons_zero, List.append_assoc]
 rfl
theorem fill_full {α : Type} {a : List α} {n k : Nat} {z : α} (hn : a.length = n) (hk : n ≤ k) : a.take k ++ List.replicate (n - k) z = a := by
 rw [show n - k = 0 by omega, List.take_of_length_le (by omega)]
 simp
def sumI {α : Type} (f : α → Int) : List α → Int
 | [] => 0
 | x :: l => f x + sumI f l
theorem sumI_append {α : Type} (f : α → Int) (l m : List α) : sumI f (l ++ m) = sumI f l + sumI f m := by
 induction l with
 | nil => simp [sumI]
 | cons x l ih => simp only [List.cons_append, sumI, ih]; omega
theorem sumI_nn {α : Type} {f : α → Int} (hf : ∀ x, 0 ≤ f x) (l : List α) : 0 ≤ sumI f l := by
 induction l with
 | nil => simp [sumI]
 | cons x l ih => have := hf x; simp only [sumI]; omega
theorem sumI_take {α : Type} {f : α → Int} {l : List α} {k : Nat} {x : α} (h : l[k]? = some x) : sumI f (l.take (k + 1)) = sumI f (l.take k) + f x := by
 rw [take_snoc h, sumI_append]; simp [sumI]
theorem sumI_le {α : Type} {f : α → Int} (hf : ∀ x, 0 ≤ f x) (l : List α) (k : Nat) : sumI f (l.take k) ≤ sumI f l := by
 have := sumI_append f (l.take k) (l.drop k)
 rw [List.take_append_drop] at this
 have := sumI_nn hf (l.drop k)
 omega
theorem sumI_full {α : Type} {f : α → Int} {l : List α} {k : Nat} (h : l.length ≤ k) : sumI f (l.take k) = sumI f l := by rw [List.take_of_length_le h]
theorem sumI_one {α : Type} (l : List α) : sumI (fun _ => (1 : Int)) l = l.length := by
 induction l with
 | nil => rfl
 | cons x l ih => simp only [sumI, ih, List.length_cons]; omega
theorem sumI_const {α : Type} (c : Int) (l : List α) : sumI (fun _ => c) l = c * l.length := by
 induction l with
 | nil => simp [sumI]
 | cons x l ih => simp only [sumI, ih, List.length_cons, Int.natCast_add, Int.mul_add]; simp; omega
def szR (s left : Int) : Int := if s ≤ left then left - s else -1
def mkL {α : Type} (mk : α → Int → α) (c : α → Int) : List α → Int → List α
 | [], _ => []
 | x :: l, k => mk x k :: mkL mk c l (k + c x)
def hdL {α : Type} (h : α → Int → Int) : List α → Int → Int
 | [], k => k
 | x :: l, k => if h x k < 0 then -1 else hdL h l (h x k)
theorem mkL_len {α : Type} {mk : α → Int → α} {c : α → Int} (l : List α) (k : Int) : (mkL mk c l k).length = l.length := by
 induction l generalizing k with
 | nil => rfl
 | cons x l ih => simp [mkL, ih]
theorem mkL_append {α : Type} {mk : α → Int → α} {c : α → Int} (l m : List α) (k : Int) : mkL mk c (l ++ m) k = mkL mk c l k ++ mkL mk c m (k + sumI c l) := by
 induction l generalizing k with
 | nil => simp [mkL, sumI]
 | cons x l ih => simp only [List.cons_append, mkL, ih, sumI]; rw [Int.add_assoc]
theorem hdL_mkL {α : Type} {mk : α → Int → α} {c : α → Int} {h : α → Int → Int} (hc : ∀ x, 0 ≤ c x) (hh : ∀ x k, 0 ≤ k → h (mk x k) k = k + c x) (l : List α) (k : Int) (hk : 0 ≤ k) : hdL h (mkL mk c l k) k = k + sumI c l := by
 induction l generalizing k with
 | nil => simp [mkL, hdL, sumI]
 | cons x l ih =>
  have := hc x
  simp only [mkL, hdL, hh x k hk, sumI]
  rw [if_neg (by omega), ih _ (by omega)]
  omega
def mkd {α : Type} (mk : α → Int → α) (c : α → Int) (l : List α) (k : Int) (i : Nat) : List α := mkL mk c (l.take i) k ++ l.drop i
theorem mkd_zero {α : Type} {mk : α → Int → α} {c : α → Int} (l : List α) (k : Int) : mkd mk c l k 0 = l := by simp [mkd, mkL]
theorem mkd_full {α : Type} {mk : α → Int → α} {c : α → Int} {l : List α} {k : Int} {i : Nat} (h : l.length ≤ i) : mkd mk c l k i = mkL mk c l k := by
 simp [mkd, List.take_of_length_le h, List.drop_eq_nil_of_le h]
theorem mkd_len {α : Type} {mk : α → Int → α} {c : α → Int} {l : List α} {k : Int} {i : Nat} : (mkd mk c l k i).length = l.length := by
 simp [mkd, mkL_len]; omega
theorem mkd_get {α : Type} {mk : α → Int → α} {c : α → Int} {l : List α} {k : Int} {i : Nat} : (mkd mk c l k i)[i]? = l[i]? := by
 unfold mkd
 by_cases h : i < l.length
 ·have e : (mkL mk c (l.take i) k).length = i := by rw [mkL_len, List.length_take]; omega
  rw [List.getElem?_append_right (by omega), e, Nat.sub_self, List.getElem?_drop, Nat.add_zero]
 ·rw [List.getElem?_eq_none (by have := mkd_len (mk := mk) (c := c) (l := l) (k := k) (i := i); unfold mkd at this; omega), List.getElem?_eq_none (by omega)]
theorem mkd_set {α : Type} {mk : α → Int → α} {c : α → Int} {l : List α} {k : Int} {i : Nat} {x : α} (h : l[i]? = some x) : (mkd mk c l k i).set i (mk x (k + sumI c (l.take i))) = mkd mk c l k (i + 1) := by
 unfold mkd
 have hi := lt_of_some h
 have e : (mkL mk c (l.take i) k).length = i := by rw [mkL_len, List.length_take]; omega
 rw [List.set_append_right _ _ (by omega), e, Nat.sub_self, List.drop_eq_getElem_cons hi, List.set_cons_zero, take_snoc h, mkL_append]
 simp [mkL]
theorem all_take {α : Type} {p : α → Bool} {l : List α} (h : l.all p = true) (k : Nat) : (l.take k).all p = true := by
 rw [List.all_eq_true] at *
 intro x hx
 exact h x (List.mem_of_mem_take hx)
theorem all_get {α : Type} {p : α → Bool} {l : List α} {k : Nat} {x : α} (h : l.all p = true) (hx : l[k]? = some x) : p x = true := List.all_eq_true.1 h x (List.mem_of_getElem? hx)
end Go.Proofs.YtpgglbnagphgoaaGreat
