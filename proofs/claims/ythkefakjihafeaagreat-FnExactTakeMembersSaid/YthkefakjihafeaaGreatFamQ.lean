/- How many numbers the marks take: plain Lean. -/
import Derived.Test.YthkefakjihafeaaGreatFamD
set_option linter.unusedVariables false
set_option linter.unusedSimpArgs false
namespace Go.Proofs.YthkefakjihafeaaGreat
open Go Go.RowKit

theorem szR_nn {s n : Int} (h : 0 ≤ szR s n) : s ≤ n ∧ szR s n = n - s := by
  unfold szR at *; split at h <;> simp_all <;> omega
theorem sumI_le3 {α : Type} {f : α → Int} {c : Int} : ∀ {l : List α}, (∀ x ∈ l, f x ≤ c) → sumI f l ≤ c * l.length := by
  intro l
  induction l with
  | nil => intro _; simp [sumI]
  | cons x l ih =>
    intro h
    have h1 := h x (by simp)
    have h2 := ih fun y hy => h y (by simp [hy])
    simp only [sumI, List.length_cons, Int.natCast_add, Int.mul_add]
    simp
    omega
theorem cSe_all (l : List Sect) : sumI cSe l ≤ 4 * (l.length + sumI szSe l) := by
  induction l with
  | nil => simp [sumI]
  | cons s l ih =>
    have h : cSe s ≤ 4 + 4 * szSe s := by unfold cSe szSe; rw [cOne_len, c4_len]; omega
    simp only [sumI, List.length_cons, Int.natCast_add]
    simp
    omega
theorem cOb_le (o : Objt) : cOb o ≤ 4 * szOb o := by
  have h1 := cSe_all o.sects
  have h2 := sumI_nn szSy_nn o.syms
  unfold cOb szOb
  rw [c4_len]
  omega
theorem cOb_all (l : List Objt) : sumI cOb l ≤ 4 * sumI szOb l := by
  induction l with
  | nil => simp [sumI]
  | cons o l ih => have := cOb_le o; simp only [sumI]; omega
theorem cMb_all (l : List Member) : sumI cMb l ≤ l.length + 4 * sumI szMb l := by
  induction l with
  | nil => simp [sumI]
  | cons m l ih =>
    have h : cMb m ≤ 1 + 4 * szMb m := by have := cOb_le m.what; unfold cMb szMb; omega
    simp only [sumI, List.length_cons, Int.natCast_add]
    simp
    omega
theorem cOne_mk {α : Type} {mk : α → Int → α} {c : α → Int} (l : List α) (k : Int) : sumI cOne (mkL mk c l k) = sumI cOne l := by rw [cOne_len, cOne_len, mkL_len]
theorem c4_mk {α : Type} {mk : α → Int → α} {c : α → Int} (l : List α) (k : Int) : sumI c4 (mkL mk c l k) = sumI c4 l := by rw [c4_len, c4_len, mkL_len]
theorem cIL_mk (l : List (List Int)) (k : Int) : sumI cIL (mkL mkIL cIL l k) = sumI cIL l := by
  induction l generalizing k with
  | nil => rfl
  | cons x l ih =>
    simp only [mkL, sumI, ih]
    have : cIL (mkIL x k) = cIL x := cOne_mk x k
    rw [this]
theorem cSe_mk (l : List Sect) (k : Int) : sumI cSe (mkL mkSe cSe l k) = sumI cSe l := by
  induction l generalizing k with
  | nil => rfl
  | cons x l ih =>
    simp only [mkL, sumI, ih]
    have : cSe (mkSe x k) = cSe x := by unfold cSe mkSe; rw [cOne_mk, c4_mk]
    rw [this]
theorem cOb_mk (o : Objt) (k : Int) : cOb (mkOb o k) = cOb o := by unfold cOb mkOb; rw [cSe_mk, c4_mk]
/-- What is marked is held. -/
theorem held_mk {α : Type} {mk : α → Int → α} {c : α → Int} {h : α → Int → Int} (hc : ∀ x, 0 ≤ c x) (hh : Held mk c h) (l : List α) : hdL h (mkL mk c l 1) 1 = 1 + sumI c l ∧ 0 ≤ sumI c l := ⟨hdL_mk hc hh l 1 (by omega), sumI_nn hc l⟩
end Go.Proofs.YthkefakjihafeaaGreat
