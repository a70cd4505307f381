/- How many numbers the marks take: plain Lean. -/
import Derived.Test.YtpgglbnagphgoaaGreatFamDQ
set_option linter.unusedVariables false
set_option linter.unusedSimpArgs false
namespace Go.Proofs.YtpgglbnagphgoaaGreat
open Go Go.RowKit

theorem szR_nn {s n : Int} (h : 0 ≤ szR s n) : s ≤ n ∧ szR s n = n - s := by
 unfold szR at *; split at h <;> simp_all <;> omega
theorem cSe_all (l : List Sect) : sumI cSe l ≤ 4 * (l.length + sumI szSe l) := by
 induction l with
 | nil => simp [sumI]
 | cons s l ih =>
  have h : cSe s ≤ 4 + 4 * szSe s := by unfold cSe szSe; rw [cOne_len, c4_len]; omega
  simp only [sumI, List.length_cons, Int.natCast_add]
  simp
  omega
theorem cOb_le (o : Objt) : cOb o ≤ 4 * szOb o := by
 have h1 := cSe_all o.sects
 have h2 := sumI_nn szSy_nn o.syms
 unfold cOb szOb
 rw [c4_len]
 omega
theorem cOb_all (l : List Objt) : sumI cOb l ≤ 4 * sumI szOb l := by
 induction l with
 | nil => simp [sumI]
 | cons o l ih => have := cOb_le o; simp only [sumI]; omega
theorem cOne_mk {α : Type} {mk : α → Int → α} {c : α → Int} (l : List α) (k : Int) : sumI cOne (mkL mk c l k) = sumI cOne l := by rw [cOne_len, cOne_len, mkL_len]
theorem c4_mk {α : Type} {mk : α → Int → α} {c : α → Int} (l : List α) (k : Int) : sumI c4 (mkL mk c l k) = sumI c4 l := by rw [c4_len, c4_len, mkL_len]
theorem cSe_mk (l : List Sect) (k : Int) : sumI cSe (mkL mkSe cSe l k) = sumI cSe l := by
 induction l generalizing k with
 | nil => rfl
 | cons x l ih =>
  simp only [mkL, sumI, ih]
  have : cSe (mkSe x k) = cSe x := by unfold cSe mkSe; rw [cOne_mk, c4_mk]
  rw [this]
theorem cOb_mk (o : Objt) (k : Int) : cOb (mkOb o k) = cOb o := by unfold cOb mkOb; rw [cSe_mk, c4_mk]
end Go.Proofs.YtpgglbnagphgoaaGreat
