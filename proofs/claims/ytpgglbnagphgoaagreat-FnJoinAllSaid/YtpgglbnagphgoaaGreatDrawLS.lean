/- The readers that the laws on objects draw their data with. -/
import Derived.Test.YtpgglbnagphgoaaGreatDrawOS
set_option linter.unusedVariables false
set_option linter.unusedSimpArgs false
namespace Go.Proofs.YtpgglbnagphgoaaGreat
open Go Go.RowKit


theorem sumI_bd {α : Type} {f : α → Int} {p : α → Bool} {c : Int} (hc : 0 ≤ c) (hp : ∀ x, p x = true → f x ≤ c) : ∀ {l : List α}, l.all p = true → sumI f l ≤ c * l.length := by
 intro l
 induction l with
 | nil => intro _; simp [sumI]
 | cons x l ih =>
  intro h
  simp only [List.all_cons, Bool.and_eq_true] at h
  have h1 := hp x h.1
  have h2 := ih h.2
  simp only [sumI, List.length_cons, Int.natCast_add, Int.mul_add]
  simp
  omega
theorem objSm_sz {o : Objt} (h : objSm o = true) : szOb o ≤ 2000 := by
 have h1 := objSm_iff.1 h
 have h2 := sumI_bd (f := szSe) (p := secSm) (c := 100) (by omega) (fun s hs => by have := secSm_iff.1 hs; unfold szSe; omega) h1.2.1
 have h3 := sumI_bd (f := szSy) (p := symSm) (c := 16) (by omega) (fun s hs => by have := symSm_iff.1 hs; unfold szSy; omega) h1.2.2
 unfold szOb
 omega
end Go.Proofs.YtpgglbnagphgoaaGreat
