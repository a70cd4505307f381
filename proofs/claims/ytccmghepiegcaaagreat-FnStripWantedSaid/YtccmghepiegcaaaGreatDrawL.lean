/- The readers that the laws on objects draw their data with. -/
import Derived.Test.YtccmghepiegcaaaGreatDrawO
set_option linter.unusedVariables false
set_option linter.unusedSimpArgs false
namespace Go.Proofs.YtccmghepiegcaaaGreat
open Go Go.RowKit


theorem sumI_bd {α : Type} {f : α → Int} {p : α → Bool} {c : Int} (hc : 0 ≤ c) (hp : ∀ x, p x = true → f x ≤ c) : ∀ {l : List α}, l.all p = true → sumI f l ≤ c * l.length := by
  intro l
  induction l with
  | nil => intro _; simp [sumI]
  | cons x l ih =>
    intro h
    simp only [List.all_cons, Bool.and_eq_true] at h
    have h1 := hp x h.1
    have h2 := ih h.2
    simp only [sumI, List.length_cons, Int.natCast_add, Int.mul_add]
    simp
    omega
theorem objSm_sz {o : Objt} (h : objSm o = true) : szOb o ≤ 2000 := by
  have h1 := objSm_iff.1 h
  have h2 := sumI_bd (f := szSe) (p := secSm) (c := 100) (by omega) (fun s hs => by have := secSm_iff.1 hs; unfold szSe; omega) h1.2.1
  have h3 := sumI_bd (f := szSy) (p := symSm) (c := 16) (by omega) (fun s hs => by have := symSm_iff.1 hs; unfold szSy; omega) h1.2.2
  unfold szOb
  omega
theorem objsA_sz {l : List Objt} (h : objsA l = true) (hl : l.length ≤ 20) : l.length + sumI szOb l ≤ 100000 := by
  have h2 := sumI_bd (f := szOb) (p := objSm) (c := 2000) (by omega) (fun o ho => objSm_sz ho) h
  omega
def mbSm (m : Member) : Bool := nmSm m.name && objSm m.what
def mbsA (l : List Member) : Bool := l.all mbSm
theorem mbsA_nil : mbsA [] = true := rfl
theorem mbsA_app {l : List Member} {m : Member} (h : mbsA l = true) (hm : mbSm m = true) : mbsA (l ++ [m]) = true := all_snoc h hm
theorem mbSm_mk {a : ByteArray} {b : List Sect} {c : List Sym} (h : a.size ≤ 16) (h' : objSm ⟨b, c⟩ = true) : mbSm ⟨a, ⟨b, c⟩⟩ = true := by
  unfold mbSm; rw [h']; simp [nmSm, h]
theorem mbSm_sz {m : Member} (h : mbSm m = true) : szMb m ≤ 3000 := by
  simp only [mbSm, Bool.and_eq_true] at h
  have := objSm_sz h.2
  have h2 : m.name.size ≤ 16 := of_decide_eq_true h.1
  unfold szMb
  omega
theorem mbsA_sz {l : List Member} (h : mbsA l = true) (hl : l.length ≤ 20) : l.length + sumI szMb l ≤ 100000 := by
  have h2 := sumI_bd (f := szMb) (p := mbSm) (c := 3000) (by omega) (fun o ho => mbSm_sz ho) h
  omega
theorem repl_mbs (n : Int) : mbsA (repl n (⟨⟨⟨[]⟩⟩, ⟨[], []⟩⟩ : Member)) = true := List.all_eq_true.2 fun y hy => by rw [List.eq_of_mem_replicate hy]; rfl
end Go.Proofs.YtccmghepiegcaaaGreat
