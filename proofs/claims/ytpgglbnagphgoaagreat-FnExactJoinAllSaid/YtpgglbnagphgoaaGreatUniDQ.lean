/- No two symbols of a valid object that are not local have one name: plain Lean. -/
import Derived.Test.YtpgglbnagphgoaaGreatResEQ
set_option linter.unusedVariables false
set_option linter.unusedSimpArgs false
namespace Go.Proofs.YtpgglbnagphgoaaGreat
open Go Go.RowKit

/-! Symbols of a valid object by their names. -/
def glo (l : List Sym) (n : ByteArray) : Option Sym := l.find? fun s => decide (s.bind ≠ 0 ∧ s.name = n)
def Uniq : List Sym → Prop
 | [] => True
 | s :: l => (s.bind ≠ 0 → ∀ t ∈ l, t.bind ≠ 0 → t.name ≠ s.name) ∧ Uniq l
theorem uniq_of {x : List Sect} : ∀ {l pre : List Sym}, symsB x pre l = true → Uniq l ∧ ∀ t ∈ l, t.bind ≠ 0 → ∀ s ∈ pre, s.bind ≠ 0 → s.name ≠ t.name := by
 intro l
 induction l with
 | nil => intro pre _; exact ⟨trivial, fun t ht => by cases ht⟩
 | cons s l ih =>
  intro pre h
  simp only [symsB, Bool.and_eq_true] at h
  obtain ⟨h1, h2⟩ := ih h.2
  have hn := h.1.2
  simp only [newSym, decide_eq_true_eq] at hn
  refine ⟨⟨fun hb t ht htb e => h2 t ht htb s (by simp) hb e.symm, h1⟩, fun t ht htb u hu hub => ?_⟩
  rcases List.mem_cons.1 ht with rfl | ht
  ·intro e
   rcases hn with hn | hn
   ·exact htb hn
   ·exact hn u hu ⟨hub, e⟩
  ·exact h2 t ht htb u (by simp [hu]) hub
theorem objB_uniq {o : Objt} (h : objB o = true) : Uniq o.syms := by
 simp only [objB, Bool.and_eq_true] at h
 exact (uniq_of h.2).1
end Go.Proofs.YtpgglbnagphgoaaGreat
