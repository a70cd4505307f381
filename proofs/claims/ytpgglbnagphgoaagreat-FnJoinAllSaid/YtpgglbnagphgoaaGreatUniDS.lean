/- No two symbols of a valid object that are not local have one name: plain Lean. -/
import Derived.Test.YtpgglbnagphgoaaGreatResES
set_option linter.unusedVariables false
set_option linter.unusedSimpArgs false
namespace Go.Proofs.YtpgglbnagphgoaaGreat
open Go Go.RowKit

/-! Symbols of a valid object by their names. -/
def glo (l : List Sym) (n : ByteArray) : Option Sym := l.find? fun s => decide (s.bind ≠ 0 ∧ s.name = n)
def Uniq : List Sym → Prop
 | [] => True
 | s :: l => (s.bind ≠ 0 → ∀ t ∈ l, t.bind ≠ 0 → t.name ≠ s.name) ∧ Uniq l
theorem uniq_of {x : List Sect} : ∀ {l pre : List Sym}, symsB x pre l = true → Uniq l ∧ ∀ t ∈ l, t.bind ≠ 0 → ∀ s ∈ pre, s.bind ≠ 0 → s.name ≠ t.name := by
 intro l
 induction l with
 | nil => intro pre _; exact ⟨trivial, fun t ht => by cases ht⟩
 | cons s l ih =>
  intro pre h
  simp only [symsB, Bool.and_eq_true] at h
  obtain ⟨h1, h2⟩ := ih h.2
  have hn := h.1.2
  simp only [newSym, decide_eq_true_eq] at hn
  refine ⟨⟨fun hb t ht htb e => h2 t ht htb s (by simp) hb e.symm, h1⟩, fun t ht htb u hu hub => ?_⟩
  rcases List.mem_cons.1 ht with rfl | ht
  ·intro e
   rcases hn with hn | hn
   ·exact htb hn
   ·exact hn u hu ⟨hub, e⟩
  ·exact h2 t ht htb u (by simp [hu]) hub
theorem objB_uniq {o : Objt} (h : objB o = true) : Uniq o.syms := by
 simp only [objB, Bool.and_eq_true] at h
 exact (uniq_of h.2).1
theorem glo_some {l : List Sym} {n : ByteArray} {s : Sym} (h : glo l n = some s) : s ∈ l ∧ s.bind ≠ 0 ∧ s.name = n := by
 have h1 := List.find?_some h
 exact ⟨List.mem_of_find?_eq_some h, of_decide_eq_true h1⟩
theorem glo_none {l : List Sym} {n : ByteArray} : glo l n = none ↔ ∀ s ∈ l, s.bind ≠ 0 → s.name ≠ n := by
 unfold glo
 rw [List.find?_eq_none]
 simp
theorem glo_mem : ∀ {l : List Sym} {n : ByteArray} {s : Sym}, Uniq l → s ∈ l → s.bind ≠ 0 → s.name = n → glo l n = some s := by
 intro l
 induction l with
 | nil => intro n s _ h; cases h
 | cons t l ih =>
  intro n s hu hs hb hn
  unfold glo
  rw [List.find?_cons]
  by_cases h : t.bind ≠ 0 ∧ t.name = n
  ·rw [decide_eq_true h]
   simp only [Option.some.injEq]
   rcases List.mem_cons.1 hs with rfl | hs
   ·rfl
   ·exact absurd (hn.trans h.2.symm) (hu.1 h.1 s hs hb)
  ·rw [decide_eq_false h]
   simp only
   rcases List.mem_cons.1 hs with rfl | hs
   ·exact absurd ⟨hb, hn⟩ h
   ·exact ih hu.2 hs hb hn
theorem find_bd {l : List Sym} {n : ByteArray} {b : Int} (hu : Uniq l) (hb : b ≠ 0) : l.find? (bdS n b) = (glo l n).filter (bdS n b) := by
 cases h : l.find? (bdS n b) with
 | some s =>
  have h1 := List.find?_some h
  have h2 := List.mem_of_find?_eq_some h
  have h3 := h1
  simp only [bdS, decide_eq_true_eq] at h3
  rw [glo_mem hu h2 (by rw [h3.2.1]; exact hb) h3.1, Option.filter_some, if_pos h1]
 | none =>
  rw [List.find?_eq_none] at h
  cases hg : glo l n with
  | none => rfl
  | some s => rw [Option.filter_some, if_neg (h s (glo_some hg).1)]
theorem cnt_glo : ∀ {l : List Sym} {n : ByteArray}, Uniq l → cntB n (symP strongS l) = if ((glo l n).filter (bdS n 1)).isSome = true then 1 else 0 := by
 intro l
 induction l with
 | nil => intro n _; rfl
 | cons s l ih =>
  intro n hu
  have e : glo (s :: l) n = if s.bind ≠ 0 ∧ s.name = n then some s else glo l n := by
   unfold glo
   rw [List.find?_cons]
   split
   ·rename_i h; rw [if_pos (of_decide_eq_true h)]
   ·rename_i h; rw [if_neg (of_decide_eq_false h)]
  rw [symP_cons, cntB_app, ih hu.2, e]
  by_cases h : s.bind ≠ 0 ∧ s.name = n
  ·have hn : glo l n = none := glo_none.2 fun t ht htb => by rw [← h.2]; exact hu.1 h.1 t ht htb
   rw [if_pos h, hn]
   by_cases hs : strongS s = true
   ·have : bdS n 1 s = true := by simp only [strongS, bdS, decide_eq_true_eq] at *; exact ⟨h.2, hs⟩
    simp [hs, cntB, h.2, Option.filter_some, this]
   ·have : ¬ bdS n 1 s = true := by simp only [strongS, bdS, decide_eq_true_eq] at *; exact fun h' => hs h'.2
    simp [hs, cntB, Option.filter_some, this]
  ·rw [if_neg h]
   have : cntB n (if strongS s = true then [s.name] else []) = 0 := by
    split
    ·rename_i hs
     simp only [strongS, decide_eq_true_eq] at hs
     have : s.name ≠ n := fun e => h ⟨by omega, e⟩
     simp [cntB, this]
    ·rfl
   rw [this, Int.zero_add]
end Go.Proofs.YtpgglbnagphgoaaGreat
