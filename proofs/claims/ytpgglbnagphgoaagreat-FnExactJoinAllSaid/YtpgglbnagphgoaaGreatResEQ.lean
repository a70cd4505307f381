/- Where a name is given, counted in one go: plain Lean. -/
import Derived.Test.YtpgglbnagphgoaaGreatResDQ
set_option linter.unusedVariables false
set_option linter.unusedSimpArgs false
namespace Go.Proofs.YtpgglbnagphgoaaGreat
open Go Go.RowKit

def Bd3 (l : List Sym) : Prop := ∀ s ∈ l, s.bind = 0 ∨ s.bind = 1 ∨ s.bind = 2
theorem symsB_bd {x : List Sect} : ∀ {l pre : List Sym}, symsB x pre l = true → Bd3 l := by
 intro l
 induction l with
 | nil => intro pre _ s hs; cases hs
 | cons s l ih =>
  intro pre h t ht
  simp only [symsB, Bool.and_eq_true] at h
  rcases List.mem_cons.1 ht with rfl | ht
  ·have h1 := h.1.1
   simp only [symB, Bool.and_eq_true, decide_eq_true_eq] at h1
   omega
  ·exact ih h.2 t ht
theorem objB_bd {o : Objt} (h : objB o = true) : Bd3 o.syms := by
 simp only [objB, Bool.and_eq_true] at h
 exact symsB_bd h.2
theorem symP_cons {p : Sym → Bool} {s : Sym} {l : List Sym} : symP p (s :: l) = (if p s = true then [s.name] else []) ++ symP p l := by
 unfold symP; cases h : p s <;> simp [h]
theorem gvS_eq {n : ByteArray} {k : Int} : ∀ {l : List Sym} {j : Int} {g : Gv}, Bd3 l → 0 ≤ j → 0 ≤ g.strong → (g.strong ≠ 0 → g.found = true) →
  gvS n k l j g = ⟨if g.strong = 0 ∧ 0 ≤ ixF (bdS n 1) l j then ⟨k, ixF (bdS n 1) l j⟩ else if g.found = false ∧ 0 ≤ ixF (bdS n 2) l j then ⟨k, ixF (bdS n 2) l j⟩ else g.out,
   g.strong + cntB n (symP strongS l), g.found || decide (0 ≤ ixF (bdS n 1) l j) || decide (0 ≤ ixF (bdS n 2) l j)⟩ := by
 intro l
 induction l with
 | nil => intro j g _ _ _ _; simp [gvS, ixF, symP, cntB]
 | cons s l ih =>
  intro j g hb hj hs hf
  have hbl : Bd3 l := fun t ht => hb t (List.mem_cons_of_mem _ ht)
  have hbs := hb s (by simp)
  have hx1 := @ixF_spec _ (bdS n 1) l (j + 1) (by omega)
  have hx2 := @ixF_spec _ (bdS n 2) l (j + 1) (by omega)
  simp only [gvS]
  by_cases hno : s.name ≠ n ∨ s.bind = 0 ∨ s.wher = -1
  ·rw [if_pos hno, ih hbl (by omega) hs hf]
   have e1 : bdS n 1 s = false := by simp only [bdS, decide_eq_false_iff_not]; intro ⟨a, b, c⟩; grind
   have e2 : bdS n 2 s = false := by simp only [bdS, decide_eq_false_iff_not]; intro ⟨a, b, c⟩; grind
   have e3 : cntB n (symP strongS (s :: l)) = cntB n (symP strongS l) := by
    rw [symP_cons, cntB_app]
    split
    ·rename_i hp
     simp only [strongS, decide_eq_true_eq] at hp
     have : s.name ≠ n := by grind
     simp [cntB, this]
    ·simp [cntB]
   simp only [ixF, e1, e2, e3, Bool.false_eq_true, if_false]
  ·rw [if_neg hno]
   have h1 : s.name = n := Classical.byContradiction fun h => hno (.inl h)
   have h2 : s.bind ≠ 0 := fun h => hno (.inr (.inl h))
   have h3 : s.wher ≠ -1 := fun h => hno (.inr (.inr h))
   have hc := cntB_nn n (symP strongS l)
   by_cases h4 : s.bind = 1
   ·have e1 : bdS n 1 s = true := by simp [bdS, h1, h3, h4]
    have e2 : bdS n 2 s = false := by simp [bdS, h4]
    have e3 : cntB n (symP strongS (s :: l)) = 1 + cntB n (symP strongS l) := by
     rw [symP_cons, cntB_app, if_pos (by simp [strongS, h4, h3])]; simp [cntB, h1]
    rw [ih hbl (by omega) (by simp only [if_pos h4]; omega) (fun _ => rfl)]
    simp only [ixF, e1, e2, e3, if_true, h4, true_and, Bool.false_eq_true, if_false, Bool.true_eq_false, false_and]
    have n1 : ¬ (g.strong + 1 = 0) := by omega
    simp only [n1, false_and, if_false, Bool.true_or, Gv.mk.injEq]
    refine ⟨?_, by omega, ?_⟩
    ·by_cases hg : g.strong = 0
     ·simp [hg, hj]
     ·have := hf hg
      simp [hg, this]
    ·simp [hj]
   ·have h5 : s.bind = 2 := (hbs.resolve_left h2).resolve_left h4
    have e1 : bdS n 1 s = false := by simp [bdS, h4]
    have e2 : bdS n 2 s = true := by simp [bdS, h1, h3, h5]
    have e3 : cntB n (symP strongS (s :: l)) = cntB n (symP strongS l) := by
     rw [symP_cons, cntB_app, if_neg (by simp [strongS, h4])]; simp [cntB]
    rw [ih hbl (by omega) (by simp only [if_neg h4]; exact hs) (fun _ => rfl)]
    simp only [ixF, e1, e2, e3, if_true, h4, false_and, false_or, Bool.false_eq_true, if_false, Bool.true_eq_false, Bool.true_or, Gv.mk.injEq]
    refine ⟨?_, trivial, ?_⟩
    ·by_cases hg : g.strong = 0 ∧ 0 ≤ ixF (bdS n 1) l (j + 1)
     ·rw [if_pos hg, if_pos hg]
     ·rw [if_neg hg, if_neg hg]
      simp [hj]
    ·simp [hj]
theorem gvO_eq {n : ByteArray} : ∀ {l : List Objt} {k : Int} {g : Gv}, l.all objB = true → 0 ≤ k → 0 ≤ g.strong → (g.strong ≠ 0 → g.found = true) →
  gvO n l k g = ⟨if g.strong = 0 ∧ (fbO n 1 l k).isSome = true then (fbO n 1 l k).getD ⟨0, 0⟩ else if g.found = false ∧ (fbO n 2 l k).isSome = true then (fbO n 2 l k).getD ⟨0, 0⟩ else g.out,
   g.strong + cntS l n, g.found || (fbO n 1 l k).isSome || (fbO n 2 l k).isSome⟩ := by
 intro l
 induction l with
 | nil => intro k g _ _ _ _; simp [gvO, fbO, cntS, flt, cntB]
 | cons o l ih =>
  intro k g hb hk hs hf
  simp only [List.all_cons, Bool.and_eq_true] at hb
  have hc := cntB_nn n (symP strongS o.syms)
  have h1 : 0 < cntB n (symP strongS o.syms) ↔ 0 ≤ ixF (bdS n 1) o.syms 0 := by
   rw [cntB_pos, mem_symP, ixF_any (by omega), List.any_eq_true]
   constructor
   ·rintro ⟨s, hs, h, hn⟩
    refine ⟨s, hs, ?_⟩
    simp only [strongS, bdS, decide_eq_true_eq] at *
    exact ⟨hn, h⟩
   ·rintro ⟨s, hs, h⟩
    refine ⟨s, hs, ?_⟩
    simp only [strongS, bdS, decide_eq_true_eq] at *
    exact ⟨h.2, h.1⟩
  have e := gvS_eq (n := n) (k := k) (j := 0) (g := g) (objB_bd hb.1) (by omega) hs hf
  have ec : cntS (o :: l) n = cntB n (symP strongS o.syms) + cntS l n := by
   simp only [cntS, flt, List.flatMap_cons, cntB_app]
  simp only [gvO]
  rw [ih hb.2 (by omega) (by rw [e]; show 0 ≤ g.strong + _; omega) (by
   rw [e]
   intro h
   simp only [Bool.or_eq_true, decide_eq_true_eq]
   by_cases hg : g.strong = 0
   ·left; right
    simp only [hg] at h
    exact h1.1 (by omega)
   ·exact .inl (.inl (hf hg)))]
  rw [e, ec]
  simp only [fbO, Gv.mk.injEq]
  by_cases c1 : 0 ≤ ixF (bdS n 1) o.syms 0
  ·have := h1.2 c1
   have n1 : ¬ (g.strong + cntB n (symP strongS o.syms) = 0) := by omega
   by_cases c2 : 0 ≤ ixF (bdS n 2) o.syms 0 <;> by_cases hg : g.strong = 0 <;> simp [c1, c2, n1, hg] <;> first | omega | (refine ⟨?_, by omega⟩) <;> simp_all
  ·have z : cntB n (symP strongS o.syms) = 0 := by
    have : ¬ 0 < cntB n (symP strongS o.syms) := fun h => c1 (h1.1 h)
    omega
   by_cases c2 : 0 ≤ ixF (bdS n 2) o.syms 0 <;> by_cases hg : g.strong = 0 <;> cases hfo : g.found <;> simp [c1, c2, z, hg, hfo] <;> simp_all
theorem gv_all {n : ByteArray} {l : List Objt} (h : l.all objB = true) : gvO n l 0 ⟨⟨0, 0⟩, 0, false⟩ = ⟨(fnd l n).getD ⟨0, 0⟩, cntS l n, (fnd l n).isSome⟩ := by
 rw [gvO_eq h (by omega) (by simp) (by simp)]
 simp only [fnd]
 cases h1 : fbO n 1 l 0 <;> cases h2 : fbO n 2 l 0 <;> simp
end Go.Proofs.YtpgglbnagphgoaaGreat
