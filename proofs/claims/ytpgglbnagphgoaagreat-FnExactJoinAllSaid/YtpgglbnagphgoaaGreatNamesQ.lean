/- Texts in order: plain Lean. -/
import Derived.Test.YtpgglbnagphgoaaGreatFamDQ
set_option linter.unusedVariables false
set_option linter.unusedSimpArgs false
namespace Go.Proofs.YtpgglbnagphgoaaGreat
open Go Go.RowKit

theorem bl_irr : ∀ (a : List UInt8), Op.bytesLess a a = false := by
 intro a
 induction a with
 | nil => rfl
 | cons x a ih => simp [Op.bytesLess, ih]
theorem bl_nil (a : List UInt8) : Op.bytesLess a [] = false := by cases a <;> rfl
theorem bl_cons {x y : UInt8} {a b : List UInt8} : Op.bytesLess (x :: a) (y :: b) = true ↔ x < y ∨ (x = y ∧ Op.bytesLess a b = true) := by
 simp [Op.bytesLess]
theorem bl_trans : ∀ {a b c : List UInt8}, Op.bytesLess a b = true → Op.bytesLess b c = true → Op.bytesLess a c = true := by
 intro a
 induction a with
 | nil =>
  intro b c h1 h2
  cases c with
  | nil => rw [bl_nil] at h2; cases h2
  | cons => rfl
 | cons x a ih =>
  intro b c h1 h2
  cases b with
  | nil => rw [bl_nil] at h1; cases h1
  | cons y b =>
   cases c with
   | nil => rw [bl_nil] at h2; cases h2
   | cons z c =>
    rw [bl_cons] at *
    rcases h1 with h1 | ⟨rfl, h1⟩
    ·rcases h2 with h2 | ⟨rfl, h2⟩
     ·exact .inl (UInt8.lt_trans h1 h2)
     ·exact .inl h1
    ·rcases h2 with h2 | ⟨rfl, h2⟩
     ·exact .inl h2
     ·exact .inr ⟨rfl, ih h1 h2⟩
theorem bl_tri : ∀ {a b : List UInt8}, Op.bytesLess a b = false → Op.bytesLess b a = false → a = b := by
 intro a
 induction a with
 | nil =>
  intro b h1 h2
  cases b with
  | nil => rfl
  | cons => cases h1
 | cons x a ih =>
  intro b h1 h2
  cases b with
  | nil => cases h2
  | cons y b =>
   have n1 : ¬ (x < y ∨ (x = y ∧ Op.bytesLess a b = true)) := fun h => by rw [bl_cons.2 h] at h1; cases h1
   have n2 : ¬ (y < x ∨ (y = x ∧ Op.bytesLess b a = true)) := fun h => by rw [bl_cons.2 h] at h2; cases h2
   have e : x = y := by
    rcases Classical.em (x = y) with h' | h'
    ·exact h'
    ·rcases UInt8.lt_or_lt_of_ne h' with h | h
     ·exact absurd (.inl h) n1
     ·exact absurd (.inl h) n2
   subst e
   have e1 : Op.bytesLess a b = false := by
    cases h : Op.bytesLess a b with
    | false => rfl
    | true => exact absurd (.inr ⟨rfl, h⟩) n1
   have e2 : Op.bytesLess b a = false := by
    cases h : Op.bytesLess b a with
    | false => rfl
    | true => exact absurd (.inr ⟨rfl, h⟩) n2
   rw [ih e1 e2]
theorem ba_ext {a b : ByteArray} (h : a.toList = b.toList) : a = b := by
 rw [ByteArray.toList_eq, ByteArray.toList_eq] at h
 cases a; cases b
 simp only [ByteArray.mk.injEq] at *
 exact Array.toList_inj.1 h
theorem lt_irr (a : ByteArray) : strLt a a = false := bl_irr _
theorem lt_trans' {a b c : ByteArray} (h : strLt a b = true) (h' : strLt b c = true) : strLt a c = true := bl_trans h h'
theorem lt_tri {a b : ByteArray} (h : strLt a b = false) (h' : strLt b a = false) : a = b := ba_ext (bl_tri h h')
theorem lt_ne {a b : ByteArray} (h : strLt a b = true) : a ≠ b := fun e => by subst e; rw [lt_irr] at h; cases h

def insU : List ByteArray → ByteArray → List ByteArray
 | [], s => [s]
 | x :: l, s => if strLt x s = true then x :: insU l s else if x = s then x :: l else s :: x :: l
def sortU (l : List ByteArray) : List ByteArray := l.foldl insU []
def Asc (l : List ByteArray) : Prop := l.Pairwise (fun a b => strLt a b = true)
theorem mem_insU {x s : ByteArray} : ∀ {l : List ByteArray}, x ∈ insU l s ↔ x = s ∨ x ∈ l := by
 intro l
 induction l with
 | nil => simp [insU]
 | cons y l ih =>
  simp only [insU]
  split
  ·simp only [List.mem_cons, ih]
   constructor
   ·rintro (h | h | h)
    ·exact .inr (.inl h)
    ·exact .inl h
    ·exact .inr (.inr h)
   ·rintro (h | h | h)
    ·exact .inr (.inl h)
    ·exact .inl h
    ·exact .inr (.inr h)
  ·split
   ·subst_vars
    simp only [List.mem_cons]
    constructor
    ·exact .inr
    ·rintro (h | h)
     ·exact .inl h
     ·exact h
   ·simp only [List.mem_cons]
theorem insU_asc {s : ByteArray} : ∀ {l : List ByteArray}, Asc l → Asc (insU l s) := by
 intro l
 induction l with
 | nil => intro _; exact List.pairwise_singleton _ _
 | cons y l ih =>
  intro h
  obtain ⟨h1, h2⟩ := List.pairwise_cons.1 h
  simp only [insU]
  split
  ·rename_i hy
   refine List.pairwise_cons.2 ⟨fun z hz => ?_, ih h2⟩
   rcases mem_insU.1 hz with rfl | hz
   ·exact hy
   ·exact h1 z hz
  ·split
   ·exact h
   ·rename_i n1 n2
    have hsy : strLt s y = true := by
     cases hc : strLt s y with
     | true => rfl
     | false => exact absurd (lt_tri (by simpa using n1) hc) n2
    refine List.pairwise_cons.2 ⟨fun z hz => ?_, h⟩
    rcases List.mem_cons.1 hz with rfl | hz
    ·exact hsy
    ·exact lt_trans' hsy (h1 z hz)
theorem insU_len {s : ByteArray} : ∀ {l : List ByteArray}, Asc l → (s ∈ l → (insU l s).length = l.length) ∧ (¬ s ∈ l → (insU l s).length = l.length + 1) := by
 intro l
 induction l with
 | nil => intro _; simp [insU]
 | cons y l ih =>
  intro h
  obtain ⟨h1, h2⟩ := List.pairwise_cons.1 h
  obtain ⟨g1, g2⟩ := ih h2
  simp only [insU]
  split
  ·rename_i hy
   constructor
   ·intro hm
    rcases List.mem_cons.1 hm with rfl | hm
    ·rw [lt_irr] at hy; cases hy
    ·simp [g1 hm]
   ·intro hm
    simp only [List.mem_cons, not_or] at hm
    simp [g2 hm.2]
  ·rename_i hy
   split
   ·rename_i e
    subst e
    simp
   ·rename_i e
    constructor
    ·intro hm
     rcases List.mem_cons.1 hm with rfl | hm
     ·exact absurd rfl e
     ·have := h1 s hm
      exact absurd this hy
    ·intro _; simp
theorem sortU_snoc {l : List ByteArray} {s : ByteArray} : sortU (l ++ [s]) = insU (sortU l) s := by simp [sortU]
theorem foldl_asc : ∀ {l m : List ByteArray}, Asc m → Asc (l.foldl insU m) := by
 intro l
 induction l with
 | nil => intro m h; exact h
 | cons x l ih => intro m h; exact ih (insU_asc h)
theorem foldl_mem {x : ByteArray} : ∀ {l m : List ByteArray}, x ∈ l.foldl insU m ↔ x ∈ l ∨ x ∈ m := by
 intro l
 induction l with
 | nil => intro m; simp
 | cons y l ih =>
  intro m
  simp only [List.foldl_cons, ih, mem_insU, List.mem_cons]
  constructor
  ·rintro (h | h | h)
   ·exact .inl (.inr h)
   ·exact .inl (.inl h)
   ·exact .inr h
  ·rintro ((h | h) | h)
   ·exact .inr (.inl h)
   ·exact .inl h
   ·exact .inr (.inr h)
theorem sortU_asc (l : List ByteArray) : Asc (sortU l) := foldl_asc List.Pairwise.nil
theorem mem_sortU {x : ByteArray} {l : List ByteArray} : x ∈ sortU l ↔ x ∈ l := by simp [sortU, foldl_mem]
theorem asc_ext : ∀ {l m : List ByteArray}, Asc l → Asc m → (∀ x, x ∈ l ↔ x ∈ m) → l = m := by
 intro l
 induction l with
 | nil =>
  intro m _ _ h
  cases m with
  | nil => rfl
  | cons y m => exact absurd ((h y).2 (by simp)) (by simp)
 | cons x l ih =>
  intro m hl hm h
  obtain ⟨h1, h2⟩ := List.pairwise_cons.1 hl
  cases m with
  | nil => exact absurd ((h x).1 (by simp)) (by simp)
  | cons y m =>
   obtain ⟨g1, g2⟩ := List.pairwise_cons.1 hm
   have e : x = y := by
    rcases List.mem_cons.1 ((h x).1 (by simp)) with e | e
    ·exact e
    ·rcases List.mem_cons.1 ((h y).2 (by simp)) with e' | e'
     ·exact e'.symm
     ·have := lt_trans' (g1 x e) (h1 y e')
      rw [lt_irr] at this
      cases this
   subst e
   rw [ih h2 g2 fun z => ?_]
   constructor
   ·intro hz
    rcases List.mem_cons.1 ((h z).1 (List.mem_cons_of_mem _ hz)) with e | e
    ·subst e; exact absurd rfl (lt_ne (h1 z hz))
    ·exact e
   ·intro hz
    rcases List.mem_cons.1 ((h z).2 (List.mem_cons_of_mem _ hz)) with e | e
    ·subst e; exact absurd rfl (lt_ne (g1 z hz))
    ·exact e
theorem snoc_ind {α : Type} {p : List α → Prop} (h0 : p []) (h1 : ∀ l x, p l → p (l ++ [x])) (l : List α) : p l := by
 have : ∀ l : List α, p l.reverse := by
  intro l
  induction l with
  | nil => exact h0
  | cons x l ih => rw [List.reverse_cons]; exact h1 _ _ ih
 have h := this l.reverse
 rwa [List.reverse_reverse] at h
theorem sortU_len (l : List ByteArray) : (sortU l).length ≤ l.length ∧ ((sortU l).length = l.length ↔ l.Nodup) := by
 induction l using snoc_ind with
 | h0 => simp [sortU]
 | h1 l x ih =>
  obtain ⟨i1, i2⟩ := ih
  obtain ⟨g1, g2⟩ := insU_len (s := x) (sortU_asc l)
  rw [sortU_snoc, List.length_append, List.nodup_append]
  simp only [List.length_cons, List.length_nil, Nat.zero_add]
  by_cases hx : x ∈ l
  ·have e := g1 (mem_sortU.2 hx)
   refine ⟨by omega, ⟨fun h => by omega, fun ⟨_, _, h⟩ => ?_⟩⟩
   exact absurd rfl (h x hx x (by simp))
  ·have e := g2 (fun h => hx (mem_sortU.1 h))
   refine ⟨by omega, ⟨fun h => ⟨i2.1 (by omega), by simp, fun a ha b hb => ?_⟩, fun ⟨h, _, _⟩ => ?_⟩⟩
   ·simp only [List.mem_singleton] at hb
    subst hb
    intro e; subst e; exact hx ha
   ·have := i2.2 h
    omega
end Go.Proofs.YtpgglbnagphgoaaGreat
