/- What objects are linked to: plain Lean. -/
import Derived.Test.YtpgglbnagphgoaaGreatLayDQ
import Derived.Test.YtpgglbnagphgoaaGreatFixDQ
set_option linter.unusedVariables false
set_option linter.unusedSimpArgs false
namespace Go.Proofs.YtpgglbnagphgoaaGreat
open Go Go.RowKit

def symOk (s : Sym) (x : List Sect) : Prop := (s.bind = 0 ∨ s.bind = 1 ∨ s.bind = 2) ∧ ((s.wher = -1 ∧ s.value = 0 ∧ s.bind ≠ 0) ∨ (s.wher = -2 ∧ 0 ≤ s.value ∧ s.value ≤ 60000) ∨ (0 ≤ s.wher ∧ s.wher < x.length ∧ 0 ≤ s.value ∧ ∃ t, x[s.wher.toNat]? = some t ∧ s.value ≤ secSize t))
theorem symB_ok {s : Sym} {x : List Sect} (h : symB s x = true) : symOk s x := by
 simp only [symB, Bool.and_eq_true, decide_eq_true_eq] at h
 obtain ⟨⟨_, h1⟩, h2⟩ := h
 refine ⟨by omega, ?_⟩
 split at h2
 ·simp only [decide_eq_true_eq] at h2
  exact .inl ⟨by assumption, h2⟩
 ·split at h2
  ·simp only [decide_eq_true_eq] at h2
   exact .inr (.inl ⟨by assumption, h2⟩)
  ·simp only [decide_eq_true_eq] at h2
   have hl : s.wher.toNat < x.length := by omega
   rw [List.getElem?_eq_getElem hl] at h2
   exact .inr (.inr ⟨h2.1, by omega, h2.2.2.1, _, List.getElem?_eq_getElem hl, h2.2.2.2⟩)
theorem symsB_all {x : List Sect} : ∀ {l pre : List Sym}, symsB x pre l = true → ∀ s ∈ l, symB s x = true := by
 intro l
 induction l with
 | nil => intro pre _ s hs; cases hs
 | cons s l ih =>
  intro pre h t ht
  simp only [symsB, Bool.and_eq_true] at h
  rcases List.mem_cons.1 ht with rfl | ht
  ·exact h.1.1
  ·exact ih h.2 t ht
theorem objB_sym {o : Objt} {s : Sym} (h : objB o = true) (hs : s ∈ o.syms) : symOk s o.sects := by
 simp only [objB, Bool.and_eq_true] at h
 exact symB_ok (symsB_all h.2 s hs)
def plV (pl : List (List Int)) (l : List Objt) (g : Given) : Int :=
 match l[g.in_.toNat]? with
 | none => 0
 | some o => match o.syms[g.at_.toNat]? with
  | none => 0
  | some s => if s.wher = -2 then s.value else (pl.getD g.in_.toNat []).getD s.wher.toNat 0 + s.value
def syV (pl : List (List Int)) (l : List Objt) (k j : Int) : Option Int :=
 match l[k.toNat]? with
 | none => none
 | some o => match o.syms[j.toNat]? with
  | none => none
  | some s => if s.bind = 0 then some (plV pl l ⟨k, j⟩) else match fnd l s.name with
   | some g => some (plV pl l g)
   | none => if s.bind = 2 then some 0 else none
structure In (l : List Objt) (g : Given) : Prop where
 it : 0 ≤ g.in_ ∧ 0 ≤ g.at_ ∧ ∃ o s, l[g.in_.toNat]? = some o ∧ o.syms[g.at_.toNat]? = some s ∧ s.wher ≠ -1
theorem GivenAt.in {l : List Objt} {n : ByteArray} {b : Int} {g : Given} (h : GivenAt l n b g) : In l g := by
 obtain ⟨h1, h2, o, s, h3, h4, _, _, h5⟩ := h
 exact ⟨⟨h1, h2, o, s, h3, h4, h5⟩⟩
theorem getD_get {α : Type} {l : List α} {k : Nat} {x d : α} (h : l[k]? = some x) : l.getD k d = x := by simp [List.getD, h]
/-! What the walks ask, along the code. -/
end Go.Proofs.YtpgglbnagphgoaaGreat
