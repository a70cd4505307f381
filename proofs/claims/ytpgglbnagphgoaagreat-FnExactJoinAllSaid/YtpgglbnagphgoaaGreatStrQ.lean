/- Objects that are stripped: both packages keep the same contracts. -/
import Derived.Test.YtpgglbnagphgoaaGreatJoiDQ
import Derived.Test.YtpgglbnagphgoaaGreatObjVQ
import Derived.Test.YtpgglbnagphgoaaGreatObjCQ
set_option linter.unusedVariables false
set_option linter.unusedSimpArgs false
namespace Go.Proofs.YtpgglbnagphgoaaGreat
open Go Go.RowKit


def midX (ns : List Int) (l : List Fixup) (j : Int) : List Fixup := (l.take j.toNat).map (reF ns) ++ l.drop j.toNat
def reP (ns : List Int) (s : Sect) (j : Int) : Sect := ⟨s.name, s.kind, s.align, s.bytes, s.size, midX ns s.fixups j⟩
def sAt (l : List Sect) (i : Int) : Sect := (l[i.toNat]?).getD ⟨⟨⟨[]⟩⟩, 0, 0, [], 0, []⟩
theorem sAt_eq {l : List Sect} {i : Int} {s : Sect} (h : l[i.toNat]? = some s) : sAt l i = s := by simp [sAt, h]
theorem sAt_get {l : List Sect} {i : Int} (h0 : 0 ≤ i) (h : i < l.length) : l[i.toNat]? = some (sAt l i) := by
 have h' := List.getElem?_eq_getElem (l := l) (i := i.toNat) (by omega)
 rw [h', sAt_eq h']
theorem midX_zero {ns : List Int} {l : List Fixup} : midX ns l 0 = l := by simp [midX]
theorem midX_end {ns : List Int} {l : List Fixup} {j : Int} (h : (l.length : Int) ≤ j) : midX ns l j = l.map (reF ns) := by
 simp [midX, List.take_of_length_le (show l.length ≤ j.toNat by omega), List.drop_of_length_le (show l.length ≤ j.toNat by omega)]
theorem midX_len {ns : List Int} {l : List Fixup} {j : Int} : (midX ns l j).length = l.length := by simp [midX]; omega
theorem midX_get {ns : List Int} {l : List Fixup} {j : Int} : (midX ns l j)[j.toNat]? = l[j.toNat]? := by
 unfold midX
 by_cases h : j.toNat < l.length
 ·have e : ((l.take j.toNat).map (reF ns)).length = j.toNat := by simp; omega
  rw [List.getElem?_append_right (by omega), e, Nat.sub_self, List.getElem?_drop, Nat.add_zero]
 ·rw [List.getElem?_eq_none (by simp; omega), List.getElem?_eq_none (by omega)]
theorem midX_set {ns : List Int} {l : List Fixup} {j : Int} {f : Fixup} (hj : 0 ≤ j) (h : l[j.toNat]? = some f) : (midX ns l j).set j.toNat (reF ns f) = midX ns l (j + 1) := by
 unfold midX
 have hl := lt_of_some h
 have e : ((l.take j.toNat).map (reF ns)).length = j.toNat := by simp; omega
 rw [List.set_append_right _ _ (by omega), e, Nat.sub_self, List.drop_eq_getElem_cons hl, List.set_cons_zero, toNat_succ hj, take_snoc h, List.map_append, List.append_assoc]
 rfl
theorem fix_in {o : Objt} {i j : Nat} {s : Sect} {f : Fixup} (ho : objB o = true) (hs : o.sects[i]? = some s) (hf : s.fixups[j]? = some f) : 0 ≤ f.to ∧ f.to < o.syms.length := objB_to ho (List.mem_of_getElem? hs) (List.mem_of_getElem? hf)
theorem fix_6 {o : Objt} {i : Nat} {s : Sect} (ho : objB o = true) (hs : o.sects[i]? = some s) : s.fixups.length ≤ 6 := by
 simp only [objB, Bool.and_eq_true, List.all_eq_true] at ho
 have := ho.1.2 s (List.mem_of_getElem? hs)
 simp only [secB, Bool.and_eq_true] at this
 have := this.2
 split at this
 ·simp only [decide_eq_true_eq] at this; rw [this.2.2.2]; simp
 ·simp only [Bool.and_eq_true, decide_eq_true_eq] at this; omega
theorem sumI_le2 {α : Type} {f : α → Int} {c : Int} (hc : 0 ≤ c) : ∀ {l : List α}, (∀ x ∈ l, f x ≤ c) → sumI f l ≤ c * l.length := by
 intro l
 induction l with
 | nil => intro _; simp [sumI]
 | cons x l ih =>
  intro h
  have h1 := h x (by simp)
  have h2 := ih fun y hy => h y (by simp [hy])
  simp only [sumI, List.length_cons, Int.natCast_add, Int.mul_add]
  simp
  omega
theorem symB_name {s : Sym} {x : List Sect} (h : symB s x = true) : s.name.size ≤ 8 := by
 simp only [symB, nameB, Bool.and_eq_true, decide_eq_true_eq] at h
 omega
theorem objB_sz {o : Objt} (h : objB o = true) : szOb o ≤ 5000 := by
 have hl := objB_lens h
 have h' := h
 simp only [objB, Bool.and_eq_true, List.all_eq_true] at h'
 have h1 := sumI_le2 (f := szSe) (c := 100) (by omega) (l := o.sects) fun s hs => by
  have := h'.1.2 s hs
  simp only [secB, nameB, Bool.and_eq_true, decide_eq_true_eq] at this
  unfold szSe
  have h3 := this.2
  split at h3
  ·simp only [decide_eq_true_eq] at h3; rw [h3.2.2.1, h3.2.2.2]; simp; omega
  ·simp only [Bool.and_eq_true, decide_eq_true_eq] at h3; omega
 have h2 := sumI_le2 (f := szSy) (c := 100) (by omega) (l := o.syms) fun s hs => by
  have := symB_name (symsB_all h'.2 s hs)
  unfold szSy
  omega
 unfold szOb
 omega
def holS (g : Sect → Sect) (l : List Sect) (i : Int) : List (Sect × Bool) := (l.take i.toNat).map (fun y => (g y, false)) ++ (l.drop i.toNat).map fun y => (y, true)
theorem holS_zero {g : Sect → Sect} {l : List Sect} : l.map (fun y => (y, true)) = holS g l 0 := by simp [holS]
theorem holS_len {g : Sect → Sect} {l : List Sect} {i : Int} : (holS g l i).length = l.length := by simp [holS]; omega
theorem holS_get {g : Sect → Sect} {l : List Sect} {i : Int} {y : Sect} {b : Bool} : (holS g l i)[i.toNat]? = some (y, b) ↔ l[i.toNat]? = some y ∧ b = true := by
 unfold holS
 by_cases h : i.toNat < l.length
 ·have e : ((l.take i.toNat).map fun y => (g y, false)).length = i.toNat := by simp; omega
  rw [List.getElem?_append_right (by omega), e, Nat.sub_self, List.getElem?_map, List.getElem?_drop, Nat.add_zero]
  cases l[i.toNat]? with
  | none => simp
  | some x => simp only [Option.map_some, Option.some.injEq, Prod.mk.injEq]; exact ⟨fun h => ⟨h.1, h.2.symm⟩, fun h => ⟨h.1, h.2.symm⟩⟩
 ·rw [List.getElem?_eq_none (by simp; omega), List.getElem?_eq_none (by omega)]; simp
theorem holS_set {g : Sect → Sect} {l : List Sect} {i : Int} {y z : Sect} (hi : 0 ≤ i) (h : l[i.toNat]? = some y) (hz : z = g y) : (holS g l i).set i.toNat (z, false) = holS g l (i + 1) := by
 unfold holS
 have hl := lt_of_some h
 have e : ((l.take i.toNat).map fun y => (g y, false)).length = i.toNat := by simp; omega
 rw [List.set_append_right _ _ (by omega), e, Nat.sub_self, List.drop_eq_getElem_cons hl, List.map_cons, List.set_cons_zero, toNat_succ hi, take_snoc h, List.map_append, List.append_assoc, hz]
 rfl
end Go.Proofs.YtpgglbnagphgoaaGreat
