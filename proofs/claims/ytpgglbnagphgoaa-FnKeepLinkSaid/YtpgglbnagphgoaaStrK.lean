/- Objects that are stripped: both packages keep the same contracts. -/
import Derived.Test.YtpgglbnagphgoaaJoiDK
import Derived.Test.YtpgglbnagphgoaaObjVK
import Derived.Test.YtpgglbnagphgoaaObjCK
set_option linter.unusedVariables false
set_option linter.unusedSimpArgs false
namespace Go.Proofs.Ytpgglbnagphgoaa
open Go Go.RowKit


theorem ixF_anyB {α : Type} {p : α → Bool} {l : List α} : decide (0 ≤ ixF p l 0) = l.any p := by
 rw [Bool.eq_iff_iff, decide_eq_true_iff]; exact ixF_any (by omega)
def midX (ns : List Int) (l : List Fixup) (j : Int) : List Fixup := (l.take j.toNat).map (reF ns) ++ l.drop j.toNat
def midS (ns : List Int) (l : List Sect) (i : Int) : List Sect := (l.take i.toNat).map (reS ns) ++ l.drop i.toNat
def reP (ns : List Int) (s : Sect) (j : Int) : Sect := ⟨s.name, s.kind, s.align, s.bytes, s.size, midX ns s.fixups j⟩
def sAt (l : List Sect) (i : Int) : Sect := (l[i.toNat]?).getD ⟨⟨⟨[]⟩⟩, 0, 0, [], 0, []⟩
theorem sAt_eq {l : List Sect} {i : Int} {s : Sect} (h : l[i.toNat]? = some s) : sAt l i = s := by simp [sAt, h]
theorem sAt_get {l : List Sect} {i : Int} (h0 : 0 ≤ i) (h : i < l.length) : l[i.toNat]? = some (sAt l i) := by
 have h' := List.getElem?_eq_getElem (l := l) (i := i.toNat) (by omega)
 rw [h', sAt_eq h']
def midF (ns : List Int) (l : List Sect) (i j : Int) : List Sect := (midS ns l i).set i.toNat (reP ns (sAt l i) j)
theorem midX_zero {ns : List Int} {l : List Fixup} : midX ns l 0 = l := by simp [midX]
theorem midX_end {ns : List Int} {l : List Fixup} {j : Int} (h : (l.length : Int) ≤ j) : midX ns l j = l.map (reF ns) := by
 simp [midX, List.take_of_length_le (show l.length ≤ j.toNat by omega), List.drop_of_length_le (show l.length ≤ j.toNat by omega)]
theorem midX_len {ns : List Int} {l : List Fixup} {j : Int} : (midX ns l j).length = l.length := by simp [midX]; omega
theorem midX_get {ns : List Int} {l : List Fixup} {j : Int} : (midX ns l j)[j.toNat]? = l[j.toNat]? := by
 unfold midX
 by_cases h : j.toNat < l.length
 ·have e : ((l.take j.toNat).map (reF ns)).length = j.toNat := by simp; omega
  rw [List.getElem?_append_right (by omega), e, Nat.sub_self, List.getElem?_drop, Nat.add_zero]
 ·rw [List.getElem?_eq_none (by simp; omega), List.getElem?_eq_none (by omega)]
theorem midX_set {ns : List Int} {l : List Fixup} {j : Int} {f : Fixup} (hj : 0 ≤ j) (h : l[j.toNat]? = some f) : (midX ns l j).set j.toNat (reF ns f) = midX ns l (j + 1) := by
 unfold midX
 have hl := lt_of_some h
 have e : ((l.take j.toNat).map (reF ns)).length = j.toNat := by simp; omega
 rw [List.set_append_right _ _ (by omega), e, Nat.sub_self, List.drop_eq_getElem_cons hl, List.set_cons_zero, toNat_succ hj, take_snoc h, List.map_append, List.append_assoc]
 rfl
theorem midS_zero {ns : List Int} {l : List Sect} : midS ns l 0 = l := by simp [midS]
theorem midS_end {ns : List Int} {l : List Sect} {i : Int} (h : (l.length : Int) ≤ i) : midS ns l i = l.map (reS ns) := by
 simp [midS, List.take_of_length_le (show l.length ≤ i.toNat by omega), List.drop_of_length_le (show l.length ≤ i.toNat by omega)]
theorem midS_len {ns : List Int} {l : List Sect} {i : Int} : (midS ns l i).length = l.length := by simp [midS]; omega
theorem midS_get {ns : List Int} {l : List Sect} {i : Int} : (midS ns l i)[i.toNat]? = l[i.toNat]? := by
 unfold midS
 by_cases h : i.toNat < l.length
 ·have e : ((l.take i.toNat).map (reS ns)).length = i.toNat := by simp; omega
  rw [List.getElem?_append_right (by omega), e, Nat.sub_self, List.getElem?_drop, Nat.add_zero]
 ·rw [List.getElem?_eq_none (by simp; omega), List.getElem?_eq_none (by omega)]
theorem midS_set {ns : List Int} {l : List Sect} {i : Int} {s : Sect} (hi : 0 ≤ i) (h : l[i.toNat]? = some s) : (midS ns l i).set i.toNat (reS ns s) = midS ns l (i + 1) := by
 unfold midS
 have hl := lt_of_some h
 have e : ((l.take i.toNat).map (reS ns)).length = i.toNat := by simp; omega
 rw [List.set_append_right _ _ (by omega), e, Nat.sub_self, List.drop_eq_getElem_cons hl, List.set_cons_zero, toNat_succ hi, take_snoc h, List.map_append, List.append_assoc]
 rfl
theorem midF_zero {ns : List Int} {l : List Sect} {i : Int} (h0 : 0 ≤ i) (h : i < l.length) : midS ns l i = midF ns l i 0 := by
 unfold midF
 have e : reP ns (sAt l i) 0 = sAt l i := by simp [reP, midX_zero]
 rw [e]
 refine List.ext_getElem? fun k => ?_
 rw [List.getElem?_set]
 split
 ·rename_i hk
  subst hk
  rw [midS_get, sAt_get h0 h, if_pos (by rw [midS_len]; omega)]
 ·rfl
theorem midF_end {ns : List Int} {l : List Sect} {i j : Int} (hi : 0 ≤ i) (h : i < l.length) (hj : ((sAt l i).fixups.length : Int) ≤ j) : midF ns l i j = midS ns l (i + 1) := by
 unfold midF
 rw [← midS_set hi (sAt_get hi h)]
 simp only [reP, midX_end hj, reS]
theorem midF_get {ns : List Int} {l : List Sect} {i j : Int} {x : Sect} (hi : 0 ≤ i) (h : i < l.length) (hx : (midF ns l i j)[i.toNat]? = some x) : x = reP ns (sAt l i) j := by
 unfold midF at hx
 rw [List.getElem?_set, if_pos rfl, if_pos (by rw [midS_len]; omega)] at hx
 injection hx with hx; exact hx.symm
theorem midF_len {ns : List Int} {l : List Sect} {i j : Int} : (midF ns l i j).length = l.length := by
 unfold midF; rw [List.length_set, midS_len]
theorem midF_fix {ns : List Int} {l : List Sect} {i j : Int} {x : Sect} {f : Fixup} (hi : 0 ≤ i) (h : i < l.length) (hx : (midF ns l i j)[i.toNat]? = some x) (hf : x.fixups[j.toNat]? = some f) : (sAt l i).fixups[j.toNat]? = some f := by
 rw [midF_get hi h hx] at hf
 rw [← hf]
 exact midX_get.symm
theorem midF_flen {ns : List Int} {l : List Sect} {i j : Int} {x : Sect} (hi : 0 ≤ i) (h : i < l.length) (hx : (midF ns l i j)[i.toNat]? = some x) : x.fixups.length = (sAt l i).fixups.length := by
 rw [midF_get hi h hx]
 exact midX_len
theorem midF_set {ns : List Int} {l : List Sect} {i j n : Int} {x : Sect} {f : Fixup} (hi : 0 ≤ i) (h : i < l.length) (hj : 0 ≤ j) (hx : (midF ns l i j)[i.toNat]? = some x) (hf : x.fixups[j.toNat]? = some f) (hn : ns[f.to.toNat]? = some n) :
  (midF ns l i j).set i.toNat ⟨x.name, x.kind, x.align, x.bytes, x.size, x.fixups.set j.toNat ⟨f.at_, f.kind, n, f.add⟩⟩ = midF ns l i (j + 1) := by
 have hf' := midF_fix hi h hx hf
 rw [midF_get hi h hx]
 unfold midF
 rw [List.set_set]
 congr 1
 have e : (⟨f.at_, f.kind, n, f.add⟩ : Fixup) = reF ns f := by simp only [reF, getD_get hn]
 simp only [reP]
 rw [e, midX_set hj hf']
theorem kpS_nil : ∀ {l : List Sym}, kpS [] l = [] := fun {l} => by cases l <;> rfl
theorem kpS_next : ∀ {p : List Bool} {l : List Sym} {j : Nat} {b : Bool} {s : Sym}, p[j]? = some b → l[j]? = some s → kpS (p.take (j + 1)) l = kpS (p.take j) l ++ (if b = true then [s] else []) := by
 intro p
 induction p with
 | nil => intro l j b s h; simp at h
 | cons a p ih =>
  intro l j b s hp hl
  cases l with
  | nil => simp at hl
  | cons t l =>
   cases j with
   | zero =>
    simp only [List.getElem?_cons_zero, Option.some.injEq] at hp hl
    subst hp; subst hl
    simp [kpS, kpS_nil]
   | succ j =>
    simp only [List.getElem?_cons_succ] at hp hl
    have := ih hp hl
    rw [List.take_succ_cons, List.take_succ_cons]
    simp only [kpS, this]
    split <;> simp
theorem kpN_len : ∀ {p : List Bool} {k : Int}, (kpN p k).length = p.length := by
 intro p
 induction p with
 | nil => intro k; rfl
 | cons a p ih => intro k; simp [kpN, ih]
theorem kpN_get : ∀ {p : List Bool} {l : List Sym} {k : Int} {j : Nat}, p.length = l.length → j < p.length → (kpN p k)[j]? = some (k + (kpS (p.take j) l).length) := by
 intro p
 induction p with
 | nil => intro l k j _ h; simp at h
 | cons a p ih =>
  intro l k j hl h
  cases l with
  | nil => simp at hl
  | cons t l =>
   cases j with
   | zero => simp [kpN, kpS]
   | succ j =>
    simp only [kpN, List.getElem?_cons_succ, List.take_succ_cons, kpS]
    rw [ih (l := l) (by simpa using hl) (by simpa using h)]
    split <;> simp <;> omega
theorem kpS_le {p : List Bool} {l : List Sym} : (kpS p l).length ≤ l.length := kpS_sub.length_le
theorem kpS_at {p : List Bool} {l : List Sym} {j : Int} {b : Bool} {s : Sym} (hj : 0 ≤ j) (hp : p[j.toNat]? = some b) (hs : l[j.toNat]? = some s) : kpS (p.take (j + 1).toNat) l = if b = true then kpS (p.take j.toNat) l ++ [s] else kpS (p.take j.toNat) l := by
 rw [toNat_succ hj, kpS_next hp hs]; split <;> simp
theorem kpN_set {p : List Bool} {l : List Sym} {j : Int} (hj : 0 ≤ j) (hl : p.length = l.length) (h : j < p.length) : ((kpN p 0).take j.toNat ++ List.replicate (l.length - j.toNat) 0).set j.toNat ((kpS (p.take j.toNat) l).length : Int) = (kpN p 0).take (j + 1).toNat ++ List.replicate (l.length - (j + 1).toNat) 0 := by
 have := kpN_get (k := 0) (j := j.toNat) hl (by omega)
 rw [Int.zero_add] at this
 rw [toNat_succ hj]
 exact set_fill this (by rw [kpN_len, hl])
theorem kp_take_end {p : List Bool} {l : List Sym} {j : Int} (hl : p.length = l.length) (h : (l.length : Int) ≤ j) : kpS (p.take j.toNat) l = kpS p l ∧ (kpN p 0).take j.toNat = kpN p 0 ∧ (kpN p 0).take j.toNat ++ List.replicate (l.length - j.toNat) 0 = kpN p 0 := by
 have e : (kpN p 0).take j.toNat = kpN p 0 := List.take_of_length_le (by rw [kpN_len]; omega)
 refine ⟨by rw [List.take_of_length_le (by omega)], e, ?_⟩
 rw [e, show l.length - j.toNat = 0 by omega]; simp
theorem kpN_zero {l : List Sym} {p : List Bool} {n : Nat} (h : n = l.length) : List.replicate n (0 : Int) = (kpN p 0).take (Int.toNat 0) ++ List.replicate (l.length - Int.toNat 0) 0 := by simp [h]
theorem kpS_zero {l : List Sym} {p : List Bool} : kpS (p.take (Int.toNat 0)) l = [] := kpS_nil
theorem bits_at {q : Int → Sym → Bool} {l : List Sym} {j : Int} {s : Sym} (hj : 0 ≤ j) (h : l[j.toNat]? = some s) : (bits q l 0)[j.toNat]? = some (q j s) := by
 rw [bits_get, h, Int.zero_add]
 simp only [Option.map_some, Option.some.injEq]
 congr 1; omega
theorem fix_in {o : Objt} {i j : Nat} {s : Sect} {f : Fixup} (ho : objB o = true) (hs : o.sects[i]? = some s) (hf : s.fixups[j]? = some f) : 0 ≤ f.to ∧ f.to < o.syms.length := objB_to ho (List.mem_of_getElem? hs) (List.mem_of_getElem? hf)
theorem fix_6 {o : Objt} {i : Nat} {s : Sect} (ho : objB o = true) (hs : o.sects[i]? = some s) : s.fixups.length ≤ 6 := by
 simp only [objB, Bool.and_eq_true, List.all_eq_true] at ho
 have := ho.1.2 s (List.mem_of_getElem? hs)
 simp only [secB, Bool.and_eq_true] at this
 have := this.2
 split at this
 ·simp only [decide_eq_true_eq] at this; rw [this.2.2.2]; simp
 ·simp only [Bool.and_eq_true, decide_eq_true_eq] at this; omega
theorem kq_yes {q : Int → Sym → Bool} {l : List Sym} {j : Int} {s : Sym} (h : q j s = true) (hs : l[j.toNat]? = some s) (hj : 0 ≤ j) : kpS ((bits q l 0).take j.toNat) l ++ [s] = kpS ((bits q l 0).take (j + 1).toNat) l := by
 rw [kpS_at hj (bits_at hj hs) hs, if_pos h]
theorem kq_no {q : Int → Sym → Bool} {l : List Sym} {j : Int} {s : Sym} (h : q j s = false) (hs : l[j.toNat]? = some s) (hj : 0 ≤ j) : kpS ((bits q l 0).take j.toNat) l = kpS ((bits q l 0).take (j + 1).toNat) l := by
 rw [kpS_at hj (bits_at hj hs) hs, if_neg (by simp [h])]
theorem kq_end {q : Int → Sym → Bool} {l : List Sym} {j : Int} (h : (l.length : Int) ≤ j) : kpS ((bits q l 0).take j.toNat) l = kpS (bits q l 0) l := (kp_take_end bits_len h).1
theorem kq_ends {q : Int → Sym → Bool} {l : List Sym} {j : Int} (h : (l.length : Int) ≤ j) : (kpN (bits q l 0) 0).take j.toNat ++ List.replicate (l.length - j.toNat) 0 = kpN (bits q l 0) 0 := (kp_take_end bits_len h).2.2
theorem midF_set2 {ns : List Int} {l : List Sect} {i j n : Int} {x x' : Sect} {f f' : Fixup} (hn : ns[f'.to.toNat]? = some n) (hf' : x'.fixups[j.toNat]? = some f') (hx' : (midF ns l i j)[i.toNat]? = some x') (hf : x.fixups[j.toNat]? = some f) (hx : (midF ns l i j)[i.toNat]? = some x) (hi : 0 ≤ i) (h : i < l.length) (hj : 0 ≤ j) :
  (midF ns l i j).set i.toNat ⟨x.name, x.kind, x.align, x.bytes, x.size, x.fixups.set j.toNat ⟨f.at_, f.kind, n, f.add⟩⟩ = midF ns l i (j + 1) := by
 have e : x' = x := Option.some.inj (hx'.symm.trans hx)
 subst e
 have e : f' = f := Option.some.inj (hf'.symm.trans hf)
 subst e
 exact midF_set hi h hj hx hf hn
theorem bl_n {q : Int → Sym → Bool} {l : List Sym} : (bits q l 0).length = l.length := bits_len
theorem sumI_le2 {α : Type} {f : α → Int} {c : Int} (hc : 0 ≤ c) : ∀ {l : List α}, (∀ x ∈ l, f x ≤ c) → sumI f l ≤ c * l.length := by
 intro l
 induction l with
 | nil => intro _; simp [sumI]
 | cons x l ih =>
  intro h
  have h1 := h x (by simp)
  have h2 := ih fun y hy => h y (by simp [hy])
  simp only [sumI, List.length_cons, Int.natCast_add, Int.mul_add]
  simp
  omega
theorem symB_name {s : Sym} {x : List Sect} (h : symB s x = true) : s.name.size ≤ 8 := by
 simp only [symB, nameB, Bool.and_eq_true, decide_eq_true_eq] at h
 omega
theorem objB_sz {o : Objt} (h : objB o = true) : szOb o ≤ 5000 := by
 have hl := objB_lens h
 have h' := h
 simp only [objB, Bool.and_eq_true, List.all_eq_true] at h'
 have h1 := sumI_le2 (f := szSe) (c := 100) (by omega) (l := o.sects) fun s hs => by
  have := h'.1.2 s hs
  simp only [secB, nameB, Bool.and_eq_true, decide_eq_true_eq] at this
  unfold szSe
  have h3 := this.2
  split at h3
  ·simp only [decide_eq_true_eq] at h3; rw [h3.2.2.1, h3.2.2.2]; simp; omega
  ·simp only [Bool.and_eq_true, decide_eq_true_eq] at h3; omega
 have h2 := sumI_le2 (f := szSy) (c := 100) (by omega) (l := o.syms) fun s hs => by
  have := symB_name (symsB_all h'.2 s hs)
  unfold szSy
  omega
 unfold szOb
 omega
def holS (g : Sect → Sect) (l : List Sect) (i : Int) : List (Sect × Bool) := (l.take i.toNat).map (fun y => (g y, false)) ++ (l.drop i.toNat).map fun y => (y, true)
theorem holS_zero {g : Sect → Sect} {l : List Sect} : l.map (fun y => (y, true)) = holS g l 0 := by simp [holS]
theorem holS_len {g : Sect → Sect} {l : List Sect} {i : Int} : (holS g l i).length = l.length := by simp [holS]; omega
theorem holS_get {g : Sect → Sect} {l : List Sect} {i : Int} {y : Sect} {b : Bool} : (holS g l i)[i.toNat]? = some (y, b) ↔ l[i.toNat]? = some y ∧ b = true := by
 unfold holS
 by_cases h : i.toNat < l.length
 ·have e : ((l.take i.toNat).map fun y => (g y, false)).length = i.toNat := by simp; omega
  rw [List.getElem?_append_right (by omega), e, Nat.sub_self, List.getElem?_map, List.getElem?_drop, Nat.add_zero]
  cases l[i.toNat]? with
  | none => simp
  | some x => simp only [Option.map_some, Option.some.injEq, Prod.mk.injEq]; exact ⟨fun h => ⟨h.1, h.2.symm⟩, fun h => ⟨h.1, h.2.symm⟩⟩
 ·rw [List.getElem?_eq_none (by simp; omega), List.getElem?_eq_none (by omega)]; simp
theorem holS_set {g : Sect → Sect} {l : List Sect} {i : Int} {y z : Sect} (hi : 0 ≤ i) (h : l[i.toNat]? = some y) (hz : z = g y) : (holS g l i).set i.toNat (z, false) = holS g l (i + 1) := by
 unfold holS
 have hl := lt_of_some h
 have e : ((l.take i.toNat).map fun y => (g y, false)).length = i.toNat := by simp; omega
 rw [List.set_append_right _ _ (by omega), e, Nat.sub_self, List.drop_eq_getElem_cons hl, List.map_cons, List.set_cons_zero, toNat_succ hi, take_snoc h, List.map_append, List.append_assoc, hz]
 rfl
end Go.Proofs.Ytpgglbnagphgoaa
