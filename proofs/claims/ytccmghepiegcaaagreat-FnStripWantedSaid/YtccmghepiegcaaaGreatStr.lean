/- Objects that are stripped: both packages keep the same contracts. -/
import Derived.Test.YtccmghepiegcaaaGreatJoiD
import Derived.Test.YtccmghepiegcaaaGreatObjV
import Derived.Test.YtccmghepiegcaaaGreatObjC
set_option linter.unusedVariables false
set_option linter.unusedSimpArgs false
set_option maxRecDepth 200000
set_option maxHeartbeats 4000000
namespace Go.Proofs.YtccmghepiegcaaaGreat
open Go Go.RowKit


theorem ixF_anyB {α : Type} {p : α → Bool} {l : List α} : decide (0 ≤ ixF p l 0) = l.any p := by
  rw [Bool.eq_iff_iff, decide_eq_true_iff]; exact ixF_any (by omega)
/-- Fixups, sections that are numbered anew, up to a place. -/
def midX (ns : List Int) (l : List Fixup) (j : Int) : List Fixup := (l.take j.toNat).map (reF ns) ++ l.drop j.toNat
def midS (ns : List Int) (l : List Sect) (i : Int) : List Sect := (l.take i.toNat).map (reS ns) ++ l.drop i.toNat
def reP (ns : List Int) (s : Sect) (j : Int) : Sect := ⟨s.name, s.kind, s.align, s.bytes, s.size, midX ns s.fixups j⟩
/-- A section, by its number. -/
def sAt (l : List Sect) (i : Int) : Sect := (l[i.toNat]?).getD ⟨⟨⟨[]⟩⟩, 0, 0, [], 0, []⟩
theorem sAt_eq {l : List Sect} {i : Int} {s : Sect} (h : l[i.toNat]? = some s) : sAt l i = s := by simp [sAt, h]
theorem sAt_get {l : List Sect} {i : Int} (h0 : 0 ≤ i) (h : i < l.length) : l[i.toNat]? = some (sAt l i) := by
  have h' := List.getElem?_eq_getElem (l := l) (i := i.toNat) (by omega)
  rw [h', sAt_eq h']
def midF (ns : List Int) (l : List Sect) (i j : Int) : List Sect := (midS ns l i).set i.toNat (reP ns (sAt l i) j)
theorem midX_zero {ns : List Int} {l : List Fixup} : midX ns l 0 = l := by simp [midX]
theorem midX_end {ns : List Int} {l : List Fixup} {j : Int} (h : (l.length : Int) ≤ j) : midX ns l j = l.map (reF ns) := by
  simp [midX, List.take_of_length_le (show l.length ≤ j.toNat by omega), List.drop_of_length_le (show l.length ≤ j.toNat by omega)]
theorem midX_len {ns : List Int} {l : List Fixup} {j : Int} : (midX ns l j).length = l.length := by simp [midX]; omega
theorem midX_get {ns : List Int} {l : List Fixup} {j : Int} : (midX ns l j)[j.toNat]? = l[j.toNat]? := by
  unfold midX
  by_cases h : j.toNat < l.length
  · have e : ((l.take j.toNat).map (reF ns)).length = j.toNat := by simp; omega
    rw [List.getElem?_append_right (by omega), e, Nat.sub_self, List.getElem?_drop, Nat.add_zero]
  · rw [List.getElem?_eq_none (by simp; omega), List.getElem?_eq_none (by omega)]
theorem midX_set {ns : List Int} {l : List Fixup} {j : Int} {f : Fixup} (hj : 0 ≤ j) (h : l[j.toNat]? = some f) : (midX ns l j).set j.toNat (reF ns f) = midX ns l (j + 1) := by
  unfold midX
  have hl := lt_of_some h
  have e : ((l.take j.toNat).map (reF ns)).length = j.toNat := by simp; omega
  rw [List.set_append_right _ _ (by omega), e, Nat.sub_self, List.drop_eq_getElem_cons hl, List.set_cons_zero, toNat_succ hj, take_snoc h, List.map_append, List.append_assoc]
  rfl
theorem midS_zero {ns : List Int} {l : List Sect} : midS ns l 0 = l := by simp [midS]
theorem midS_end {ns : List Int} {l : List Sect} {i : Int} (h : (l.length : Int) ≤ i) : midS ns l i = l.map (reS ns) := by
  simp [midS, List.take_of_length_le (show l.length ≤ i.toNat by omega), List.drop_of_length_le (show l.length ≤ i.toNat by omega)]
theorem midS_len {ns : List Int} {l : List Sect} {i : Int} : (midS ns l i).length = l.length := by simp [midS]; omega
theorem midS_get {ns : List Int} {l : List Sect} {i : Int} : (midS ns l i)[i.toNat]? = l[i.toNat]? := by
  unfold midS
  by_cases h : i.toNat < l.length
  · have e : ((l.take i.toNat).map (reS ns)).length = i.toNat := by simp; omega
    rw [List.getElem?_append_right (by omega), e, Nat.sub_self, List.getElem?_drop, Nat.add_zero]
  · rw [List.getElem?_eq_none (by simp; omega), List.getElem?_eq_none (by omega)]
theorem midS_set {ns : List Int} {l : List Sect} {i : Int} {s : Sect} (hi : 0 ≤ i) (h : l[i.toNat]? = some s) : (midS ns l i).set i.toNat (reS ns s) = midS ns l (i + 1) := by
  unfold midS
  have hl := lt_of_some h
  have e : ((l.take i.toNat).map (reS ns)).length = i.toNat := by simp; omega
  rw [List.set_append_right _ _ (by omega), e, Nat.sub_self, List.drop_eq_getElem_cons hl, List.set_cons_zero, toNat_succ hi, take_snoc h, List.map_append, List.append_assoc]
  rfl
theorem midF_zero {ns : List Int} {l : List Sect} {i : Int} (h0 : 0 ≤ i) (h : i < l.length) : midS ns l i = midF ns l i 0 := by
  unfold midF
  have e : reP ns (sAt l i) 0 = sAt l i := by simp [reP, midX_zero]
  rw [e]
  refine List.ext_getElem? fun k => ?_
  rw [List.getElem?_set]
  split
  · rename_i hk
    subst hk
    rw [midS_get, sAt_get h0 h, if_pos (by rw [midS_len]; omega)]
  · rfl
theorem midF_end {ns : List Int} {l : List Sect} {i j : Int} (hi : 0 ≤ i) (h : i < l.length) (hj : ((sAt l i).fixups.length : Int) ≤ j) : midF ns l i j = midS ns l (i + 1) := by
  unfold midF
  rw [← midS_set hi (sAt_get hi h)]
  simp only [reP, midX_end hj, reS]
theorem midF_get {ns : List Int} {l : List Sect} {i j : Int} {x : Sect} (hi : 0 ≤ i) (h : i < l.length) (hx : (midF ns l i j)[i.toNat]? = some x) : x = reP ns (sAt l i) j := by
  unfold midF at hx
  rw [List.getElem?_set, if_pos rfl, if_pos (by rw [midS_len]; omega)] at hx
  injection hx with hx; exact hx.symm
theorem midF_len {ns : List Int} {l : List Sect} {i j : Int} : (midF ns l i j).length = l.length := by
  unfold midF; rw [List.length_set, midS_len]
theorem midF_fix {ns : List Int} {l : List Sect} {i j : Int} {x : Sect} {f : Fixup} (hi : 0 ≤ i) (h : i < l.length) (hx : (midF ns l i j)[i.toNat]? = some x) (hf : x.fixups[j.toNat]? = some f) : (sAt l i).fixups[j.toNat]? = some f := by
  rw [midF_get hi h hx] at hf
  rw [← hf]
  exact midX_get.symm
theorem midF_flen {ns : List Int} {l : List Sect} {i j : Int} {x : Sect} (hi : 0 ≤ i) (h : i < l.length) (hx : (midF ns l i j)[i.toNat]? = some x) : x.fixups.length = (sAt l i).fixups.length := by
  rw [midF_get hi h hx]
  exact midX_len
theorem midF_set {ns : List Int} {l : List Sect} {i j n : Int} {x : Sect} {f : Fixup} (hi : 0 ≤ i) (h : i < l.length) (hj : 0 ≤ j) (hx : (midF ns l i j)[i.toNat]? = some x) (hf : x.fixups[j.toNat]? = some f) (hn : ns[f.to.toNat]? = some n) :
    (midF ns l i j).set i.toNat ⟨x.name, x.kind, x.align, x.bytes, x.size, x.fixups.set j.toNat ⟨f.at_, f.kind, n, f.add⟩⟩ = midF ns l i (j + 1) := by
  have hf' := midF_fix hi h hx hf
  rw [midF_get hi h hx]
  unfold midF
  rw [List.set_set]
  congr 1
  have e : (⟨f.at_, f.kind, n, f.add⟩ : Fixup) = reF ns f := by simp only [reF, getD_get hn]
  simp only [reP]
  rw [e, midX_set hj hf']
/-- Symbols that are kept, numbers, up to a place. -/
theorem kpS_nil : ∀ {l : List Sym}, kpS [] l = [] := fun {l} => by cases l <;> rfl
theorem kpS_next : ∀ {p : List Bool} {l : List Sym} {j : Nat} {b : Bool} {s : Sym}, p[j]? = some b → l[j]? = some s → kpS (p.take (j + 1)) l = kpS (p.take j) l ++ (if b = true then [s] else []) := by
  intro p
  induction p with
  | nil => intro l j b s h; simp at h
  | cons a p ih =>
    intro l j b s hp hl
    cases l with
    | nil => simp at hl
    | cons t l =>
      cases j with
      | zero =>
        simp only [List.getElem?_cons_zero, Option.some.injEq] at hp hl
        subst hp; subst hl
        simp [kpS, kpS_nil]
      | succ j =>
        simp only [List.getElem?_cons_succ] at hp hl
        have := ih hp hl
        rw [List.take_succ_cons, List.take_succ_cons]
        simp only [kpS, this]
        split <;> simp
theorem kpN_len : ∀ {p : List Bool} {k : Int}, (kpN p k).length = p.length := by
  intro p
  induction p with
  | nil => intro k; rfl
  | cons a p ih => intro k; simp [kpN, ih]
theorem kpN_get : ∀ {p : List Bool} {l : List Sym} {k : Int} {j : Nat}, p.length = l.length → j < p.length → (kpN p k)[j]? = some (k + (kpS (p.take j) l).length) := by
  intro p
  induction p with
  | nil => intro l k j _ h; simp at h
  | cons a p ih =>
    intro l k j hl h
    cases l with
    | nil => simp at hl
    | cons t l =>
      cases j with
      | zero => simp [kpN, kpS]
      | succ j =>
        simp only [kpN, List.getElem?_cons_succ, List.take_succ_cons, kpS]
        rw [ih (l := l) (by simpa using hl) (by simpa using h)]
        split <;> simp <;> omega
theorem kpS_le {p : List Bool} {l : List Sym} : (kpS p l).length ≤ l.length := kpS_sub.length_le
theorem kpS_at {p : List Bool} {l : List Sym} {j : Int} {b : Bool} {s : Sym} (hj : 0 ≤ j) (hp : p[j.toNat]? = some b) (hs : l[j.toNat]? = some s) : kpS (p.take (j + 1).toNat) l = if b = true then kpS (p.take j.toNat) l ++ [s] else kpS (p.take j.toNat) l := by
  rw [toNat_succ hj, kpS_next hp hs]; split <;> simp
theorem kpN_snoc {p : List Bool} {l : List Sym} {j : Int} (hj : 0 ≤ j) (hl : p.length = l.length) (h : j < p.length) : (kpN p 0).take j.toNat ++ [((kpS (p.take j.toNat) l).length : Int)] = (kpN p 0).take (j + 1).toNat := by
  have := kpN_get (k := 0) (j := j.toNat) hl (by omega)
  rw [Int.zero_add] at this
  rw [toNat_succ hj, take_snoc this]
theorem kpN_set {p : List Bool} {l : List Sym} {j : Int} (hj : 0 ≤ j) (hl : p.length = l.length) (h : j < p.length) : ((kpN p 0).take j.toNat ++ List.replicate (l.length - j.toNat) 0).set j.toNat ((kpS (p.take j.toNat) l).length : Int) = (kpN p 0).take (j + 1).toNat ++ List.replicate (l.length - (j + 1).toNat) 0 := by
  have := kpN_get (k := 0) (j := j.toNat) hl (by omega)
  rw [Int.zero_add] at this
  rw [toNat_succ hj]
  exact set_fill this (by rw [kpN_len, hl])
theorem kp_take_end {p : List Bool} {l : List Sym} {j : Int} (hl : p.length = l.length) (h : (l.length : Int) ≤ j) : kpS (p.take j.toNat) l = kpS p l ∧ (kpN p 0).take j.toNat = kpN p 0 ∧ (kpN p 0).take j.toNat ++ List.replicate (l.length - j.toNat) 0 = kpN p 0 := by
  have e : (kpN p 0).take j.toNat = kpN p 0 := List.take_of_length_le (by rw [kpN_len]; omega)
  refine ⟨by rw [List.take_of_length_le (by omega)], e, ?_⟩
  rw [e, show l.length - j.toNat = 0 by omega]; simp
theorem kpN_zero {l : List Sym} {p : List Bool} {n : Nat} (h : n = l.length) : List.replicate n (0 : Int) = (kpN p 0).take (Int.toNat 0) ++ List.replicate (l.length - Int.toNat 0) 0 := by simp [h]
theorem kpS_zero {l : List Sym} {p : List Bool} : kpS (p.take (Int.toNat 0)) l = [] := kpS_nil
theorem bits_at {q : Int → Sym → Bool} {l : List Sym} {j : Int} {s : Sym} (hj : 0 ≤ j) (h : l[j.toNat]? = some s) : (bits q l 0)[j.toNat]? = some (q j s) := by
  rw [bits_get, h, Int.zero_add]
  simp only [Option.map_some, Option.some.injEq]
  congr 1; omega
theorem bits_snoc {q : Int → Sym → Bool} {l : List Sym} {j : Int} {s : Sym} (hj : 0 ≤ j) (h : l[j.toNat]? = some s) : (bits q l 0).take j.toNat ++ [q j s] = (bits q l 0).take (j + 1).toNat := by
  rw [toNat_succ hj, take_snoc (bits_at hj h)]
theorem bits_end {q : Int → Sym → Bool} {l : List Sym} {j : Int} (h : (l.length : Int) ≤ j) : (bits q l 0).take j.toNat = bits q l 0 := List.take_of_length_le (by rw [bits_len]; omega)
theorem fix_in {o : Objt} {i j : Nat} {s : Sect} {f : Fixup} (ho : objB o = true) (hs : o.sects[i]? = some s) (hf : s.fixups[j]? = some f) : 0 ≤ f.to ∧ f.to < o.syms.length := objB_to ho (List.mem_of_getElem? hs) (List.mem_of_getElem? hf)
theorem fix_6 {o : Objt} {i : Nat} {s : Sect} (ho : objB o = true) (hs : o.sects[i]? = some s) : s.fixups.length ≤ 6 := by
  simp only [objB, Bool.and_eq_true, List.all_eq_true] at ho
  have := ho.1.2 s (List.mem_of_getElem? hs)
  simp only [secB, Bool.and_eq_true] at this
  have := this.2
  split at this
  · simp only [decide_eq_true_eq] at this; rw [this.2.2.2]; simp
  · simp only [Bool.and_eq_true, decide_eq_true_eq] at this; omega
theorem kq_yes {q : Int → Sym → Bool} {l : List Sym} {j : Int} {s : Sym} (h : q j s = true) (hs : l[j.toNat]? = some s) (hj : 0 ≤ j) : kpS ((bits q l 0).take j.toNat) l ++ [s] = kpS ((bits q l 0).take (j + 1).toNat) l := by
  rw [kpS_at hj (bits_at hj hs) hs, if_pos h]
theorem kq_no {q : Int → Sym → Bool} {l : List Sym} {j : Int} {s : Sym} (h : q j s = false) (hs : l[j.toNat]? = some s) (hj : 0 ≤ j) : kpS ((bits q l 0).take j.toNat) l = kpS ((bits q l 0).take (j + 1).toNat) l := by
  rw [kpS_at hj (bits_at hj hs) hs, if_neg (by simp [h])]
theorem kq_end {q : Int → Sym → Bool} {l : List Sym} {j : Int} (h : (l.length : Int) ≤ j) : kpS ((bits q l 0).take j.toNat) l = kpS (bits q l 0) l := (kp_take_end bits_len h).1
theorem kq_ends {q : Int → Sym → Bool} {l : List Sym} {j : Int} (h : (l.length : Int) ≤ j) : (kpN (bits q l 0) 0).take j.toNat ++ List.replicate (l.length - j.toNat) 0 = kpN (bits q l 0) 0 := (kp_take_end bits_len h).2.2
theorem midF_set2 {ns : List Int} {l : List Sect} {i j n : Int} {x x' : Sect} {f f' : Fixup} (hn : ns[f'.to.toNat]? = some n) (hf' : x'.fixups[j.toNat]? = some f') (hx' : (midF ns l i j)[i.toNat]? = some x') (hf : x.fixups[j.toNat]? = some f) (hx : (midF ns l i j)[i.toNat]? = some x) (hi : 0 ≤ i) (h : i < l.length) (hj : 0 ≤ j) :
    (midF ns l i j).set i.toNat ⟨x.name, x.kind, x.align, x.bytes, x.size, x.fixups.set j.toNat ⟨f.at_, f.kind, n, f.add⟩⟩ = midF ns l i (j + 1) := by
  have e : x' = x := Option.some.inj (hx'.symm.trans hx)
  subst e
  have e : f' = f := Option.some.inj (hf'.symm.trans hf)
  subst e
  exact midF_set hi h hj hx hf hn
theorem midF_to {o : Objt} {ns : List Int} {i j : Int} {x : Sect} {f : Fixup} (hf : x.fixups[j.toNat]? = some f) (hx : (midF ns o.sects i j)[i.toNat]? = some x) (ho : objB o = true) (hi : 0 ≤ i) (h : i < o.sects.length) : 0 ≤ f.to ∧ f.to < o.syms.length := by
  have h1 := midF_fix hi h hx hf
  exact fix_in ho (sAt_get hi h) h1
theorem midF_tn {o : Objt} {ns : List Int} {i j : Int} {x : Sect} {f : Fixup} {p : List Bool} {k : Int} (hf : x.fixups[j.toNat]? = some f) (hx : (midF ns o.sects i j)[i.toNat]? = some x) (ho : objB o = true) (hi : 0 ≤ i) (h : i < o.sects.length) (hp : p.length = o.syms.length) : f.to < (kpN p k).length := by
  rw [kpN_len, hp]; exact (midF_to hf hx ho hi h).2
theorem midF_z2 {ns : List Int} {l : List Sect} {i : Int} (h : i < (midS ns l i).length) (h0 : 0 ≤ i) : midS ns l i = midF ns l i 0 := midF_zero h0 (by rw [midS_len] at h; exact h)
theorem midF_e2 {ns : List Int} {l : List Sect} {i j : Int} {x : Sect} (hx : (midF ns l i j)[i.toNat]? = some x) (hj : (x.fixups.length : Int) ≤ j) (hi : 0 ≤ i) (h : i < l.length) : midF ns l i j = midS ns l (i + 1) :=
  midF_end hi h (by rw [← midF_flen hi h hx]; exact hj)
theorem K9_1 {p : List Bool} {l : List Sym} {j : Int} (h0 : 0 ≤ j) (hj : j < l.length) (hp : p.length = l.length) : (kpN p 0).take j.toNat ++ [((kpS (p.take j.toNat) l).length : Int)] = (kpN p 0).take (j + 1).toNat := kpN_snoc h0 hp (by omega)
theorem K9_2 {p : List Bool} {l : List Sym} {j : Int} {c : Bool} (hp : p[j.toNat]? = some c) (hc : c = false) (h0 : 0 ≤ j) (hj : j < l.length) : kpS (p.take j.toNat) l = kpS (p.take (j + 1).toNat) l := by
  obtain ⟨s, hs⟩ := some_of_lt h0 hj
  rw [kpS_at h0 hp hs, if_neg (by simp [hc])]
theorem K9_4 {p : List Bool} {l : List Sym} {j : Int} (h : (l.length : Int) ≤ j) (hp : p.length = l.length) : (kpN p 0).take j.toNat = kpN p 0 := List.take_of_length_le (by rw [kpN_len]; omega)
theorem sAt_6 {o : Objt} {i : Int} (ho : objB o = true) (h0 : 0 ≤ i) (h : i < o.sects.length) : (sAt o.sects i).fixups.length ≤ 6 := fix_6 ho (sAt_get h0 h)
theorem bl_n {q : Int → Sym → Bool} {l : List Sym} : (bits q l 0).length = l.length := bits_len
theorem sumI_le2 {α : Type} {f : α → Int} {c : Int} (hc : 0 ≤ c) : ∀ {l : List α}, (∀ x ∈ l, f x ≤ c) → sumI f l ≤ c * l.length := by
  intro l
  induction l with
  | nil => intro _; simp [sumI]
  | cons x l ih =>
    intro h
    have h1 := h x (by simp)
    have h2 := ih fun y hy => h y (by simp [hy])
    simp only [sumI, List.length_cons, Int.natCast_add, Int.mul_add]
    simp
    omega
theorem symB_name {s : Sym} {x : List Sect} (h : symB s x = true) : s.name.size ≤ 8 := by
  simp only [symB, nameB, Bool.and_eq_true, decide_eq_true_eq] at h
  omega
theorem objB_sz {o : Objt} (h : objB o = true) : szOb o ≤ 5000 := by
  have hl := objB_lens h
  have h' := h
  simp only [objB, Bool.and_eq_true, List.all_eq_true] at h'
  have h1 := sumI_le2 (f := szSe) (c := 100) (by omega) (l := o.sects) fun s hs => by
    have := h'.1.2 s hs
    simp only [secB, nameB, Bool.and_eq_true, decide_eq_true_eq] at this
    unfold szSe
    have h3 := this.2
    split at h3
    · simp only [decide_eq_true_eq] at h3; rw [h3.2.2.1, h3.2.2.2]; simp; omega
    · simp only [Bool.and_eq_true, decide_eq_true_eq] at h3; omega
  have h2 := sumI_le2 (f := szSy) (c := 100) (by omega) (l := o.syms) fun s hs => by
    have := symB_name (symsB_all h'.2 s hs)
    unfold szSy
    omega
  unfold szOb
  omega
/-- Sections that are taken out one by one; what is left of them. -/
def holS (g : Sect → Sect) (l : List Sect) (i : Int) : List (Sect × Bool) := (l.take i.toNat).map (fun y => (g y, false)) ++ (l.drop i.toNat).map fun y => (y, true)
theorem holS_zero {g : Sect → Sect} {l : List Sect} : l.map (fun y => (y, true)) = holS g l 0 := by simp [holS]
theorem holS_len {g : Sect → Sect} {l : List Sect} {i : Int} : (holS g l i).length = l.length := by simp [holS]; omega
theorem holS_get {g : Sect → Sect} {l : List Sect} {i : Int} {y : Sect} {b : Bool} : (holS g l i)[i.toNat]? = some (y, b) ↔ l[i.toNat]? = some y ∧ b = true := by
  unfold holS
  by_cases h : i.toNat < l.length
  · have e : ((l.take i.toNat).map fun y => (g y, false)).length = i.toNat := by simp; omega
    rw [List.getElem?_append_right (by omega), e, Nat.sub_self, List.getElem?_map, List.getElem?_drop, Nat.add_zero]
    cases l[i.toNat]? with
    | none => simp
    | some x => simp only [Option.map_some, Option.some.injEq, Prod.mk.injEq]; exact ⟨fun h => ⟨h.1, h.2.symm⟩, fun h => ⟨h.1, h.2.symm⟩⟩
  · rw [List.getElem?_eq_none (by simp; omega), List.getElem?_eq_none (by omega)]; simp
theorem holS_set {g : Sect → Sect} {l : List Sect} {i : Int} {y z : Sect} (hi : 0 ≤ i) (h : l[i.toNat]? = some y) (hz : z = g y) : (holS g l i).set i.toNat (z, false) = holS g l (i + 1) := by
  unfold holS
  have hl := lt_of_some h
  have e : ((l.take i.toNat).map fun y => (g y, false)).length = i.toNat := by simp; omega
  rw [List.set_append_right _ _ (by omega), e, Nat.sub_self, List.drop_eq_getElem_cons hl, List.map_cons, List.set_cons_zero, toNat_succ hi, take_snoc h, List.map_append, List.append_assoc, hz]
  rfl
theorem stripL_sz (o : Objt) : szOb (stripL o) ≤ 5000 := by
  unfold stripL
  split
  · rename_i h
    have := objB_sz (stripL_law (b := 0) h).1
    rw [stripL, if_pos h] at this
    exact this
  · decide
theorem stripW_sz (o : Objt) : szOb (stripW o) ≤ 5000 := by
  unfold stripW
  split
  · rename_i h
    have := objB_sz (stripW_law (b := 0) h).1
    rw [stripW, if_pos h] at this
    exact this
  · decide
def C_impl_Object_uses_1_1 : Con := { ps := [.ro (.st .fixup), .box (.ty .i)], out := fun x => let f : Fixup := x.1; let j : Int := x.2.1; vc .bool (decide (f.to = j)), det := true }
abbrev L_impl_Object_uses_1_1 : List (Nat × Con) := []
def G_impl_Object_uses_1_1 : Cfg := GK L_impl_Object_uses_1_1
def an_impl_Object_uses_1_1 : PTL C_impl_Object_uses_1_1.ps → Nat → Option Ann := fun _ _ => none
theorem vc_impl_Object_uses_1_1 (f : Fixup) (j : Int) : (KP Tryz.f48 G_impl_Object_uses_1_1 C_impl_Object_uses_1_1 an_impl_Object_uses_1_1 (f, j, ())) = (decide (f.to = j) = decide (f.to = j) ∧ j = j ∧ True) := by kernel_rfl
theorem det_impl_Object_uses_1_1 : C_impl_Object_uses_1_1.det = true → ∀ x, (C_impl_Object_uses_1_1.out x).Det := fun _ _ => Det.vc'
theorem ok_impl_Object_uses_1_1 : ConOK Tryz.prog 48 C_impl_Object_uses_1_1 := by
  refine con_q (l := L_impl_Object_uses_1_1) trivial Tryz.func48 rfl (by decide) (by kernel_rfl) rfl an_impl_Object_uses_1_1 fun x ho hx => ?_
  obtain ⟨f, j, ⟨⟩⟩ := x
  refine Keeps.of (vc_impl_Object_uses_1_1 f j) ?_
  revert f j ho hx
  show ∀ (f : Fixup) (j : Int), _
  intro f j ho hx
  dsimp only [C_impl_Object_uses_1_1, okPTL, okPT, Ok, Ty.cells, SN.cells, OkL, OkC, okI, ci, cb, cs, cl] at ho
  dsimp only [C_impl_Object_uses_1_1, vc, v1, decB, SR.pre] at hx
  (try delta i64 LN); simp only [VBt]; (repeat' first | intro _ | apply And.intro); all_goals (try omega); all_goals (try grind)
def C_slices_IndexFunc_impl_Fixup_impl_Fixup : Con := { ps := [.ro (.list (.st .fixup)), .fn 48 [.ty .i]], out := fun x => let l : List (Fixup) := x.1; let g : (Int) × (Unit) := x.2.1; vc .i (ixF (fun f => decide (f.to = g.1)) l 0), det := true }
abbrev L_slices_IndexFunc_impl_Fixup_impl_Fixup : List (Nat × Con) := [(48, C_impl_Object_uses_1_1)]
def G_slices_IndexFunc_impl_Fixup_impl_Fixup : Cfg := GK L_slices_IndexFunc_impl_Fixup_impl_Fixup
def an_slices_IndexFunc_impl_Fixup_impl_Fixup : PTL C_slices_IndexFunc_impl_Fixup_impl_Fixup.ps → Nat → Option Ann := fun x kk_ => let l : List (Fixup) := x.1; let g : (Int) × (Unit) := x.2.1; if kk_ = 2 then some (.all (Int) fun i => .giv (0 ≤ i ∧ i ≤ l.length ∧ ixF (fun f : Fixup => decide (f.to = g.1)) l 0 = ixF (fun f : Fixup => decide (f.to = g.1)) (l.drop i.toNat) i) (.mk [(1, .one (.fn 48 [0])), (8, ai i), (0, al (.st .fixup) l), (7, ai (List.length l))] [(0, lent .i g.1)] ((l.length - i.toNat)))) else none
theorem vc_slices_IndexFunc_impl_Fixup_impl_Fixup (l : List (Fixup)) (g : (Int) × (Unit)) : (KP Tryz.f79 G_slices_IndexFunc_impl_Fixup_impl_Fixup C_slices_IndexFunc_impl_Fixup_impl_Fixup an_slices_IndexFunc_impl_Fixup_impl_Fixup (l, g, ())) = (l.length ≤ 9223372036854775807 →
 (∃ (a : Int), 0 = a ∧ l = l ∧ LN l = LN l ∧ g.fst = g.fst ∧ (0 ≤ a ∧ a ≤ LN l ∧ @ixF Fixup (fun (b : Fixup) => decide (b.to = g.fst)) l (0 : Int) = @ixF Fixup (fun (c : Fixup) => decide (c.to = g.fst)) (l.drop a.toNat) a) ∧ True) ∧ (∀ (d : Int), 0 ≤ d ∧ d ≤ LN l ∧ @ixF Fixup (fun (e : Fixup) => decide (e.to = g.fst)) l (0 : Int) = @ixF Fixup (fun (f : Fixup) => decide (f.to = g.fst)) (l.drop d.toNat) d →
 (decide (d < LN l) = true →
 (0 ≤ d ∧ d < LN l) ∧ (∀ (h : Fixup), l[d.toNat]? = some h →
 Ok (Ty.st SN.fixup) h →
 (decide (h.to = g.fst) = true →
 d = @ixF Fixup (fun (i : Fixup) => decide (i.to = g.fst)) l (0 : Int) ∧ g.fst = g.fst ∧ True) ∧ (decide (h.to = g.fst) = false →
 i64 (d + 1) ∧ (∃ (j : Int), d + 1 = j ∧ l = l ∧ LN l = LN l ∧ g.fst = g.fst ∧ (0 ≤ j ∧ j ≤ LN l ∧ @ixF Fixup (fun (k : Fixup) => decide (k.to = g.fst)) l (0 : Int) = @ixF Fixup (fun (m : Fixup) => decide (m.to = g.fst)) (l.drop j.toNat) j) ∧ l.length - j.toNat < l.length - d.toNat)))) ∧ (decide (d < LN l) = false →
 (- (1 : Int)) = @ixF Fixup (fun (n : Fixup) => decide (n.to = g.fst)) l (0 : Int) ∧ g.fst = g.fst ∧ True))) := by kernel_rfl
theorem det_slices_IndexFunc_impl_Fixup_impl_Fixup : C_slices_IndexFunc_impl_Fixup_impl_Fixup.det = true → ∀ x, (C_slices_IndexFunc_impl_Fixup_impl_Fixup.out x).Det := fun _ _ => Det.vc'
theorem ok_slices_IndexFunc_impl_Fixup_impl_Fixup : ConOK Tryz.prog 79 C_slices_IndexFunc_impl_Fixup_impl_Fixup := by
  refine con_q (l := L_slices_IndexFunc_impl_Fixup_impl_Fixup) ⟨⟨ok_impl_Object_uses_1_1, det_impl_Object_uses_1_1⟩, trivial⟩ Tryz.func79 rfl (by decide) (by kernel_rfl) rfl an_slices_IndexFunc_impl_Fixup_impl_Fixup fun x ho hx => ?_
  obtain ⟨l, g, ⟨⟩⟩ := x
  refine Keeps.of (vc_slices_IndexFunc_impl_Fixup_impl_Fixup l g) ?_
  revert l g ho hx
  show ∀ (l : List (Fixup)) (g : (Int) × (Unit)), _
  intro l g ho hx
  dsimp only [C_slices_IndexFunc_impl_Fixup_impl_Fixup, okPTL, okPT, Ok, Ty.cells, SN.cells, OkL, OkC, okI, ci, cb, cs, cl] at ho
  dsimp only [C_slices_IndexFunc_impl_Fixup_impl_Fixup, vc, v1, decB, SR.pre] at hx
  (try delta i64 LN); simp only [VBt]; (repeat' first | intro _ | apply And.intro); all_goals (try omega); all_goals (try have hdr := drop_get' (l := l) (by assumption) (by assumption)); all_goals (try grind [ixF, drop_end])
def C_slices_ContainsFunc_impl_Fixup_impl_Fixup : Con := { ps := [.ro (.list (.st .fixup)), .fn 48 [.ty .i]], out := fun x => let l : List (Fixup) := x.1; let g : (Int) × (Unit) := x.2.1; vc .bool (l.any fun f => decide (f.to = g.1)), det := true }
abbrev L_slices_ContainsFunc_impl_Fixup_impl_Fixup : List (Nat × Con) := [(79, C_slices_IndexFunc_impl_Fixup_impl_Fixup)]
def G_slices_ContainsFunc_impl_Fixup_impl_Fixup : Cfg := GK L_slices_ContainsFunc_impl_Fixup_impl_Fixup
def an_slices_ContainsFunc_impl_Fixup_impl_Fixup : PTL C_slices_ContainsFunc_impl_Fixup_impl_Fixup.ps → Nat → Option Ann := fun _ _ => none
theorem vc_slices_ContainsFunc_impl_Fixup_impl_Fixup (l : List (Fixup)) (g : (Int) × (Unit)) : (KP Tryz.f47 G_slices_ContainsFunc_impl_Fixup_impl_Fixup C_slices_ContainsFunc_impl_Fixup_impl_Fixup an_slices_ContainsFunc_impl_Fixup_impl_Fixup (l, g, ())) = (decide (0 ≤ @ixF Fixup (fun (a : Fixup) => decide (a.to = g.fst)) l (0 : Int)) = @List.any Fixup l (fun (b : Fixup) => decide (b.to = g.fst)) ∧ g.fst = g.fst ∧ True) := by kernel_rfl
theorem det_slices_ContainsFunc_impl_Fixup_impl_Fixup : C_slices_ContainsFunc_impl_Fixup_impl_Fixup.det = true → ∀ x, (C_slices_ContainsFunc_impl_Fixup_impl_Fixup.out x).Det := fun _ _ => Det.vc'
theorem ok_slices_ContainsFunc_impl_Fixup_impl_Fixup : ConOK Tryz.prog 47 C_slices_ContainsFunc_impl_Fixup_impl_Fixup := by
  refine con_q (l := L_slices_ContainsFunc_impl_Fixup_impl_Fixup) ⟨⟨ok_slices_IndexFunc_impl_Fixup_impl_Fixup, det_slices_IndexFunc_impl_Fixup_impl_Fixup⟩, trivial⟩ Tryz.func47 rfl (by decide) (by kernel_rfl) rfl an_slices_ContainsFunc_impl_Fixup_impl_Fixup fun x ho hx => ?_
  obtain ⟨l, g, ⟨⟩⟩ := x
  refine Keeps.of (vc_slices_ContainsFunc_impl_Fixup_impl_Fixup l g) ?_
  revert l g ho hx
  show ∀ (l : List (Fixup)) (g : (Int) × (Unit)), _
  intro l g ho hx
  dsimp only [C_slices_ContainsFunc_impl_Fixup_impl_Fixup, okPTL, okPT, Ok, Ty.cells, SN.cells, OkL, OkC, okI, ci, cb, cs, cl] at ho
  dsimp only [C_slices_ContainsFunc_impl_Fixup_impl_Fixup, vc, v1, decB, SR.pre] at hx
  have h := ixF_anyB (p := fun f : Fixup => decide (f.to = g.1)) (l := l)
  (try delta i64 LN); simp only [VBt]; (repeat' first | intro _ | apply And.intro); all_goals (try omega); all_goals (try grind)
def C_impl_Object_uses_1 : Con := { ps := [.ro (.st .sect), .box (.ty .i)], out := fun x => let s : Sect := x.1; let j : Int := x.2.1; vc .bool (s.fixups.any fun f => decide (f.to = j)), det := true }
abbrev L_impl_Object_uses_1 : List (Nat × Con) := [(48, C_impl_Object_uses_1_1), (47, C_slices_ContainsFunc_impl_Fixup_impl_Fixup)]
def G_impl_Object_uses_1 : Cfg := GK L_impl_Object_uses_1
def an_impl_Object_uses_1 : PTL C_impl_Object_uses_1.ps → Nat → Option Ann := fun _ _ => none
theorem vc_impl_Object_uses_1 (s : Sect) (j : Int) : (KP Tryz.f46 G_impl_Object_uses_1 C_impl_Object_uses_1 an_impl_Object_uses_1 (s, j, ())) = (@List.any Fixup s.fixups (fun (a : Fixup) => decide (a.to = j)) = @List.any Fixup s.fixups (fun (b : Fixup) => decide (b.to = j)) ∧ j = j ∧ True) := by kernel_rfl
theorem det_impl_Object_uses_1 : C_impl_Object_uses_1.det = true → ∀ x, (C_impl_Object_uses_1.out x).Det := fun _ _ => Det.vc'
theorem ok_impl_Object_uses_1 : ConOK Tryz.prog 46 C_impl_Object_uses_1 := by
  refine con_q (l := L_impl_Object_uses_1) ⟨⟨ok_impl_Object_uses_1_1, det_impl_Object_uses_1_1⟩, ⟨⟨ok_slices_ContainsFunc_impl_Fixup_impl_Fixup, det_slices_ContainsFunc_impl_Fixup_impl_Fixup⟩, trivial⟩⟩ Tryz.func46 rfl (by decide) (by kernel_rfl) rfl an_impl_Object_uses_1 fun x ho hx => ?_
  obtain ⟨s, j, ⟨⟩⟩ := x
  refine Keeps.of (vc_impl_Object_uses_1 s j) ?_
  revert s j ho hx
  show ∀ (s : Sect) (j : Int), _
  intro s j ho hx
  dsimp only [C_impl_Object_uses_1, okPTL, okPT, Ok, Ty.cells, SN.cells, OkL, OkC, okI, ci, cb, cs, cl] at ho
  dsimp only [C_impl_Object_uses_1, vc, v1, decB, SR.pre] at hx
  (try delta i64 LN); simp only [VBt]; (repeat' first | intro _ | apply And.intro); all_goals (try omega); all_goals (try grind)
def C_slices_IndexFunc_impl_Section_impl_Section : Con := { ps := [.ro (.list (.st .sect)), .fn 46 [.ty .i]], out := fun x => let l : List (Sect) := x.1; let g : (Int) × (Unit) := x.2.1; vc .i (ixF (fun s => s.fixups.any fun f => decide (f.to = g.1)) l 0), det := true }
abbrev L_slices_IndexFunc_impl_Section_impl_Section : List (Nat × Con) := [(46, C_impl_Object_uses_1)]
def G_slices_IndexFunc_impl_Section_impl_Section : Cfg := GK L_slices_IndexFunc_impl_Section_impl_Section
def an_slices_IndexFunc_impl_Section_impl_Section : PTL C_slices_IndexFunc_impl_Section_impl_Section.ps → Nat → Option Ann := fun x kk_ => let l : List (Sect) := x.1; let g : (Int) × (Unit) := x.2.1; if kk_ = 2 then some (.all (Int) fun i => .giv (0 ≤ i ∧ i ≤ l.length ∧ ixF (fun s : Sect => s.fixups.any fun f => decide (f.to = g.1)) l 0 = ixF (fun s : Sect => s.fixups.any fun f => decide (f.to = g.1)) (l.drop i.toNat) i) (.mk [(1, .one (.fn 46 [0])), (8, ai i), (0, al (.st .sect) l), (7, ai (List.length l))] [(0, lent .i g.1)] ((l.length - i.toNat)))) else none
theorem vc_slices_IndexFunc_impl_Section_impl_Section (l : List (Sect)) (g : (Int) × (Unit)) : (KP Tryz.f78 G_slices_IndexFunc_impl_Section_impl_Section C_slices_IndexFunc_impl_Section_impl_Section an_slices_IndexFunc_impl_Section_impl_Section (l, g, ())) = (l.length ≤ 9223372036854775807 →
 (∃ (a : Int), 0 = a ∧ l = l ∧ LN l = LN l ∧ g.fst = g.fst ∧ (0 ≤ a ∧ a ≤ LN l ∧ @ixF Sect (fun (b : Sect) => @List.any Fixup b.fixups (fun (c : Fixup) => decide (c.to = g.fst))) l (0 : Int) = @ixF Sect (fun (d : Sect) => @List.any Fixup d.fixups (fun (e : Fixup) => decide (e.to = g.fst))) (l.drop a.toNat) a) ∧ True) ∧ (∀ (f : Int), 0 ≤ f ∧ f ≤ LN l ∧ @ixF Sect (fun (h : Sect) => @List.any Fixup h.fixups (fun (i : Fixup) => decide (i.to = g.fst))) l (0 : Int) = @ixF Sect (fun (j : Sect) => @List.any Fixup j.fixups (fun (k : Fixup) => decide (k.to = g.fst))) (l.drop f.toNat) f →
 (decide (f < LN l) = true →
 (0 ≤ f ∧ f < LN l) ∧ (∀ (m : Sect), l[f.toNat]? = some m →
 Ok (Ty.st SN.sect) m →
 (@List.any Fixup m.fixups (fun (n : Fixup) => decide (n.to = g.fst)) = true →
 f = @ixF Sect (fun (o : Sect) => @List.any Fixup o.fixups (fun (p : Fixup) => decide (p.to = g.fst))) l (0 : Int) ∧ g.fst = g.fst ∧ True) ∧ (@List.any Fixup m.fixups (fun (q : Fixup) => decide (q.to = g.fst)) = false →
 i64 (f + 1) ∧ (∃ (r : Int), f + 1 = r ∧ l = l ∧ LN l = LN l ∧ g.fst = g.fst ∧ (0 ≤ r ∧ r ≤ LN l ∧ @ixF Sect (fun (s : Sect) => @List.any Fixup s.fixups (fun (t : Fixup) => decide (t.to = g.fst))) l (0 : Int) = @ixF Sect (fun (u : Sect) => @List.any Fixup u.fixups (fun (v : Fixup) => decide (v.to = g.fst))) (l.drop r.toNat) r) ∧ l.length - r.toNat < l.length - f.toNat)))) ∧ (decide (f < LN l) = false →
 (- (1 : Int)) = @ixF Sect (fun (w : Sect) => @List.any Fixup w.fixups (fun (x : Fixup) => decide (x.to = g.fst))) l (0 : Int) ∧ g.fst = g.fst ∧ True))) := by kernel_rfl
theorem det_slices_IndexFunc_impl_Section_impl_Section : C_slices_IndexFunc_impl_Section_impl_Section.det = true → ∀ x, (C_slices_IndexFunc_impl_Section_impl_Section.out x).Det := fun _ _ => Det.vc'
theorem ok_slices_IndexFunc_impl_Section_impl_Section : ConOK Tryz.prog 78 C_slices_IndexFunc_impl_Section_impl_Section := by
  refine con_q (l := L_slices_IndexFunc_impl_Section_impl_Section) ⟨⟨ok_impl_Object_uses_1, det_impl_Object_uses_1⟩, trivial⟩ Tryz.func78 rfl (by decide) (by kernel_rfl) rfl an_slices_IndexFunc_impl_Section_impl_Section fun x ho hx => ?_
  obtain ⟨l, g, ⟨⟩⟩ := x
  refine Keeps.of (vc_slices_IndexFunc_impl_Section_impl_Section l g) ?_
  revert l g ho hx
  show ∀ (l : List (Sect)) (g : (Int) × (Unit)), _
  intro l g ho hx
  dsimp only [C_slices_IndexFunc_impl_Section_impl_Section, okPTL, okPT, Ok, Ty.cells, SN.cells, OkL, OkC, okI, ci, cb, cs, cl] at ho
  dsimp only [C_slices_IndexFunc_impl_Section_impl_Section, vc, v1, decB, SR.pre] at hx
  (try delta i64 LN); simp only [VBt]; (repeat' first | intro _ | apply And.intro); all_goals (try omega); all_goals (try have hdr := drop_get' (l := l) (by assumption) (by assumption)); all_goals (try grind [ixF, drop_end])
def C_slices_ContainsFunc_impl_Section_impl_Section : Con := { ps := [.ro (.list (.st .sect)), .fn 46 [.ty .i]], out := fun x => let l : List (Sect) := x.1; let g : (Int) × (Unit) := x.2.1; vc .bool (l.any fun s => s.fixups.any fun f => decide (f.to = g.1)), det := true }
abbrev L_slices_ContainsFunc_impl_Section_impl_Section : List (Nat × Con) := [(78, C_slices_IndexFunc_impl_Section_impl_Section)]
def G_slices_ContainsFunc_impl_Section_impl_Section : Cfg := GK L_slices_ContainsFunc_impl_Section_impl_Section
def an_slices_ContainsFunc_impl_Section_impl_Section : PTL C_slices_ContainsFunc_impl_Section_impl_Section.ps → Nat → Option Ann := fun _ _ => none
theorem vc_slices_ContainsFunc_impl_Section_impl_Section (l : List (Sect)) (g : (Int) × (Unit)) : (KP Tryz.f45 G_slices_ContainsFunc_impl_Section_impl_Section C_slices_ContainsFunc_impl_Section_impl_Section an_slices_ContainsFunc_impl_Section_impl_Section (l, g, ())) = (decide (0 ≤ @ixF Sect (fun (a : Sect) => @List.any Fixup a.fixups (fun (b : Fixup) => decide (b.to = g.fst))) l (0 : Int)) = @List.any Sect l (fun (c : Sect) => @List.any Fixup c.fixups (fun (d : Fixup) => decide (d.to = g.fst))) ∧ g.fst = g.fst ∧ True) := by kernel_rfl
theorem det_slices_ContainsFunc_impl_Section_impl_Section : C_slices_ContainsFunc_impl_Section_impl_Section.det = true → ∀ x, (C_slices_ContainsFunc_impl_Section_impl_Section.out x).Det := fun _ _ => Det.vc'
theorem ok_slices_ContainsFunc_impl_Section_impl_Section : ConOK Tryz.prog 45 C_slices_ContainsFunc_impl_Section_impl_Section := by
  refine con_q (l := L_slices_ContainsFunc_impl_Section_impl_Section) ⟨⟨ok_slices_IndexFunc_impl_Section_impl_Section, det_slices_IndexFunc_impl_Section_impl_Section⟩, trivial⟩ Tryz.func45 rfl (by decide) (by kernel_rfl) rfl an_slices_ContainsFunc_impl_Section_impl_Section fun x ho hx => ?_
  obtain ⟨l, g, ⟨⟩⟩ := x
  refine Keeps.of (vc_slices_ContainsFunc_impl_Section_impl_Section l g) ?_
  revert l g ho hx
  show ∀ (l : List (Sect)) (g : (Int) × (Unit)), _
  intro l g ho hx
  dsimp only [C_slices_ContainsFunc_impl_Section_impl_Section, okPTL, okPT, Ok, Ty.cells, SN.cells, OkL, OkC, okI, ci, cb, cs, cl] at ho
  dsimp only [C_slices_ContainsFunc_impl_Section_impl_Section, vc, v1, decB, SR.pre] at hx
  have h := ixF_anyB (p := fun s : Sect => s.fixups.any fun f => decide (f.to = g.1)) (l := l)
  (try delta i64 LN); simp only [VBt]; (repeat' first | intro _ | apply And.intro); all_goals (try omega); all_goals (try grind)
def C_impl_Object_uses : Con := { ps := [.ro (.st .obj), .ro .i], out := fun x => let o : Objt := x.1; let j : Int := x.2.1; vc .bool (usedO o j), det := true }
abbrev L_impl_Object_uses : List (Nat × Con) := [(46, C_impl_Object_uses_1), (45, C_slices_ContainsFunc_impl_Section_impl_Section)]
def G_impl_Object_uses : Cfg := GK L_impl_Object_uses
def an_impl_Object_uses : PTL C_impl_Object_uses.ps → Nat → Option Ann := fun _ _ => none
theorem vc_impl_Object_uses (o : Objt) (j : Int) : (KP Tryz.f21 G_impl_Object_uses C_impl_Object_uses an_impl_Object_uses (o, j, ())) = (@List.any Sect o.sects (fun (a : Sect) => @List.any Fixup a.fixups (fun (b : Fixup) => decide (b.to = j))) = usedO o j ∧ True) := by kernel_rfl
theorem det_impl_Object_uses : C_impl_Object_uses.det = true → ∀ x, (C_impl_Object_uses.out x).Det := fun _ _ => Det.vc'
theorem ok_impl_Object_uses : ConOK Tryz.prog 21 C_impl_Object_uses := by
  refine con_q (l := L_impl_Object_uses) ⟨⟨ok_impl_Object_uses_1, det_impl_Object_uses_1⟩, ⟨⟨ok_slices_ContainsFunc_impl_Section_impl_Section, det_slices_ContainsFunc_impl_Section_impl_Section⟩, trivial⟩⟩ Tryz.func21 rfl (by decide) (by kernel_rfl) rfl an_impl_Object_uses fun x ho hx => ?_
  obtain ⟨o, j, ⟨⟩⟩ := x
  refine Keeps.of (vc_impl_Object_uses o j) ?_
  revert o j ho hx
  show ∀ (o : Objt) (j : Int), _
  intro o j ho hx
  dsimp only [C_impl_Object_uses, okPTL, okPT, Ok, Ty.cells, SN.cells, OkL, OkC, okI, ci, cb, cs, cl] at ho
  dsimp only [C_impl_Object_uses, vc, v1, decB, SR.pre] at hx
  (try delta i64 LN); simp only [VBt]; (repeat' first | intro _ | apply And.intro); all_goals (try omega); all_goals (try grind [usedO])
def C_impl_StripLocals_1 : Con := { ps := [.ro .i, .ro (.st .sym), .box (.ty (.st .obj))], out := fun x => let j : Int := x.1; let s : Sym := x.2.1; let o : Objt := x.2.2.1; vc .bool (locQ o j s), det := true }
abbrev L_impl_StripLocals_1 : List (Nat × Con) := [(21, C_impl_Object_uses)]
def G_impl_StripLocals_1 : Cfg := GK L_impl_StripLocals_1
def an_impl_StripLocals_1 : PTL C_impl_StripLocals_1.ps → Nat → Option Ann := fun _ _ => none
theorem vc_impl_StripLocals_1 (j : Int) (s : Sym) (o : Objt) : (KP Tryz.f20 G_impl_StripLocals_1 C_impl_StripLocals_1 an_impl_StripLocals_1 (j, s, o, ())) = ((decide (s.bind ≠ 0) = true →
 true = locQ o j s ∧ o.sects = o.sects ∧ o.syms = o.syms ∧ True) ∧ (decide (s.bind ≠ 0) = false →
 usedO o j = locQ o j s ∧ o.sects = o.sects ∧ o.syms = o.syms ∧ True)) := by kernel_rfl
theorem det_impl_StripLocals_1 : C_impl_StripLocals_1.det = true → ∀ x, (C_impl_StripLocals_1.out x).Det := fun _ _ => Det.vc'
theorem ok_impl_StripLocals_1 : ConOK Tryz.prog 20 C_impl_StripLocals_1 := by
  refine con_q (l := L_impl_StripLocals_1) ⟨⟨ok_impl_Object_uses, det_impl_Object_uses⟩, trivial⟩ Tryz.func20 rfl (by decide) (by kernel_rfl) rfl an_impl_StripLocals_1 fun x ho hx => ?_
  obtain ⟨j, s, o, ⟨⟩⟩ := x
  refine Keeps.of (vc_impl_StripLocals_1 j s o) ?_
  revert j s o ho hx
  show ∀ (j : Int) (s : Sym) (o : Objt), _
  intro j s o ho hx
  dsimp only [C_impl_StripLocals_1, okPTL, okPT, Ok, Ty.cells, SN.cells, OkL, OkC, okI, ci, cb, cs, cl] at ho
  dsimp only [C_impl_StripLocals_1, vc, v1, decB, SR.pre] at hx
  (try delta i64 LN); simp only [VBt]; (repeat' first | intro _ | apply And.intro); all_goals (try omega); all_goals (try grind [locQ])
def C_impl_StripWanted_1 : Con := { ps := [.ro .i, .ro (.st .sym), .box (.ty (.st .obj))], out := fun x => let j : Int := x.1; let s : Sym := x.2.1; let o : Objt := x.2.2.1; vc .bool (wanQ o j s), det := true }
abbrev L_impl_StripWanted_1 : List (Nat × Con) := [(21, C_impl_Object_uses)]
def G_impl_StripWanted_1 : Cfg := GK L_impl_StripWanted_1
def an_impl_StripWanted_1 : PTL C_impl_StripWanted_1.ps → Nat → Option Ann := fun _ _ => none
theorem vc_impl_StripWanted_1 (j : Int) (s : Sym) (o : Objt) : (KP Tryz.f39 G_impl_StripWanted_1 C_impl_StripWanted_1 an_impl_StripWanted_1 (j, s, o, ())) = ((decide (s.wher ≠ (- (1 : Int))) = true →
 true = wanQ o j s ∧ o.sects = o.sects ∧ o.syms = o.syms ∧ True) ∧ (decide (s.wher ≠ (- (1 : Int))) = false →
 usedO o j = wanQ o j s ∧ o.sects = o.sects ∧ o.syms = o.syms ∧ True)) := by kernel_rfl
theorem det_impl_StripWanted_1 : C_impl_StripWanted_1.det = true → ∀ x, (C_impl_StripWanted_1.out x).Det := fun _ _ => Det.vc'
theorem ok_impl_StripWanted_1 : ConOK Tryz.prog 39 C_impl_StripWanted_1 := by
  refine con_q (l := L_impl_StripWanted_1) ⟨⟨ok_impl_Object_uses, det_impl_Object_uses⟩, trivial⟩ Tryz.func39 rfl (by decide) (by kernel_rfl) rfl an_impl_StripWanted_1 fun x ho hx => ?_
  obtain ⟨j, s, o, ⟨⟩⟩ := x
  refine Keeps.of (vc_impl_StripWanted_1 j s o) ?_
  revert j s o ho hx
  show ∀ (j : Int) (s : Sym) (o : Objt), _
  intro j s o ho hx
  dsimp only [C_impl_StripWanted_1, okPTL, okPT, Ok, Ty.cells, SN.cells, OkL, OkC, okI, ci, cb, cs, cl] at ho
  dsimp only [C_impl_StripWanted_1, vc, v1, decB, SR.pre] at hx
  (try delta i64 LN); simp only [VBt]; (repeat' first | intro _ | apply And.intro); all_goals (try omega); all_goals (try grind [wanQ])
def C_impl_Object_keepSymbols_loc : Con := { ps := [.ro (.st .obj), .fn 20 [.ty (.st .obj)]], out := fun x => let o : Objt := x.1; let q : (Objt) × (Unit) := x.2.1; .req (szOb o ≤ 1000000 ∧ objB o = true) (newS .obj ⟨o.sects.map (reS (kpN (bits (locQ q.1) o.syms 0) 0)), kpS (bits (locQ q.1) o.syms 0) o.syms⟩), det := true }
abbrev L_impl_Object_keepSymbols_loc : List (Nat × Con) := [(44, C_impl_copyObject), (20, C_impl_StripLocals_1)]
def G_impl_Object_keepSymbols_loc : Cfg := GK L_impl_Object_keepSymbols_loc
def an_impl_Object_keepSymbols_loc : PTL C_impl_Object_keepSymbols_loc.ps → Nat → Option Ann := fun x kk_ => let o : Objt := x.1; let q : (Objt) × (Unit) := x.2.1; let ps := bits (locQ q.1) o.syms 0; let ns := kpN ps 0; if kk_ = 4 then some (.all (Int) fun j => .giv (0 ≤ j ∧ j ≤ o.syms.length) (.mk [(1, .one (.fn 20 [0])), (22, ai j), (20, al (.st .sym) o.syms), (21, ai o.syms.length), (4, aref 30), (5, aref 31), (6, asl 34)] [(0, lent (.st .obj) q.1), (30, .box false [.nil, .nil]), (31, .box false [.sl 32 [], .sl 33 []]), (32, .row none (.st .sect) o.sects true), (33, .row none (.st .sym) (kpS (ps.take j.toNat) o.syms) true), (34, .row (some 3) .i (ns.take j.toNat ++ List.replicate (o.syms.length - j.toNat) 0) true)] ((o.syms.length - j.toNat)))) else if kk_ = 11 then some (.all (Int) fun i => .giv (0 ≤ i ∧ i ≤ o.sects.length) (.mk [(47, ai i), (45, asl 32), (46, ai o.sects.length), (4, aref 30), (5, aref 31), (6, asl 34)] [(0, lent (.st .obj) q.1), (30, .box false [.nil, .nil]), (31, .box false [.sl 32 [], .sl 33 []]), (32, .row none (.st .sect) (midS ns o.sects i) true), (33, .row none (.st .sym) (kpS ps o.syms) true), (34, .row (some 3) .i ns true)] ((o.sects.length - i.toNat)))) else if kk_ = 2014 then some (.all (Int) fun i => .all (Int) fun j => .giv (0 ≤ i ∧ i < o.sects.length ∧ (sAt o.sects i).fixups.length ≤ 6 ∧ 0 ≤ j ∧ j ≤ (sAt o.sects i).fixups.length) (.mk [(47, ai i), (54, ai j), (45, asl 32), (46, ai o.sects.length), (53, ai (sAt o.sects i).fixups.length), (4, aref 30), (5, aref 31), (6, asl 34), (10, aref 35)] [(0, lent (.st .obj) q.1), (30, .box false [.nil, .nil]), (31, .box false [.sl 32 [], .sl 33 []]), (32, .row none (.st .sect) (midF ns o.sects i j) true), (33, .row none (.st .sym) (kpS ps o.syms) true), (34, .row (some 3) .i ns true), (35, .box false [.c (cs (sAt o.sects i).name), .c (ci (sAt o.sects i).kind), .c (ci (sAt o.sects i).align), .sl 32 [(i.toNat, 3)], .c (ci (sAt o.sects i).size), .sl 32 [(i.toNat, 5)]])] ((o.sects.length - i.toNat) * 1000 + (100 - j).toNat))) else none
theorem vc_impl_Object_keepSymbols_loc (o : Objt) (q : (Objt) × (Unit)) : (KP Tryz.f19 G_impl_Object_keepSymbols_loc C_impl_Object_keepSymbols_loc an_impl_Object_keepSymbols_loc (o, q, ())) = (szOb o ≤ 1048576 ∧ (o.syms.length ≤ 9223372036854775807 →
 (LN o.syms = LN o.syms ∧ 0 ≤ LN o.syms ∧ LN o.syms ≤ 1000000000000 ∧ @Nat.cast Int _ (8 : Nat) * LN o.syms ≤ 140737488355328) ∧ (o.syms.length ≤ 9223372036854775807 →
 (∃ (a : Int), 0 = a ∧ o.syms = o.syms ∧ LN o.syms = LN o.syms ∧ q.fst.sects = q.fst.sects ∧ q.fst.syms = q.fst.syms ∧ o.sects = o.sects ∧ ([] : List Sym) = kpS ((bits (locQ q.fst) o.syms 0).take a.toNat) o.syms ∧ @repl Int (LN o.syms) (0 : Int) = (kpN (bits (locQ q.fst) o.syms 0) 0).take a.toNat ++ @List.replicate Int (o.syms.length - a.toNat) (0 : Int) ∧ (0 ≤ a ∧ a ≤ LN o.syms) ∧ True) ∧ (∀ (b : Int), 0 ≤ b ∧ b ≤ LN o.syms →
 (decide (b < LN o.syms) = true →
 (0 ≤ b ∧ b < LN o.syms) ∧ (∀ (c : Sym), o.syms[b.toNat]? = some c →
 Ok (Ty.st SN.sym) c →
 (kpS ((bits (locQ q.fst) o.syms 0).take b.toNat) o.syms).length ≤ 9223372036854775807 →
 (0 ≤ b ∧ b < LN ((kpN (bits (locQ q.fst) o.syms 0) 0).take b.toNat ++ @List.replicate Int (o.syms.length - b.toNat) (0 : Int))) ∧ (∀ (d : Int), ((kpN (bits (locQ q.fst) o.syms 0) 0).take b.toNat ++ @List.replicate Int (o.syms.length - b.toNat) (0 : Int))[b.toNat]? = some d →
 (locQ q.fst b c = true →
 (((kpS ((bits (locQ q.fst) o.syms 0).take b.toNat) o.syms).length + [c].length) * 40 ≤ 140737488355328 ∧ (kpS ((bits (locQ q.fst) o.syms 0).take b.toNat) o.syms).length + [c].length ≤ 1000000000000) ∧ i64 (b + 1) ∧ (∃ (e : Int), b + 1 = e ∧ o.syms = o.syms ∧ LN o.syms = LN o.syms ∧ q.fst.sects = q.fst.sects ∧ q.fst.syms = q.fst.syms ∧ o.sects = o.sects ∧ kpS ((bits (locQ q.fst) o.syms 0).take b.toNat) o.syms ++ [c] = kpS ((bits (locQ q.fst) o.syms 0).take e.toNat) o.syms ∧ ((kpN (bits (locQ q.fst) o.syms 0) 0).take b.toNat ++ @List.replicate Int (o.syms.length - b.toNat) (0 : Int)).set b.toNat (LN (kpS ((bits (locQ q.fst) o.syms 0).take b.toNat) o.syms)) = (kpN (bits (locQ q.fst) o.syms 0) 0).take e.toNat ++ @List.replicate Int (o.syms.length - e.toNat) (0 : Int) ∧ (0 ≤ e ∧ e ≤ LN o.syms) ∧ o.syms.length - e.toNat < o.syms.length - b.toNat)) ∧ (locQ q.fst b c = false →
 i64 (b + 1) ∧ (∃ (f : Int), b + 1 = f ∧ o.syms = o.syms ∧ LN o.syms = LN o.syms ∧ q.fst.sects = q.fst.sects ∧ q.fst.syms = q.fst.syms ∧ o.sects = o.sects ∧ kpS ((bits (locQ q.fst) o.syms 0).take b.toNat) o.syms = kpS ((bits (locQ q.fst) o.syms 0).take f.toNat) o.syms ∧ ((kpN (bits (locQ q.fst) o.syms 0) 0).take b.toNat ++ @List.replicate Int (o.syms.length - b.toNat) (0 : Int)).set b.toNat (LN (kpS ((bits (locQ q.fst) o.syms 0).take b.toNat) o.syms)) = (kpN (bits (locQ q.fst) o.syms 0) 0).take f.toNat ++ @List.replicate Int (o.syms.length - f.toNat) (0 : Int) ∧ (0 ≤ f ∧ f ≤ LN o.syms) ∧ o.syms.length - f.toNat < o.syms.length - b.toNat))))) ∧ (decide (b < LN o.syms) = false →
 o.sects.length ≤ 9223372036854775807 →
 (∃ (g : Int), 0 = g ∧ LN o.sects = LN o.sects ∧ q.fst.sects = q.fst.sects ∧ q.fst.syms = q.fst.syms ∧ o.sects = midS (kpN (bits (locQ q.fst) o.syms 0) 0) o.sects g ∧ kpS ((bits (locQ q.fst) o.syms 0).take b.toNat) o.syms = kpS (bits (locQ q.fst) o.syms 0) o.syms ∧ (kpN (bits (locQ q.fst) o.syms 0) 0).take b.toNat ++ @List.replicate Int (o.syms.length - b.toNat) (0 : Int) = kpN (bits (locQ q.fst) o.syms 0) 0 ∧ (0 ≤ g ∧ g ≤ LN o.sects) ∧ True) ∧ (∀ (h : Int), 0 ≤ h ∧ h ≤ LN o.sects →
 (decide (h < LN o.sects) = true →
 (0 ≤ h ∧ h < LN (midS (kpN (bits (locQ q.fst) o.syms 0) 0) o.sects h)) ∧ (∀ (i : Sect), (midS (kpN (bits (locQ q.fst) o.syms 0) 0) o.sects h)[h.toNat]? = some i →
 Ok (Ty.st SN.sect) i →
 (∀ (j : Sect), (midS (kpN (bits (locQ q.fst) o.syms 0) 0) o.sects h)[h.toNat]? = some j →
 j.fixups.length ≤ 9223372036854775807 →
 (∃ (k : Int), (∃ (l : Int), h = k ∧ 0 = l ∧ LN o.sects = LN o.sects ∧ LN j.fixups = LN (sAt o.sects k).fixups ∧ q.fst.sects = q.fst.sects ∧ q.fst.syms = q.fst.syms ∧ midS (kpN (bits (locQ q.fst) o.syms 0) 0) o.sects h = midF (kpN (bits (locQ q.fst) o.syms 0) 0) o.sects k l ∧ kpS (bits (locQ q.fst) o.syms 0) o.syms = kpS (bits (locQ q.fst) o.syms 0) o.syms ∧ kpN (bits (locQ q.fst) o.syms 0) 0 = kpN (bits (locQ q.fst) o.syms 0) 0 ∧ i.name = (sAt o.sects k).name ∧ i.kind = (sAt o.sects k).kind ∧ i.align = (sAt o.sects k).align ∧ h.toNat = k.toNat ∧ i.size = (sAt o.sects k).size ∧ h.toNat = k.toNat ∧ (0 ≤ k ∧ k < LN o.sects ∧ (sAt o.sects k).fixups.length ≤ 6 ∧ 0 ≤ l ∧ l ≤ LN (sAt o.sects k).fixups) ∧ (∀ (m : Int), (∀ (n : Int), 0 ≤ m ∧ m < LN o.sects ∧ (sAt o.sects m).fixups.length ≤ 6 ∧ 0 ≤ n ∧ n ≤ LN (sAt o.sects m).fixups →
 (o.sects.length - m.toNat) * 1000 + (100 - n).toNat ≤ (o.sects.length - k.toNat) * 1000 + (100 - l).toNat →
 (decide (n < LN (sAt o.sects m).fixups) = true →
 (∀ (p : Sect), (midF (kpN (bits (locQ q.fst) o.syms 0) 0) o.sects m n)[m.toNat]? = some p →
 (0 ≤ n ∧ n < LN p.fixups) ∧ (∀ (r : Sect), (midF (kpN (bits (locQ q.fst) o.syms 0) 0) o.sects m n)[m.toNat]? = some r →
 (∀ (s : Fixup), r.fixups[n.toNat]? = some s →
 Ok (Ty.st SN.fixup) s →
 (0 ≤ s.to ∧ s.to < LN (kpN (bits (locQ q.fst) o.syms 0) 0)) ∧ (∀ (t : Int), (kpN (bits (locQ q.fst) o.syms 0) 0)[s.to.toNat]? = some t →
 Ok (Ty.int IntKind.i64) t →
 (∀ (u : Sect), (midF (kpN (bits (locQ q.fst) o.syms 0) 0) o.sects m n)[m.toNat]? = some u →
 (0 ≤ n ∧ n < LN u.fixups) ∧ (∀ (v : Sect), (midF (kpN (bits (locQ q.fst) o.syms 0) 0) o.sects m n)[m.toNat]? = some v →
 (∀ (w : Fixup), v.fixups[n.toNat]? = some w →
 i64 (n + 1) ∧ (∃ (x : Int), (∃ (y : Int), m = x ∧ n + 1 = y ∧ LN o.sects = LN o.sects ∧ LN (sAt o.sects m).fixups = LN (sAt o.sects x).fixups ∧ q.fst.sects = q.fst.sects ∧ q.fst.syms = q.fst.syms ∧ (midF (kpN (bits (locQ q.fst) o.syms 0) 0) o.sects m n).set m.toNat (Sect.mk v.name v.kind v.align v.bytes v.size (v.fixups.set n.toNat (Fixup.mk w.at_ w.kind t w.add))) = midF (kpN (bits (locQ q.fst) o.syms 0) 0) o.sects x y ∧ kpS (bits (locQ q.fst) o.syms 0) o.syms = kpS (bits (locQ q.fst) o.syms 0) o.syms ∧ kpN (bits (locQ q.fst) o.syms 0) 0 = kpN (bits (locQ q.fst) o.syms 0) 0 ∧ (sAt o.sects m).name = (sAt o.sects x).name ∧ (sAt o.sects m).kind = (sAt o.sects x).kind ∧ (sAt o.sects m).align = (sAt o.sects x).align ∧ m.toNat = x.toNat ∧ (sAt o.sects m).size = (sAt o.sects x).size ∧ m.toNat = x.toNat ∧ (0 ≤ x ∧ x < LN o.sects ∧ (sAt o.sects x).fixups.length ≤ 6 ∧ 0 ≤ y ∧ y ≤ LN (sAt o.sects x).fixups) ∧ (o.sects.length - x.toNat) * 1000 + (100 - y).toNat < (o.sects.length - m.toNat) * 1000 + (100 - n).toNat)))))))))) ∧ (decide (n < LN (sAt o.sects m).fixups) = false →
 i64 (m + 1) ∧ (∃ (z : Int), m + 1 = z ∧ LN o.sects = LN o.sects ∧ q.fst.sects = q.fst.sects ∧ q.fst.syms = q.fst.syms ∧ midF (kpN (bits (locQ q.fst) o.syms 0) 0) o.sects m n = midS (kpN (bits (locQ q.fst) o.syms 0) 0) o.sects z ∧ kpS (bits (locQ q.fst) o.syms 0) o.syms = kpS (bits (locQ q.fst) o.syms 0) o.syms ∧ kpN (bits (locQ q.fst) o.syms 0) 0 = kpN (bits (locQ q.fst) o.syms 0) 0 ∧ (0 ≤ z ∧ z ≤ LN o.sects) ∧ o.sects.length - z.toNat < o.sects.length - h.toNat))))))))) ∧ (decide (h < LN o.sects) = false →
 midS (kpN (bits (locQ q.fst) o.syms 0) 0) o.sects h = @List.map Sect Sect (reS (kpN (bits (locQ q.fst) o.syms 0) 0)) o.sects ∧ kpS (bits (locQ q.fst) o.syms 0) o.syms = kpS (bits (locQ q.fst) o.syms 0) o.syms ∧ q.fst.sects = q.fst.sects ∧ q.fst.syms = q.fst.syms ∧ True))))))) := by kernel_rfl
theorem det_impl_Object_keepSymbols_loc : C_impl_Object_keepSymbols_loc.det = true → ∀ x, (C_impl_Object_keepSymbols_loc.out x).Det := fun _ x => by simp only [C_impl_Object_keepSymbols_loc]; repeat (first | exact Det.ret _ | exact Det.vc' | apply Det.req)
theorem ok_impl_Object_keepSymbols_loc : ConOK Tryz.prog 19 C_impl_Object_keepSymbols_loc := by
  refine con_q (l := L_impl_Object_keepSymbols_loc) ⟨⟨ok_impl_copyObject, det_impl_copyObject⟩, ⟨⟨ok_impl_StripLocals_1, det_impl_StripLocals_1⟩, trivial⟩⟩ Tryz.func19 rfl (by decide) (by kernel_rfl) rfl an_impl_Object_keepSymbols_loc fun x ho hx => ?_
  obtain ⟨o, q, ⟨⟩⟩ := x
  refine Keeps.of (vc_impl_Object_keepSymbols_loc o q) ?_
  revert o q ho hx
  show ∀ (o : Objt) (q : (Objt) × (Unit)), _
  intro o q ho hx
  dsimp only [C_impl_Object_keepSymbols_loc, okPTL, okPT, Ok, Ty.cells, SN.cells, OkL, OkC, okI, ci, cb, cs, cl] at ho
  dsimp only [C_impl_Object_keepSymbols_loc, vc, v1, decB, SR.pre] at hx
  have hl := objB_lens hx.1.2
  have ho3 := hx.1.2
  have hk := fun p => @kpS_le p o.syms
  have h6 := fun i s => @fix_6 o i s hx.1.2
  have h7 := fun i j s f => @fix_in o i j s f hx.1.2
  have h8 := fun i h0 h => @sAt_get o.sects i h0 h
  have h9 := @sAt_eq o.sects
  (try delta i64 LN); simp only [VBt]; (repeat' first | intro _ | apply And.intro); all_goals (try omega)
  all_goals first | omega | exact kq_yes (by assumption) (by assumption) (by assumption) | exact kq_no (by assumption) (by assumption) (by assumption) | exact kq_end (by assumption) | exact kq_ends (by assumption) | exact kpN_zero rfl | exact kpS_zero.symm | exact midS_zero.symm | exact kpN_set (by assumption) bits_len (by rw [bits_len]; assumption) | exact midF_zero (by assumption) (by assumption) | exact midF_end (by assumption) (by assumption) (by assumption) | exact midF_set (by assumption) (by assumption) (by assumption) (by assumption) (by assumption) (by assumption) | exact (midF_to (by assumption) (by assumption) (by assumption) (by assumption) (by assumption)).1 | exact midF_tn (by assumption) (by assumption) (by assumption) (by assumption) (by assumption) bl_n | exact midF_set2 (by assumption) (by assumption) (by assumption) (by assumption) (by assumption) (by assumption) (by assumption) (by assumption) | (try grind [bits_at, kpS_at, bits_len, kpN_len, kp_take_end, midS_end, keepO, midF_fix, midF_flen, midF_len, midS_len, midS_get])
def C_impl_Object_keepSymbols_wan : Con := { ps := [.ro (.st .obj), .fn 39 [.ty (.st .obj)]], out := fun x => let o : Objt := x.1; let q : (Objt) × (Unit) := x.2.1; .req (szOb o ≤ 1000000 ∧ objB o = true) (newS .obj ⟨o.sects.map (reS (kpN (bits (wanQ q.1) o.syms 0) 0)), kpS (bits (wanQ q.1) o.syms 0) o.syms⟩), det := true }
abbrev L_impl_Object_keepSymbols_wan : List (Nat × Con) := [(44, C_impl_copyObject), (39, C_impl_StripWanted_1)]
def G_impl_Object_keepSymbols_wan : Cfg := GK L_impl_Object_keepSymbols_wan
def an_impl_Object_keepSymbols_wan : PTL C_impl_Object_keepSymbols_wan.ps → Nat → Option Ann := fun x kk_ => let o : Objt := x.1; let q : (Objt) × (Unit) := x.2.1; let ps := bits (wanQ q.1) o.syms 0; let ns := kpN ps 0; if kk_ = 4 then some (.all (Int) fun j => .giv (0 ≤ j ∧ j ≤ o.syms.length) (.mk [(1, .one (.fn 39 [0])), (22, ai j), (20, al (.st .sym) o.syms), (21, ai o.syms.length), (4, aref 30), (5, aref 31), (6, asl 34)] [(0, lent (.st .obj) q.1), (30, .box false [.nil, .nil]), (31, .box false [.sl 32 [], .sl 33 []]), (32, .row none (.st .sect) o.sects true), (33, .row none (.st .sym) (kpS (ps.take j.toNat) o.syms) true), (34, .row (some 3) .i (ns.take j.toNat ++ List.replicate (o.syms.length - j.toNat) 0) true)] ((o.syms.length - j.toNat)))) else if kk_ = 11 then some (.all (Int) fun i => .giv (0 ≤ i ∧ i ≤ o.sects.length) (.mk [(47, ai i), (45, asl 32), (46, ai o.sects.length), (4, aref 30), (5, aref 31), (6, asl 34)] [(0, lent (.st .obj) q.1), (30, .box false [.nil, .nil]), (31, .box false [.sl 32 [], .sl 33 []]), (32, .row none (.st .sect) (midS ns o.sects i) true), (33, .row none (.st .sym) (kpS ps o.syms) true), (34, .row (some 3) .i ns true)] ((o.sects.length - i.toNat)))) else if kk_ = 2014 then some (.all (Int) fun i => .all (Int) fun j => .giv (0 ≤ i ∧ i < o.sects.length ∧ (sAt o.sects i).fixups.length ≤ 6 ∧ 0 ≤ j ∧ j ≤ (sAt o.sects i).fixups.length) (.mk [(47, ai i), (54, ai j), (45, asl 32), (46, ai o.sects.length), (53, ai (sAt o.sects i).fixups.length), (4, aref 30), (5, aref 31), (6, asl 34), (10, aref 35)] [(0, lent (.st .obj) q.1), (30, .box false [.nil, .nil]), (31, .box false [.sl 32 [], .sl 33 []]), (32, .row none (.st .sect) (midF ns o.sects i j) true), (33, .row none (.st .sym) (kpS ps o.syms) true), (34, .row (some 3) .i ns true), (35, .box false [.c (cs (sAt o.sects i).name), .c (ci (sAt o.sects i).kind), .c (ci (sAt o.sects i).align), .sl 32 [(i.toNat, 3)], .c (ci (sAt o.sects i).size), .sl 32 [(i.toNat, 5)]])] ((o.sects.length - i.toNat) * 1000 + (100 - j).toNat))) else none
theorem vc_impl_Object_keepSymbols_wan (o : Objt) (q : (Objt) × (Unit)) : (KP Tryz.f19 G_impl_Object_keepSymbols_wan C_impl_Object_keepSymbols_wan an_impl_Object_keepSymbols_wan (o, q, ())) = (szOb o ≤ 1048576 ∧ (o.syms.length ≤ 9223372036854775807 →
 (LN o.syms = LN o.syms ∧ 0 ≤ LN o.syms ∧ LN o.syms ≤ 1000000000000 ∧ @Nat.cast Int _ (8 : Nat) * LN o.syms ≤ 140737488355328) ∧ (o.syms.length ≤ 9223372036854775807 →
 (∃ (a : Int), 0 = a ∧ o.syms = o.syms ∧ LN o.syms = LN o.syms ∧ q.fst.sects = q.fst.sects ∧ q.fst.syms = q.fst.syms ∧ o.sects = o.sects ∧ ([] : List Sym) = kpS ((bits (wanQ q.fst) o.syms 0).take a.toNat) o.syms ∧ @repl Int (LN o.syms) (0 : Int) = (kpN (bits (wanQ q.fst) o.syms 0) 0).take a.toNat ++ @List.replicate Int (o.syms.length - a.toNat) (0 : Int) ∧ (0 ≤ a ∧ a ≤ LN o.syms) ∧ True) ∧ (∀ (b : Int), 0 ≤ b ∧ b ≤ LN o.syms →
 (decide (b < LN o.syms) = true →
 (0 ≤ b ∧ b < LN o.syms) ∧ (∀ (c : Sym), o.syms[b.toNat]? = some c →
 Ok (Ty.st SN.sym) c →
 (kpS ((bits (wanQ q.fst) o.syms 0).take b.toNat) o.syms).length ≤ 9223372036854775807 →
 (0 ≤ b ∧ b < LN ((kpN (bits (wanQ q.fst) o.syms 0) 0).take b.toNat ++ @List.replicate Int (o.syms.length - b.toNat) (0 : Int))) ∧ (∀ (d : Int), ((kpN (bits (wanQ q.fst) o.syms 0) 0).take b.toNat ++ @List.replicate Int (o.syms.length - b.toNat) (0 : Int))[b.toNat]? = some d →
 (wanQ q.fst b c = true →
 (((kpS ((bits (wanQ q.fst) o.syms 0).take b.toNat) o.syms).length + [c].length) * 40 ≤ 140737488355328 ∧ (kpS ((bits (wanQ q.fst) o.syms 0).take b.toNat) o.syms).length + [c].length ≤ 1000000000000) ∧ i64 (b + 1) ∧ (∃ (e : Int), b + 1 = e ∧ o.syms = o.syms ∧ LN o.syms = LN o.syms ∧ q.fst.sects = q.fst.sects ∧ q.fst.syms = q.fst.syms ∧ o.sects = o.sects ∧ kpS ((bits (wanQ q.fst) o.syms 0).take b.toNat) o.syms ++ [c] = kpS ((bits (wanQ q.fst) o.syms 0).take e.toNat) o.syms ∧ ((kpN (bits (wanQ q.fst) o.syms 0) 0).take b.toNat ++ @List.replicate Int (o.syms.length - b.toNat) (0 : Int)).set b.toNat (LN (kpS ((bits (wanQ q.fst) o.syms 0).take b.toNat) o.syms)) = (kpN (bits (wanQ q.fst) o.syms 0) 0).take e.toNat ++ @List.replicate Int (o.syms.length - e.toNat) (0 : Int) ∧ (0 ≤ e ∧ e ≤ LN o.syms) ∧ o.syms.length - e.toNat < o.syms.length - b.toNat)) ∧ (wanQ q.fst b c = false →
 i64 (b + 1) ∧ (∃ (f : Int), b + 1 = f ∧ o.syms = o.syms ∧ LN o.syms = LN o.syms ∧ q.fst.sects = q.fst.sects ∧ q.fst.syms = q.fst.syms ∧ o.sects = o.sects ∧ kpS ((bits (wanQ q.fst) o.syms 0).take b.toNat) o.syms = kpS ((bits (wanQ q.fst) o.syms 0).take f.toNat) o.syms ∧ ((kpN (bits (wanQ q.fst) o.syms 0) 0).take b.toNat ++ @List.replicate Int (o.syms.length - b.toNat) (0 : Int)).set b.toNat (LN (kpS ((bits (wanQ q.fst) o.syms 0).take b.toNat) o.syms)) = (kpN (bits (wanQ q.fst) o.syms 0) 0).take f.toNat ++ @List.replicate Int (o.syms.length - f.toNat) (0 : Int) ∧ (0 ≤ f ∧ f ≤ LN o.syms) ∧ o.syms.length - f.toNat < o.syms.length - b.toNat))))) ∧ (decide (b < LN o.syms) = false →
 o.sects.length ≤ 9223372036854775807 →
 (∃ (g : Int), 0 = g ∧ LN o.sects = LN o.sects ∧ q.fst.sects = q.fst.sects ∧ q.fst.syms = q.fst.syms ∧ o.sects = midS (kpN (bits (wanQ q.fst) o.syms 0) 0) o.sects g ∧ kpS ((bits (wanQ q.fst) o.syms 0).take b.toNat) o.syms = kpS (bits (wanQ q.fst) o.syms 0) o.syms ∧ (kpN (bits (wanQ q.fst) o.syms 0) 0).take b.toNat ++ @List.replicate Int (o.syms.length - b.toNat) (0 : Int) = kpN (bits (wanQ q.fst) o.syms 0) 0 ∧ (0 ≤ g ∧ g ≤ LN o.sects) ∧ True) ∧ (∀ (h : Int), 0 ≤ h ∧ h ≤ LN o.sects →
 (decide (h < LN o.sects) = true →
 (0 ≤ h ∧ h < LN (midS (kpN (bits (wanQ q.fst) o.syms 0) 0) o.sects h)) ∧ (∀ (i : Sect), (midS (kpN (bits (wanQ q.fst) o.syms 0) 0) o.sects h)[h.toNat]? = some i →
 Ok (Ty.st SN.sect) i →
 (∀ (j : Sect), (midS (kpN (bits (wanQ q.fst) o.syms 0) 0) o.sects h)[h.toNat]? = some j →
 j.fixups.length ≤ 9223372036854775807 →
 (∃ (k : Int), (∃ (l : Int), h = k ∧ 0 = l ∧ LN o.sects = LN o.sects ∧ LN j.fixups = LN (sAt o.sects k).fixups ∧ q.fst.sects = q.fst.sects ∧ q.fst.syms = q.fst.syms ∧ midS (kpN (bits (wanQ q.fst) o.syms 0) 0) o.sects h = midF (kpN (bits (wanQ q.fst) o.syms 0) 0) o.sects k l ∧ kpS (bits (wanQ q.fst) o.syms 0) o.syms = kpS (bits (wanQ q.fst) o.syms 0) o.syms ∧ kpN (bits (wanQ q.fst) o.syms 0) 0 = kpN (bits (wanQ q.fst) o.syms 0) 0 ∧ i.name = (sAt o.sects k).name ∧ i.kind = (sAt o.sects k).kind ∧ i.align = (sAt o.sects k).align ∧ h.toNat = k.toNat ∧ i.size = (sAt o.sects k).size ∧ h.toNat = k.toNat ∧ (0 ≤ k ∧ k < LN o.sects ∧ (sAt o.sects k).fixups.length ≤ 6 ∧ 0 ≤ l ∧ l ≤ LN (sAt o.sects k).fixups) ∧ (∀ (m : Int), (∀ (n : Int), 0 ≤ m ∧ m < LN o.sects ∧ (sAt o.sects m).fixups.length ≤ 6 ∧ 0 ≤ n ∧ n ≤ LN (sAt o.sects m).fixups →
 (o.sects.length - m.toNat) * 1000 + (100 - n).toNat ≤ (o.sects.length - k.toNat) * 1000 + (100 - l).toNat →
 (decide (n < LN (sAt o.sects m).fixups) = true →
 (∀ (p : Sect), (midF (kpN (bits (wanQ q.fst) o.syms 0) 0) o.sects m n)[m.toNat]? = some p →
 (0 ≤ n ∧ n < LN p.fixups) ∧ (∀ (r : Sect), (midF (kpN (bits (wanQ q.fst) o.syms 0) 0) o.sects m n)[m.toNat]? = some r →
 (∀ (s : Fixup), r.fixups[n.toNat]? = some s →
 Ok (Ty.st SN.fixup) s →
 (0 ≤ s.to ∧ s.to < LN (kpN (bits (wanQ q.fst) o.syms 0) 0)) ∧ (∀ (t : Int), (kpN (bits (wanQ q.fst) o.syms 0) 0)[s.to.toNat]? = some t →
 Ok (Ty.int IntKind.i64) t →
 (∀ (u : Sect), (midF (kpN (bits (wanQ q.fst) o.syms 0) 0) o.sects m n)[m.toNat]? = some u →
 (0 ≤ n ∧ n < LN u.fixups) ∧ (∀ (v : Sect), (midF (kpN (bits (wanQ q.fst) o.syms 0) 0) o.sects m n)[m.toNat]? = some v →
 (∀ (w : Fixup), v.fixups[n.toNat]? = some w →
 i64 (n + 1) ∧ (∃ (x : Int), (∃ (y : Int), m = x ∧ n + 1 = y ∧ LN o.sects = LN o.sects ∧ LN (sAt o.sects m).fixups = LN (sAt o.sects x).fixups ∧ q.fst.sects = q.fst.sects ∧ q.fst.syms = q.fst.syms ∧ (midF (kpN (bits (wanQ q.fst) o.syms 0) 0) o.sects m n).set m.toNat (Sect.mk v.name v.kind v.align v.bytes v.size (v.fixups.set n.toNat (Fixup.mk w.at_ w.kind t w.add))) = midF (kpN (bits (wanQ q.fst) o.syms 0) 0) o.sects x y ∧ kpS (bits (wanQ q.fst) o.syms 0) o.syms = kpS (bits (wanQ q.fst) o.syms 0) o.syms ∧ kpN (bits (wanQ q.fst) o.syms 0) 0 = kpN (bits (wanQ q.fst) o.syms 0) 0 ∧ (sAt o.sects m).name = (sAt o.sects x).name ∧ (sAt o.sects m).kind = (sAt o.sects x).kind ∧ (sAt o.sects m).align = (sAt o.sects x).align ∧ m.toNat = x.toNat ∧ (sAt o.sects m).size = (sAt o.sects x).size ∧ m.toNat = x.toNat ∧ (0 ≤ x ∧ x < LN o.sects ∧ (sAt o.sects x).fixups.length ≤ 6 ∧ 0 ≤ y ∧ y ≤ LN (sAt o.sects x).fixups) ∧ (o.sects.length - x.toNat) * 1000 + (100 - y).toNat < (o.sects.length - m.toNat) * 1000 + (100 - n).toNat)))))))))) ∧ (decide (n < LN (sAt o.sects m).fixups) = false →
 i64 (m + 1) ∧ (∃ (z : Int), m + 1 = z ∧ LN o.sects = LN o.sects ∧ q.fst.sects = q.fst.sects ∧ q.fst.syms = q.fst.syms ∧ midF (kpN (bits (wanQ q.fst) o.syms 0) 0) o.sects m n = midS (kpN (bits (wanQ q.fst) o.syms 0) 0) o.sects z ∧ kpS (bits (wanQ q.fst) o.syms 0) o.syms = kpS (bits (wanQ q.fst) o.syms 0) o.syms ∧ kpN (bits (wanQ q.fst) o.syms 0) 0 = kpN (bits (wanQ q.fst) o.syms 0) 0 ∧ (0 ≤ z ∧ z ≤ LN o.sects) ∧ o.sects.length - z.toNat < o.sects.length - h.toNat))))))))) ∧ (decide (h < LN o.sects) = false →
 midS (kpN (bits (wanQ q.fst) o.syms 0) 0) o.sects h = @List.map Sect Sect (reS (kpN (bits (wanQ q.fst) o.syms 0) 0)) o.sects ∧ kpS (bits (wanQ q.fst) o.syms 0) o.syms = kpS (bits (wanQ q.fst) o.syms 0) o.syms ∧ q.fst.sects = q.fst.sects ∧ q.fst.syms = q.fst.syms ∧ True))))))) := by kernel_rfl
theorem det_impl_Object_keepSymbols_wan : C_impl_Object_keepSymbols_wan.det = true → ∀ x, (C_impl_Object_keepSymbols_wan.out x).Det := fun _ x => by simp only [C_impl_Object_keepSymbols_wan]; repeat (first | exact Det.ret _ | exact Det.vc' | apply Det.req)
theorem ok_impl_Object_keepSymbols_wan : ConOK Tryz.prog 19 C_impl_Object_keepSymbols_wan := by
  refine con_q (l := L_impl_Object_keepSymbols_wan) ⟨⟨ok_impl_copyObject, det_impl_copyObject⟩, ⟨⟨ok_impl_StripWanted_1, det_impl_StripWanted_1⟩, trivial⟩⟩ Tryz.func19 rfl (by decide) (by kernel_rfl) rfl an_impl_Object_keepSymbols_wan fun x ho hx => ?_
  obtain ⟨o, q, ⟨⟩⟩ := x
  refine Keeps.of (vc_impl_Object_keepSymbols_wan o q) ?_
  revert o q ho hx
  show ∀ (o : Objt) (q : (Objt) × (Unit)), _
  intro o q ho hx
  dsimp only [C_impl_Object_keepSymbols_wan, okPTL, okPT, Ok, Ty.cells, SN.cells, OkL, OkC, okI, ci, cb, cs, cl] at ho
  dsimp only [C_impl_Object_keepSymbols_wan, vc, v1, decB, SR.pre] at hx
  have hl := objB_lens hx.1.2
  have ho3 := hx.1.2
  have hk := fun p => @kpS_le p o.syms
  have h6 := fun i s => @fix_6 o i s hx.1.2
  have h7 := fun i j s f => @fix_in o i j s f hx.1.2
  have h8 := fun i h0 h => @sAt_get o.sects i h0 h
  have h9 := @sAt_eq o.sects
  (try delta i64 LN); simp only [VBt]; (repeat' first | intro _ | apply And.intro); all_goals (try omega)
  all_goals first | omega | exact kq_yes (by assumption) (by assumption) (by assumption) | exact kq_no (by assumption) (by assumption) (by assumption) | exact kq_end (by assumption) | exact kq_ends (by assumption) | exact kpN_zero rfl | exact kpS_zero.symm | exact midS_zero.symm | exact kpN_set (by assumption) bits_len (by rw [bits_len]; assumption) | exact midF_zero (by assumption) (by assumption) | exact midF_end (by assumption) (by assumption) (by assumption) | exact midF_set (by assumption) (by assumption) (by assumption) (by assumption) (by assumption) (by assumption) | exact (midF_to (by assumption) (by assumption) (by assumption) (by assumption) (by assumption)).1 | exact midF_tn (by assumption) (by assumption) (by assumption) (by assumption) (by assumption) bl_n | exact midF_set2 (by assumption) (by assumption) (by assumption) (by assumption) (by assumption) (by assumption) (by assumption) (by assumption) | (try grind [bits_at, kpS_at, bits_len, kpN_len, kp_take_end, midS_end, keepO, midF_fix, midF_flen, midF_len, midS_len, midS_get])
def C_impl_StripLocals : Con := { ps := [.ro (.st .obj)], out := fun x => let o : Objt := x.1; .req (szOb o ≤ 1000000) (newS .obj (stripL o)), det := true }
abbrev L_impl_StripLocals : List (Nat × Con) := [(12, C_impl_ObjectValid), (20, C_impl_StripLocals_1), (19, C_impl_Object_keepSymbols_loc)]
def G_impl_StripLocals : Cfg := GK L_impl_StripLocals
def an_impl_StripLocals : PTL C_impl_StripLocals.ps → Nat → Option Ann := fun _ _ => none
theorem vc_impl_StripLocals (o : Objt) : (KP Tryz.f6 G_impl_StripLocals C_impl_StripLocals an_impl_StripLocals (o, ())) = ((Bool.not (objB o) = true →
 ([] : List Sect) = (stripL o).sects ∧ ([] : List Sym) = (stripL o).syms ∧ True) ∧ (Bool.not (objB o) = false →
 (szOb o ≤ 1000000 ∧ objB o = true) ∧ @List.map Sect Sect (reS (kpN (bits (locQ o) o.syms 0) 0)) o.sects = (stripL o).sects ∧ kpS (bits (locQ o) o.syms 0) o.syms = (stripL o).syms ∧ True)) := by kernel_rfl
theorem det_impl_StripLocals : C_impl_StripLocals.det = true → ∀ x, (C_impl_StripLocals.out x).Det := fun _ x => by simp only [C_impl_StripLocals]; repeat (first | exact Det.ret _ | exact Det.vc' | apply Det.req)
theorem ok_impl_StripLocals : ConOK Tryz.prog 6 C_impl_StripLocals := by
  refine con_q (l := L_impl_StripLocals) ⟨⟨ok_impl_ObjectValid, det_impl_ObjectValid⟩, ⟨⟨ok_impl_StripLocals_1, det_impl_StripLocals_1⟩, ⟨⟨ok_impl_Object_keepSymbols_loc, det_impl_Object_keepSymbols_loc⟩, trivial⟩⟩⟩ Tryz.func6 rfl (by decide) (by kernel_rfl) rfl an_impl_StripLocals fun x ho hx => ?_
  obtain ⟨o, ⟨⟩⟩ := x
  refine Keeps.of (vc_impl_StripLocals o) ?_
  revert o ho hx
  show ∀ (o : Objt), _
  intro o ho hx
  dsimp only [C_impl_StripLocals, okPTL, okPT, Ok, Ty.cells, SN.cells, OkL, OkC, okI, ci, cb, cs, cl] at ho
  dsimp only [C_impl_StripLocals, vc, v1, decB, SR.pre] at hx
  have h0 : objB o = true → (stripL o).sects = o.sects.map (reS (kpN (bits (locQ o) o.syms 0) 0)) ∧ (stripL o).syms = kpS (bits (locQ o) o.syms 0) o.syms := fun h => by rw [stripL, if_pos h]; exact ⟨rfl, rfl⟩
  have h1 : objB o = false → stripL o = ⟨[], []⟩ := fun h => by rw [stripL, if_neg (by simp [h])]
  (try delta i64 LN); simp only [VBt]; (repeat' first | intro _ | apply And.intro); all_goals (try omega); all_goals (try grind)
def C_impl_StripWanted : Con := { ps := [.ro (.st .obj)], out := fun x => let o : Objt := x.1; .req (szOb o ≤ 1000000) (newS .obj (stripW o)), det := true }
abbrev L_impl_StripWanted : List (Nat × Con) := [(12, C_impl_ObjectValid), (39, C_impl_StripWanted_1), (19, C_impl_Object_keepSymbols_wan)]
def G_impl_StripWanted : Cfg := GK L_impl_StripWanted
def an_impl_StripWanted : PTL C_impl_StripWanted.ps → Nat → Option Ann := fun _ _ => none
theorem vc_impl_StripWanted (o : Objt) : (KP Tryz.f15 G_impl_StripWanted C_impl_StripWanted an_impl_StripWanted (o, ())) = ((Bool.not (objB o) = true →
 ([] : List Sect) = (stripW o).sects ∧ ([] : List Sym) = (stripW o).syms ∧ True) ∧ (Bool.not (objB o) = false →
 (szOb o ≤ 1000000 ∧ objB o = true) ∧ @List.map Sect Sect (reS (kpN (bits (wanQ o) o.syms 0) 0)) o.sects = (stripW o).sects ∧ kpS (bits (wanQ o) o.syms 0) o.syms = (stripW o).syms ∧ True)) := by kernel_rfl
theorem det_impl_StripWanted : C_impl_StripWanted.det = true → ∀ x, (C_impl_StripWanted.out x).Det := fun _ x => by simp only [C_impl_StripWanted]; repeat (first | exact Det.ret _ | exact Det.vc' | apply Det.req)
theorem ok_impl_StripWanted : ConOK Tryz.prog 15 C_impl_StripWanted := by
  refine con_q (l := L_impl_StripWanted) ⟨⟨ok_impl_ObjectValid, det_impl_ObjectValid⟩, ⟨⟨ok_impl_StripWanted_1, det_impl_StripWanted_1⟩, ⟨⟨ok_impl_Object_keepSymbols_wan, det_impl_Object_keepSymbols_wan⟩, trivial⟩⟩⟩ Tryz.func15 rfl (by decide) (by kernel_rfl) rfl an_impl_StripWanted fun x ho hx => ?_
  obtain ⟨o, ⟨⟩⟩ := x
  refine Keeps.of (vc_impl_StripWanted o) ?_
  revert o ho hx
  show ∀ (o : Objt), _
  intro o ho hx
  dsimp only [C_impl_StripWanted, okPTL, okPT, Ok, Ty.cells, SN.cells, OkL, OkC, okI, ci, cb, cs, cl] at ho
  dsimp only [C_impl_StripWanted, vc, v1, decB, SR.pre] at hx
  have h0 : objB o = true → (stripW o).sects = o.sects.map (reS (kpN (bits (wanQ o) o.syms 0) 0)) ∧ (stripW o).syms = kpS (bits (wanQ o) o.syms 0) o.syms := fun h => by rw [stripW, if_pos h]; exact ⟨rfl, rfl⟩
  have h1 : objB o = false → stripW o = ⟨[], []⟩ := fun h => by rw [stripW, if_neg (by simp [h])]
  (try delta i64 LN); simp only [VBt]; (repeat' first | intro _ | apply And.intro); all_goals (try omega); all_goals (try grind)
theorem used_at {l : List Sect} {i n : Int} {s : Sect} (hi : 0 ≤ i) (h : l[i.toNat]? = some s) : ((l.drop i.toNat).any fun s => s.fixups.any fun f => decide (f.to = n)) = ((s.fixups.any fun f => decide (f.to = n)) || (l.drop (i + 1).toNat).any fun s => s.fixups.any fun f => decide (f.to = n)) := by
  rw [drop_get' h hi]; rfl
theorem usedF_at {l : List Fixup} {j n : Int} {f : Fixup} (hj : 0 ≤ j) (h : l[j.toNat]? = some f) : ((l.drop j.toNat).any fun f => decide (f.to = n)) = (decide (f.to = n) || (l.drop (j + 1).toNat).any fun f => decide (f.to = n)) := by
  rw [drop_get' h hj]; rfl
theorem usedL_0 {o : Objt} {n d : Int} (h : usedO o n = ((o.sects.drop d.toNat).any fun s => s.fixups.any fun f => decide (f.to = n))) (h0 : 0 ≤ d) (hd : d < o.sects.length) : usedO o n = ((((sAt o.sects d).fixups.drop (Int.toNat 0)).any fun f => decide (f.to = n)) || (o.sects.drop (d + 1).toNat).any fun s => s.fixups.any fun f => decide (f.to = n)) := by
  rw [h, used_at h0 (sAt_get h0 hd)]; rfl
theorem usedL_n {o : Objt} {n l m : Int} {t : Sect} {u : Fixup} (h : usedO o n = ((((sAt o.sects l).fixups.drop m.toNat).any fun f => decide (f.to = n)) || (o.sects.drop (l + 1).toNat).any fun s => s.fixups.any fun f => decide (f.to = n))) (hu : t.fixups[m.toNat]? = some u) (ht : o.sects[l.toNat]? = some t) (hn : ¬ u.to = n) (hm : 0 ≤ m) :
    usedO o n = ((((sAt o.sects l).fixups.drop (m + 1).toNat).any fun f => decide (f.to = n)) || (o.sects.drop (l + 1).toNat).any fun s => s.fixups.any fun f => decide (f.to = n)) := by
  have e := sAt_eq ht
  rw [h, e, usedF_at hm hu, decide_eq_false hn, Bool.false_or]
def C_spec_l9Used : Con := { ps := [.ro (.st .obj), .ro .i], out := fun x => let o : Objt := x.1; let n : Int := x.2.1; .req (objB o = true) (vc .bool (usedO o n)), det := true }
abbrev L_spec_l9Used : List (Nat × Con) := []
def G_spec_l9Used : Cfg := GK L_spec_l9Used
def an_spec_l9Used : PTL C_spec_l9Used.ps → Nat → Option Ann := fun x kk_ => let o : Objt := x.1; let n : Int := x.2.1; if kk_ = 2 then some (.all (Int) fun i => .giv (0 ≤ i ∧ i ≤ o.sects.length ∧ usedO o n = ((o.sects.drop i.toNat).any fun s => s.fixups.any fun f => decide (f.to = n))) (.mk [(5, ai i), (1, ai n), (2, aref 62)] [(62, bx (ast .obj o))] ((o.sects.length - i.toNat)))) else if kk_ = 2005 then some (.all (Int) fun i => .all (Int) fun j => .giv (0 ≤ i ∧ i < o.sects.length ∧ (sAt o.sects i).fixups.length ≤ 6 ∧ 0 ≤ j ∧ j ≤ (sAt o.sects i).fixups.length ∧ usedO o n = ((((sAt o.sects i).fixups.drop j.toNat).any fun f => decide (f.to = n)) || (o.sects.drop (i + 1).toNat).any fun s => s.fixups.any fun f => decide (f.to = n))) (.mk [(5, ai i), (6, ai j), (1, ai n), (2, aref 62)] [(62, bx (ast .obj o))] ((o.sects.length - i.toNat) * 1000 + (100 - j).toNat))) else none
theorem vc_spec_l9Used (o : Objt) (n : Int) : (KP Tryz.f24 G_spec_l9Used C_spec_l9Used an_spec_l9Used (o, n, ())) = ((∃ (a : Int), 0 = a ∧ n = n ∧ o.sects = o.sects ∧ o.syms = o.syms ∧ (0 ≤ a ∧ a ≤ LN o.sects ∧ usedO o n = @List.any Sect (o.sects.drop a.toNat) (fun (b : Sect) => @List.any Fixup b.fixups (fun (c : Fixup) => decide (c.to = n)))) ∧ True) ∧ (∀ (d : Int), 0 ≤ d ∧ d ≤ LN o.sects ∧ usedO o n = @List.any Sect (o.sects.drop d.toNat) (fun (e : Sect) => @List.any Fixup e.fixups (fun (f : Fixup) => decide (f.to = n))) →
 o.sects.length ≤ 9223372036854775807 →
 (decide (d < LN o.sects) = true →
 (∃ (g : Int), (∃ (h : Int), d = g ∧ 0 = h ∧ n = n ∧ o.sects = o.sects ∧ o.syms = o.syms ∧ (0 ≤ g ∧ g < LN o.sects ∧ (sAt o.sects g).fixups.length ≤ 6 ∧ 0 ≤ h ∧ h ≤ LN (sAt o.sects g).fixups ∧ usedO o n = Bool.or (@List.any Fixup ((sAt o.sects g).fixups.drop h.toNat) (fun (i : Fixup) => decide (i.to = n))) (@List.any Sect (o.sects.drop (g + 1).toNat) (fun (j : Sect) => @List.any Fixup j.fixups (fun (k : Fixup) => decide (k.to = n))))) ∧ (∀ (l : Int), (∀ (m : Int), 0 ≤ l ∧ l < LN o.sects ∧ (sAt o.sects l).fixups.length ≤ 6 ∧ 0 ≤ m ∧ m ≤ LN (sAt o.sects l).fixups ∧ usedO o n = Bool.or (@List.any Fixup ((sAt o.sects l).fixups.drop m.toNat) (fun (p : Fixup) => decide (p.to = n))) (@List.any Sect (o.sects.drop (l + 1).toNat) (fun (q : Sect) => @List.any Fixup q.fixups (fun (r : Fixup) => decide (r.to = n)))) →
 (o.sects.length - l.toNat) * 1000 + (100 - m).toNat ≤ (o.sects.length - g.toNat) * 1000 + (100 - h).toNat →
 (0 ≤ l ∧ l < LN o.sects) ∧ (∀ (s : Sect), o.sects[l.toNat]? = some s →
 Ok (Ty.st SN.sect) s →
 s.fixups.length ≤ 9223372036854775807 →
 (decide (m < LN s.fixups) = true →
 (0 ≤ l ∧ l < LN o.sects) ∧ (∀ (t : Sect), o.sects[l.toNat]? = some t →
 Ok (Ty.st SN.sect) t →
 (0 ≤ m ∧ m < LN t.fixups) ∧ (∀ (u : Fixup), t.fixups[m.toNat]? = some u →
 Ok (Ty.st SN.fixup) u →
 (decide (u.to = n) = true →
 true = usedO o n ∧ True) ∧ (decide (u.to = n) = false →
 i64 (m + 1) ∧ (∃ (v : Int), (∃ (w : Int), l = v ∧ m + 1 = w ∧ n = n ∧ o.sects = o.sects ∧ o.syms = o.syms ∧ (0 ≤ v ∧ v < LN o.sects ∧ (sAt o.sects v).fixups.length ≤ 6 ∧ 0 ≤ w ∧ w ≤ LN (sAt o.sects v).fixups ∧ usedO o n = Bool.or (@List.any Fixup ((sAt o.sects v).fixups.drop w.toNat) (fun (x : Fixup) => decide (x.to = n))) (@List.any Sect (o.sects.drop (v + 1).toNat) (fun (y : Sect) => @List.any Fixup y.fixups (fun (z : Fixup) => decide (z.to = n))))) ∧ (o.sects.length - v.toNat) * 1000 + (100 - w).toNat < (o.sects.length - l.toNat) * 1000 + (100 - m).toNat)))))) ∧ (decide (m < LN s.fixups) = false →
 i64 (l + 1) ∧ (∃ (A : Int), l + 1 = A ∧ n = n ∧ o.sects = o.sects ∧ o.syms = o.syms ∧ (0 ≤ A ∧ A ≤ LN o.sects ∧ usedO o n = @List.any Sect (o.sects.drop A.toNat) (fun (B : Sect) => @List.any Fixup B.fixups (fun (C : Fixup) => decide (C.to = n)))) ∧ o.sects.length - A.toNat < o.sects.length - d.toNat)))))))) ∧ (decide (d < LN o.sects) = false →
 false = usedO o n ∧ True))) := by kernel_rfl
theorem det_spec_l9Used : C_spec_l9Used.det = true → ∀ x, (C_spec_l9Used.out x).Det := fun _ x => by simp only [C_spec_l9Used]; repeat (first | exact Det.ret _ | exact Det.vc' | apply Det.req)
theorem ok_spec_l9Used : ConOK Tryz.prog 24 C_spec_l9Used := by
  refine con_q (l := L_spec_l9Used) trivial Tryz.func24 rfl (by decide) (by kernel_rfl) rfl an_spec_l9Used fun x ho hx => ?_
  obtain ⟨o, n, ⟨⟩⟩ := x
  refine Keeps.of (vc_spec_l9Used o n) ?_
  revert o n ho hx
  show ∀ (o : Objt) (n : Int), _
  intro o n ho hx
  dsimp only [C_spec_l9Used, okPTL, okPT, Ok, Ty.cells, SN.cells, OkL, OkC, okI, ci, cb, cs, cl] at ho
  dsimp only [C_spec_l9Used, vc, v1, decB, SR.pre] at hx
  have h6 := fun i s => @fix_6 o i s hx.1
  have h1 := @used_at o.sects
  have h2 := @usedF_at
  have h4 := @sAt_eq o.sects
  have h3 : usedO o n = ((o.sects.drop (Int.toNat 0)).any fun s => s.fixups.any fun f => decide (f.to = n)) := rfl
  have ho3 := hx.1
  (try delta i64 LN); simp only [VBt]; (repeat' first | intro _ | apply And.intro); all_goals (try omega); all_goals first | exact sAt_6 (by assumption) (by assumption) (by assumption) | exact usedL_0 (by assumption) (by assumption) (by assumption) | exact usedL_n (by assumption) (by assumption) (by assumption) (by assumption) (by assumption) | (try grind [drop_end])
def C_spec_l9Keep : Con := { ps := [.ro (.st .obj), .ro (.list .bool)], out := fun x => let o : Objt := x.1; let ps : List (Bool) := x.2.1; .req (szOb o ≤ 1000000 ∧ objB o = true ∧ ps.length = o.syms.length) (newS .obj ⟨o.sects.map (reS (kpN ps 0)), kpS ps o.syms⟩), det := true }
abbrev L_spec_l9Keep : List (Nat × Con) := [(50, C_spec_l4Copy)]
def G_spec_l9Keep : Cfg := GK L_spec_l9Keep
def an_spec_l9Keep : PTL C_spec_l9Keep.ps → Nat → Option Ann := fun x kk_ => let o : Objt := x.1; let ps : List (Bool) := x.2.1; let ns := kpN ps 0; if kk_ = 5 then some (.all (Int) fun j => .giv (0 ≤ j ∧ j ≤ o.syms.length) (.mk [(7, ai j), (4, aref 30), (5, aref 31), (6, asl 34), (1, al .bool ps), (2, aref 62)] [(30, .box false [.nil, .nil]), (31, .box false [.sl 32 [], .sl 33 []]), (32, .row none (.st .sect) o.sects true), (33, .row (some 44) (.st .sym) (kpS (ps.take j.toNat) o.syms) true), (34, .row (some 3) .i (ns.take j.toNat) true), (62, bx (ast .obj o))] ((o.syms.length - j.toNat)))) else if kk_ = 11 then some (.all (Int) fun i => .giv (0 ≤ i ∧ i ≤ o.sects.length) (.mk [(8, ai i), (4, aref 30), (5, aref 31), (6, asl 34)] [(30, .box false [.nil, .nil]), (31, .box false [.sl 32 [], .sl 33 []]), (32, .row none (.st .sect) (midS ns o.sects i) true), (33, .row none (.st .sym) (kpS ps o.syms) true), (34, .row (some 3) .i ns true)] ((o.sects.length - i.toNat)))) else if kk_ = 2014 then some (.all (Int) fun i => .all (Int) fun j => .giv (0 ≤ i ∧ i < o.sects.length ∧ (sAt o.sects i).fixups.length ≤ 6 ∧ 0 ≤ j ∧ j ≤ (sAt o.sects i).fixups.length) (.mk [(8, ai i), (9, ai j), (4, aref 30), (5, aref 31), (6, asl 34)] [(30, .box false [.nil, .nil]), (31, .box false [.sl 32 [], .sl 33 []]), (32, .row none (.st .sect) (midF ns o.sects i j) true), (33, .row none (.st .sym) (kpS ps o.syms) true), (34, .row (some 3) .i ns true)] ((o.sects.length - i.toNat) * 1000 + (100 - j).toNat))) else none
theorem vc_spec_l9Keep (o : Objt) (ps : List (Bool)) : (KP Tryz.f25 G_spec_l9Keep C_spec_l9Keep an_spec_l9Keep (o, ps, ())) = (szOb o ≤ 1048576 ∧ (∃ (a : Int), 0 = a ∧ ps = ps ∧ o.sects = o.sects ∧ ([] : List Sym) = kpS (ps.take a.toNat) o.syms ∧ ([] : List Int) = (kpN ps 0).take a.toNat ∧ o.sects = o.sects ∧ o.syms = o.syms ∧ (0 ≤ a ∧ a ≤ LN o.syms) ∧ True) ∧ (∀ (b : Int), 0 ≤ b ∧ b ≤ LN o.syms →
 o.syms.length ≤ 9223372036854775807 →
 (decide (b < LN o.syms) = true →
 (kpS (ps.take b.toNat) o.syms).length ≤ 9223372036854775807 →
 ((((kpN ps 0).take b.toNat).length + [LN (kpS (ps.take b.toNat) o.syms)].length) * 8 ≤ 140737488355328 ∧ ((kpN ps 0).take b.toNat).length + [LN (kpS (ps.take b.toNat) o.syms)].length ≤ 1000000000000) ∧ (0 ≤ b ∧ b < LN ps) ∧ (∀ (c : Bool), ps[b.toNat]? = some c →
 Ok Ty.bool c →
 (c = true →
 (0 ≤ b ∧ b < LN o.syms) ∧ (∀ (d : Sym), o.syms[b.toNat]? = some d →
 Ok (Ty.st SN.sym) d →
 (((kpS (ps.take b.toNat) o.syms).length + [d].length) * 40 ≤ 140737488355328 ∧ (kpS (ps.take b.toNat) o.syms).length + [d].length ≤ 1000000000000) ∧ i64 (b + 1) ∧ (∃ (e : Int), b + 1 = e ∧ ps = ps ∧ o.sects = o.sects ∧ kpS (ps.take b.toNat) o.syms ++ [d] = kpS (ps.take e.toNat) o.syms ∧ (kpN ps 0).take b.toNat ++ [LN (kpS (ps.take b.toNat) o.syms)] = (kpN ps 0).take e.toNat ∧ o.sects = o.sects ∧ o.syms = o.syms ∧ (0 ≤ e ∧ e ≤ LN o.syms) ∧ o.syms.length - e.toNat < o.syms.length - b.toNat))) ∧ (c = false →
 i64 (b + 1) ∧ (∃ (f : Int), b + 1 = f ∧ ps = ps ∧ o.sects = o.sects ∧ kpS (ps.take b.toNat) o.syms = kpS (ps.take f.toNat) o.syms ∧ (kpN ps 0).take b.toNat ++ [LN (kpS (ps.take b.toNat) o.syms)] = (kpN ps 0).take f.toNat ∧ o.sects = o.sects ∧ o.syms = o.syms ∧ (0 ≤ f ∧ f ≤ LN o.syms) ∧ o.syms.length - f.toNat < o.syms.length - b.toNat)))) ∧ (decide (b < LN o.syms) = false →
 (∃ (g : Int), 0 = g ∧ o.sects = midS (kpN ps 0) o.sects g ∧ kpS (ps.take b.toNat) o.syms = kpS ps o.syms ∧ (kpN ps 0).take b.toNat = kpN ps 0 ∧ (0 ≤ g ∧ g ≤ LN o.sects) ∧ True) ∧ (∀ (h : Int), 0 ≤ h ∧ h ≤ LN o.sects →
 (midS (kpN ps 0) o.sects h).length ≤ 9223372036854775807 →
 (decide (h < LN (midS (kpN ps 0) o.sects h)) = true →
 (∃ (i : Int), (∃ (j : Int), h = i ∧ 0 = j ∧ midS (kpN ps 0) o.sects h = midF (kpN ps 0) o.sects i j ∧ kpS ps o.syms = kpS ps o.syms ∧ kpN ps 0 = kpN ps 0 ∧ (0 ≤ i ∧ i < LN o.sects ∧ (sAt o.sects i).fixups.length ≤ 6 ∧ 0 ≤ j ∧ j ≤ LN (sAt o.sects i).fixups) ∧ (∀ (k : Int), (∀ (l : Int), 0 ≤ k ∧ k < LN o.sects ∧ (sAt o.sects k).fixups.length ≤ 6 ∧ 0 ≤ l ∧ l ≤ LN (sAt o.sects k).fixups →
 (o.sects.length - k.toNat) * 1000 + (100 - l).toNat ≤ (o.sects.length - i.toNat) * 1000 + (100 - j).toNat →
 (0 ≤ k ∧ k < LN (midF (kpN ps 0) o.sects k l)) ∧ (∀ (m : Sect), (midF (kpN ps 0) o.sects k l)[k.toNat]? = some m →
 Ok (Ty.st SN.sect) m →
 (∀ (n : Sect), (midF (kpN ps 0) o.sects k l)[k.toNat]? = some n →
 n.fixups.length ≤ 9223372036854775807 →
 (decide (l < LN n.fixups) = true →
 (0 ≤ k ∧ k < LN (midF (kpN ps 0) o.sects k l)) ∧ (∀ (p : Sect), (midF (kpN ps 0) o.sects k l)[k.toNat]? = some p →
 Ok (Ty.st SN.sect) p →
 (∀ (q : Sect), (midF (kpN ps 0) o.sects k l)[k.toNat]? = some q →
 (0 ≤ l ∧ l < LN q.fixups) ∧ (∀ (r : Sect), (midF (kpN ps 0) o.sects k l)[k.toNat]? = some r →
 (∀ (s : Fixup), r.fixups[l.toNat]? = some s →
 Ok (Ty.st SN.fixup) s →
 (0 ≤ k ∧ k < LN (midF (kpN ps 0) o.sects k l)) ∧ (∀ (t : Sect), (midF (kpN ps 0) o.sects k l)[k.toNat]? = some t →
 Ok (Ty.st SN.sect) t →
 (0 ≤ s.to ∧ s.to < LN (kpN ps 0)) ∧ (∀ (u : Int), (kpN ps 0)[s.to.toNat]? = some u →
 Ok (Ty.int IntKind.i64) u →
 (∀ (v : Sect), (midF (kpN ps 0) o.sects k l)[k.toNat]? = some v →
 (0 ≤ l ∧ l < LN v.fixups) ∧ (∀ (w : Sect), (midF (kpN ps 0) o.sects k l)[k.toNat]? = some w →
 (∀ (x : Fixup), w.fixups[l.toNat]? = some x →
 i64 (l + 1) ∧ (∃ (y : Int), (∃ (z : Int), k = y ∧ l + 1 = z ∧ (midF (kpN ps 0) o.sects k l).set k.toNat (Sect.mk w.name w.kind w.align w.bytes w.size (w.fixups.set l.toNat (Fixup.mk x.at_ x.kind u x.add))) = midF (kpN ps 0) o.sects y z ∧ kpS ps o.syms = kpS ps o.syms ∧ kpN ps 0 = kpN ps 0 ∧ (0 ≤ y ∧ y < LN o.sects ∧ (sAt o.sects y).fixups.length ≤ 6 ∧ 0 ≤ z ∧ z ≤ LN (sAt o.sects y).fixups) ∧ (o.sects.length - y.toNat) * 1000 + (100 - z).toNat < (o.sects.length - k.toNat) * 1000 + (100 - l).toNat)))))))))))) ∧ (decide (l < LN n.fixups) = false →
 i64 (k + 1) ∧ (∃ (A : Int), k + 1 = A ∧ midF (kpN ps 0) o.sects k l = midS (kpN ps 0) o.sects A ∧ kpS ps o.syms = kpS ps o.syms ∧ kpN ps 0 = kpN ps 0 ∧ (0 ≤ A ∧ A ≤ LN o.sects) ∧ o.sects.length - A.toNat < o.sects.length - h.toNat))))))))) ∧ (decide (h < LN (midS (kpN ps 0) o.sects h)) = false →
 midS (kpN ps 0) o.sects h = @List.map Sect Sect (reS (kpN ps 0)) o.sects ∧ kpS ps o.syms = kpS ps o.syms ∧ True))))) := by kernel_rfl
theorem det_spec_l9Keep : C_spec_l9Keep.det = true → ∀ x, (C_spec_l9Keep.out x).Det := fun _ x => by simp only [C_spec_l9Keep]; repeat (first | exact Det.ret _ | exact Det.vc' | apply Det.req)
theorem ok_spec_l9Keep : ConOK Tryz.prog 25 C_spec_l9Keep := by
  refine con_q (l := L_spec_l9Keep) ⟨⟨ok_spec_l4Copy, det_spec_l4Copy⟩, trivial⟩ Tryz.func25 rfl (by decide) (by kernel_rfl) rfl an_spec_l9Keep fun x ho hx => ?_
  obtain ⟨o, ps, ⟨⟩⟩ := x
  refine Keeps.of (vc_spec_l9Keep o ps) ?_
  revert o ps ho hx
  show ∀ (o : Objt) (ps : List (Bool)), _
  intro o ps ho hx
  dsimp only [C_spec_l9Keep, okPTL, okPT, Ok, Ty.cells, SN.cells, OkL, OkC, okI, ci, cb, cs, cl] at ho
  dsimp only [C_spec_l9Keep, vc, v1, decB, SR.pre] at hx
  have hl := objB_lens hx.1.2.1
  have ho3 := hx.1.2.1
  have hp3 := hx.1.2.2
  have hk := fun p => @kpS_le p o.syms
  have hn := kpN_len (p := ps) (k := 0)
  have hm := fun j => List.length_take (i := j) (l := kpN ps 0)
  have h6 := fun i s => @fix_6 o i s hx.1.2.1
  have h7 := fun i j s f => @fix_in o i j s f hx.1.2.1
  have h8 := fun i h0 h => @sAt_get o.sects i h0 h
  have h9 := @sAt_eq o.sects
  (try delta i64 LN); simp only [VBt]; (repeat' first | intro _ | apply And.intro); all_goals (try omega)
  all_goals first | omega | rfl | exact kpS_zero.symm | exact midS_zero.symm | exact kpN_snoc (by assumption) (by assumption) (by omega) | exact midF_zero (by assumption) (by assumption) | exact midF_end (by assumption) (by assumption) (by assumption) | exact midF_set (by assumption) (by assumption) (by assumption) (by assumption) (by assumption) (by assumption) | exact (midF_to (by assumption) (by assumption) (by assumption) (by assumption) (by assumption)).1 | exact midF_tn (by assumption) (by assumption) (by assumption) (by assumption) (by assumption) (by assumption) | exact midF_set2 (by assumption) (by assumption) (by assumption) (by assumption) (by assumption) (by assumption) (by assumption) (by assumption) | exact K9_1 (by assumption) (by assumption) (by assumption) | exact K9_2 (by assumption) (by assumption) (by assumption) (by assumption) | exact K9_4 (by assumption) (by assumption) | exact midF_z2 (by assumption) (by assumption) | exact midF_e2 (by assumption) (by assumption) (by assumption) (by assumption) | (try grind [kpS_at, kp_take_end, midS_end, keepO, midF_fix, midF_flen, midF_len, midS_len, midS_get])
def C_spec_StripLocals : Con := { ps := [.ro (.st .obj)], out := fun x => let o : Objt := x.1; .req (szOb o ≤ 1000000) (newS .obj (stripL o)), det := true }
abbrev L_spec_StripLocals : List (Nat × Con) := [(23, C_spec_l1OwnObject), (9, C_spec_ObjectValid), (24, C_spec_l9Used), (25, C_spec_l9Keep)]
def G_spec_StripLocals : Cfg := GK L_spec_StripLocals
def an_spec_StripLocals : PTL C_spec_StripLocals.ps → Nat → Option Ann := fun x kk_ => let o : Objt := x.1; if kk_ = 6 then some (.all (Int) fun j => .giv (objB o = true ∧ 0 ≤ j ∧ j ≤ o.syms.length) (.mk [(1, aref 31), (4, ai j), (3, asl 20), (2, aref 30)] [(30, .box false [.nil, .nil]), (31, bx (ast .obj o)), (20, .row (some 4) .bool ((bits (locQ o) o.syms 0).take j.toNat) true)] ((o.syms.length - j.toNat)))) else none
theorem vc_spec_StripLocals (o : Objt) : (KP Tryz.f8 G_spec_StripLocals C_spec_StripLocals an_spec_StripLocals (o, ())) = (szOb o ≤ 1048576 ∧ (Bool.not (objB o) = true →
 ([] : List Sect) = (stripL o).sects ∧ ([] : List Sym) = (stripL o).syms ∧ True) ∧ (Bool.not (objB o) = false →
 (∃ (a : Int), 0 = a ∧ o.sects = o.sects ∧ o.syms = o.syms ∧ ([] : List Bool) = (bits (locQ o) o.syms 0).take a.toNat ∧ (objB o = true ∧ 0 ≤ a ∧ a ≤ LN o.syms) ∧ True) ∧ (∀ (b : Int), objB o = true ∧ 0 ≤ b ∧ b ≤ LN o.syms →
 o.syms.length ≤ 9223372036854775807 →
 (decide (b < LN o.syms) = true →
 (0 ≤ b ∧ b < LN o.syms) ∧ (∀ (c : Sym), o.syms[b.toNat]? = some c →
 Ok (Ty.st SN.sym) c →
 (decide (c.bind ≠ 0) = true →
 ((((bits (locQ o) o.syms 0).take b.toNat).length + 1) * 1 ≤ 140737488355328 ∧ ((bits (locQ o) o.syms 0).take b.toNat).length + 1 ≤ 1000000000000) ∧ i64 (b + 1) ∧ (∃ (d : Int), b + 1 = d ∧ o.sects = o.sects ∧ o.syms = o.syms ∧ (bits (locQ o) o.syms 0).take b.toNat ++ [true] = (bits (locQ o) o.syms 0).take d.toNat ∧ (objB o = true ∧ 0 ≤ d ∧ d ≤ LN o.syms) ∧ o.syms.length - d.toNat < o.syms.length - b.toNat)) ∧ (decide (c.bind ≠ 0) = false →
 objB o = true ∧ ((((bits (locQ o) o.syms 0).take b.toNat).length + [usedO o b].length) * 1 ≤ 140737488355328 ∧ ((bits (locQ o) o.syms 0).take b.toNat).length + [usedO o b].length ≤ 1000000000000) ∧ i64 (b + 1) ∧ (∃ (e : Int), b + 1 = e ∧ o.sects = o.sects ∧ o.syms = o.syms ∧ (bits (locQ o) o.syms 0).take b.toNat ++ [usedO o b] = (bits (locQ o) o.syms 0).take e.toNat ∧ (objB o = true ∧ 0 ≤ e ∧ e ≤ LN o.syms) ∧ o.syms.length - e.toNat < o.syms.length - b.toNat)))) ∧ (decide (b < LN o.syms) = false →
 (szOb o ≤ 1000000 ∧ objB o = true ∧ ((bits (locQ o) o.syms 0).take b.toNat).length = o.syms.length) ∧ @List.map Sect Sect (reS (kpN ((bits (locQ o) o.syms 0).take b.toNat) 0)) o.sects = (stripL o).sects ∧ kpS ((bits (locQ o) o.syms 0).take b.toNat) o.syms = (stripL o).syms ∧ True)))) := by kernel_rfl
theorem det_spec_StripLocals : C_spec_StripLocals.det = true → ∀ x, (C_spec_StripLocals.out x).Det := fun _ x => by simp only [C_spec_StripLocals]; repeat (first | exact Det.ret _ | exact Det.vc' | apply Det.req)
theorem ok_spec_StripLocals : ConOK Tryz.prog 8 C_spec_StripLocals := by
  refine con_q (l := L_spec_StripLocals) ⟨⟨ok_spec_l1OwnObject, det_spec_l1OwnObject⟩, ⟨⟨ok_spec_ObjectValid, det_spec_ObjectValid⟩, ⟨⟨ok_spec_l9Used, det_spec_l9Used⟩, ⟨⟨ok_spec_l9Keep, det_spec_l9Keep⟩, trivial⟩⟩⟩⟩ Tryz.func8 rfl (by decide) (by kernel_rfl) rfl an_spec_StripLocals fun x ho hx => ?_
  obtain ⟨o, ⟨⟩⟩ := x
  refine Keeps.of (vc_spec_StripLocals o) ?_
  revert o ho hx
  show ∀ (o : Objt), _
  intro o ho hx
  dsimp only [C_spec_StripLocals, okPTL, okPT, Ok, Ty.cells, SN.cells, OkL, OkC, okI, ci, cb, cs, cl] at ho
  dsimp only [C_spec_StripLocals, vc, v1, decB, SR.pre] at hx
  have h1 := @bits_snoc (locQ o) o.syms
  have h2 := @bits_end (locQ o) o.syms
  have h3 := @objB_lens o
  have h0 : objB o = true → (stripL o).sects = o.sects.map (reS (kpN (bits (locQ o) o.syms 0) 0)) ∧ (stripL o).syms = kpS (bits (locQ o) o.syms 0) o.syms := fun h => by rw [stripL, if_pos h]; exact ⟨rfl, rfl⟩
  have h4 : objB o = false → stripL o = ⟨[], []⟩ := fun h => by rw [stripL, if_neg (by simp [h])]
  (try delta i64 LN); simp only [VBt]; (repeat' first | intro _ | apply And.intro); all_goals (try omega); all_goals (try grind [bits_len, locQ])
def C_spec_StripWanted : Con := { ps := [.ro (.st .obj)], out := fun x => let o : Objt := x.1; .req (szOb o ≤ 1000000) (newS .obj (stripW o)), det := true }
abbrev L_spec_StripWanted : List (Nat × Con) := [(23, C_spec_l1OwnObject), (9, C_spec_ObjectValid), (24, C_spec_l9Used), (25, C_spec_l9Keep)]
def G_spec_StripWanted : Cfg := GK L_spec_StripWanted
def an_spec_StripWanted : PTL C_spec_StripWanted.ps → Nat → Option Ann := fun x kk_ => let o : Objt := x.1; if kk_ = 6 then some (.all (Int) fun j => .giv (objB o = true ∧ 0 ≤ j ∧ j ≤ o.syms.length) (.mk [(1, aref 31), (4, ai j), (3, asl 20), (2, aref 30)] [(30, .box false [.nil, .nil]), (31, bx (ast .obj o)), (20, .row (some 4) .bool ((bits (wanQ o) o.syms 0).take j.toNat) true)] ((o.syms.length - j.toNat)))) else none
theorem vc_spec_StripWanted (o : Objt) : (KP Tryz.f16 G_spec_StripWanted C_spec_StripWanted an_spec_StripWanted (o, ())) = (szOb o ≤ 1048576 ∧ (Bool.not (objB o) = true →
 ([] : List Sect) = (stripW o).sects ∧ ([] : List Sym) = (stripW o).syms ∧ True) ∧ (Bool.not (objB o) = false →
 (∃ (a : Int), 0 = a ∧ o.sects = o.sects ∧ o.syms = o.syms ∧ ([] : List Bool) = (bits (wanQ o) o.syms 0).take a.toNat ∧ (objB o = true ∧ 0 ≤ a ∧ a ≤ LN o.syms) ∧ True) ∧ (∀ (b : Int), objB o = true ∧ 0 ≤ b ∧ b ≤ LN o.syms →
 o.syms.length ≤ 9223372036854775807 →
 (decide (b < LN o.syms) = true →
 (0 ≤ b ∧ b < LN o.syms) ∧ (∀ (c : Sym), o.syms[b.toNat]? = some c →
 Ok (Ty.st SN.sym) c →
 (decide (c.wher ≠ (- (1 : Int))) = true →
 ((((bits (wanQ o) o.syms 0).take b.toNat).length + 1) * 1 ≤ 140737488355328 ∧ ((bits (wanQ o) o.syms 0).take b.toNat).length + 1 ≤ 1000000000000) ∧ i64 (b + 1) ∧ (∃ (d : Int), b + 1 = d ∧ o.sects = o.sects ∧ o.syms = o.syms ∧ (bits (wanQ o) o.syms 0).take b.toNat ++ [true] = (bits (wanQ o) o.syms 0).take d.toNat ∧ (objB o = true ∧ 0 ≤ d ∧ d ≤ LN o.syms) ∧ o.syms.length - d.toNat < o.syms.length - b.toNat)) ∧ (decide (c.wher ≠ (- (1 : Int))) = false →
 objB o = true ∧ ((((bits (wanQ o) o.syms 0).take b.toNat).length + [usedO o b].length) * 1 ≤ 140737488355328 ∧ ((bits (wanQ o) o.syms 0).take b.toNat).length + [usedO o b].length ≤ 1000000000000) ∧ i64 (b + 1) ∧ (∃ (e : Int), b + 1 = e ∧ o.sects = o.sects ∧ o.syms = o.syms ∧ (bits (wanQ o) o.syms 0).take b.toNat ++ [usedO o b] = (bits (wanQ o) o.syms 0).take e.toNat ∧ (objB o = true ∧ 0 ≤ e ∧ e ≤ LN o.syms) ∧ o.syms.length - e.toNat < o.syms.length - b.toNat)))) ∧ (decide (b < LN o.syms) = false →
 (szOb o ≤ 1000000 ∧ objB o = true ∧ ((bits (wanQ o) o.syms 0).take b.toNat).length = o.syms.length) ∧ @List.map Sect Sect (reS (kpN ((bits (wanQ o) o.syms 0).take b.toNat) 0)) o.sects = (stripW o).sects ∧ kpS ((bits (wanQ o) o.syms 0).take b.toNat) o.syms = (stripW o).syms ∧ True)))) := by kernel_rfl
theorem det_spec_StripWanted : C_spec_StripWanted.det = true → ∀ x, (C_spec_StripWanted.out x).Det := fun _ x => by simp only [C_spec_StripWanted]; repeat (first | exact Det.ret _ | exact Det.vc' | apply Det.req)
theorem ok_spec_StripWanted : ConOK Tryz.prog 16 C_spec_StripWanted := by
  refine con_q (l := L_spec_StripWanted) ⟨⟨ok_spec_l1OwnObject, det_spec_l1OwnObject⟩, ⟨⟨ok_spec_ObjectValid, det_spec_ObjectValid⟩, ⟨⟨ok_spec_l9Used, det_spec_l9Used⟩, ⟨⟨ok_spec_l9Keep, det_spec_l9Keep⟩, trivial⟩⟩⟩⟩ Tryz.func16 rfl (by decide) (by kernel_rfl) rfl an_spec_StripWanted fun x ho hx => ?_
  obtain ⟨o, ⟨⟩⟩ := x
  refine Keeps.of (vc_spec_StripWanted o) ?_
  revert o ho hx
  show ∀ (o : Objt), _
  intro o ho hx
  dsimp only [C_spec_StripWanted, okPTL, okPT, Ok, Ty.cells, SN.cells, OkL, OkC, okI, ci, cb, cs, cl] at ho
  dsimp only [C_spec_StripWanted, vc, v1, decB, SR.pre] at hx
  have h1 := @bits_snoc (wanQ o) o.syms
  have h2 := @bits_end (wanQ o) o.syms
  have h3 := @objB_lens o
  have h0 : objB o = true → (stripW o).sects = o.sects.map (reS (kpN (bits (wanQ o) o.syms 0) 0)) ∧ (stripW o).syms = kpS (bits (wanQ o) o.syms 0) o.syms := fun h => by rw [stripW, if_pos h]; exact ⟨rfl, rfl⟩
  have h4 : objB o = false → stripW o = ⟨[], []⟩ := fun h => by rw [stripW, if_neg (by simp [h])]
  (try delta i64 LN); simp only [VBt]; (repeat' first | intro _ | apply And.intro); all_goals (try omega); all_goals (try grind [bits_len, wanQ])
end Go.Proofs.YtccmghepiegcaaaGreat
