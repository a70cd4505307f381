/- Where sections are placed: plain Lean. -/
import Derived.Test.YtpgglbnagphgoaaGreatResES
set_option linter.unusedVariables false
set_option linter.unusedSimpArgs false
namespace Go.Proofs.YtpgglbnagphgoaaGreat
open Go Go.RowKit

def al8 (a : Int) : Prop := a = 1 ∨ a = 2 ∨ a = 4 ∨ a = 8
theorem alg_bd {n a : Int} (h : al8 a) : n ≤ alg n a ∧ alg n a ≤ n + 7 ∧ alg n a % a = 0 := by
 unfold alg
 rcases h with rfl | rfl | rfl | rfl <;> omega
theorem alg_up {n a : Int} (h : al8 a) (h0 : 0 ≤ n) (h1 : n ≤ 1000000) : alignUp n a = alg n a := by
 unfold alignUp alg
 rw [if_pos ⟨h, h0, h1⟩]
def secOk (s : Sect) : Prop := 1 ≤ s.kind ∧ s.kind ≤ 3 ∧ al8 s.align ∧ 0 ≤ secSize s ∧ secSize s ≤ 48 ∧ (s.bytes.length : Int) ≤ secSize s
theorem secB_ok {s : Sect} {m : Int} (h : secB s m = true) : secOk s := by
 simp only [secB, Bool.and_eq_true, decide_eq_true_eq] at h
 obtain ⟨⟨_, h1, h2, h3⟩, h4⟩ := h
 refine ⟨h1, h2, h3, ?_⟩
 unfold secSize
 by_cases hk : s.kind = 3
 ·rw [if_pos hk] at h4 ⊢
  simp only [decide_eq_true_eq] at h4
  rw [h4.2.2.1]
  exact ⟨h4.1, h4.2.1, h4.1⟩
 ·rw [if_neg hk] at h4 ⊢
  simp only [Bool.and_eq_true, decide_eq_true_eq] at h4
  omega
def secsOk (l : List Sect) : Prop := ∀ s ∈ l, secOk s
theorem objB_secs {o : Objt} (h : objB o = true) : secsOk o.sects := by
 simp only [objB, Bool.and_eq_true] at h
 intro s hs
 exact secB_ok (List.all_eq_true.1 h.1.2 s hs)
theorem secsOk_get {l : List Sect} {k : Nat} {s : Sect} (h : secsOk l) (hs : l[k]? = some s) : secOk s := h s (List.mem_of_getElem? hs)
theorem secsOk_take {l : List Sect} (h : secsOk l) (k : Nat) : secsOk (l.take k) := fun s hs => h s (List.mem_of_mem_take hs)

def plS (c : Int) : List Sect → Int → Int
 | [], a => a
 | s :: l, a => plS c l (if s.kind = c then alg a s.align + secSize s else a)
def plO (c : Int) : List Objt → Int → Int
 | [], a => a
 | o :: l, a => plO c l (plS c o.sects a)
theorem plS_app {c : Int} : ∀ {l m : List Sect} {a : Int}, plS c (l ++ m) a = plS c m (plS c l a) := by
 intro l
 induction l with
 | nil => intro m a; rfl
 | cons s l ih => intro m a; simp only [List.cons_append, plS, ih]
theorem plO_app {c : Int} : ∀ {l m : List Objt} {a : Int}, plO c (l ++ m) a = plO c m (plO c l a) := by
 intro l
 induction l with
 | nil => intro m a; rfl
 | cons s l ih => intro m a; simp only [List.cons_append, plO, ih]
theorem plS_next {c a k : Int} {l : List Sect} {s : Sect} (hk : 0 ≤ k) (h : l[k.toNat]? = some s) : plS c (l.take (k + 1).toNat) a = if s.kind = c then alg (plS c (l.take k.toNat) a) s.align + secSize s else plS c (l.take k.toNat) a := by
 rw [toNat_succ hk, take_snoc h, plS_app]
 rfl
theorem plS_all {c a k : Int} {l : List Sect} (h : (l.length : Int) ≤ k) : plS c (l.take k.toNat) a = plS c l a := by rw [List.take_of_length_le (by omega)]
theorem plO_next {c a k : Int} {l : List Objt} {o : Objt} (hk : 0 ≤ k) (h : l[k.toNat]? = some o) : plO c (l.take (k + 1).toNat) a = plS c o.sects (plO c (l.take k.toNat) a) := by
 rw [toNat_succ hk, take_snoc h, plO_app]
 rfl
theorem plO_all {c a k : Int} {l : List Objt} (h : (l.length : Int) ≤ k) : plO c (l.take k.toNat) a = plO c l a := by rw [List.take_of_length_le (by omega)]
theorem plS_bd {c : Int} : ∀ {l : List Sect} {a : Int}, secsOk l → a ≤ plS c l a ∧ plS c l a ≤ a + 55 * l.length := by
 intro l
 induction l with
 | nil => intro a _; simp [plS]
 | cons s l ih =>
  intro a h
  have hs := h s (by simp)
  have h1 := alg_bd (n := a) hs.2.2.1
  have h2 := hs.2.2.2
  simp only [plS, List.length_cons]
  split
  ·have := ih (a := alg a s.align + secSize s) fun t ht => h t (List.mem_cons_of_mem _ ht)
   omega
  ·have := ih (a := a) fun t ht => h t (List.mem_cons_of_mem _ ht)
   omega
theorem plO_bd {c : Int} : ∀ {l : List Objt} {a : Int}, l.all objB = true → a ≤ plO c l a ∧ plO c l a ≤ a + 440 * l.length := by
 intro l
 induction l with
 | nil => intro a _; simp [plO]
 | cons o l ih =>
  intro a h
  simp only [List.all_cons, Bool.and_eq_true] at h
  have h1 := plS_bd (c := c) (a := a) (objB_secs h.1)
  have h2 := (objB_lens h.1).1
  have h3 := ih (a := plS c o.sects a) h.2
  simp only [plO, List.length_cons]
  omega
def atK (l : List Objt) (b : Int) : Nat → Int
 | 0 => b
 | n + 1 => plO (n + 1) l (alg (atK l b n) 8)
def begK (l : List Objt) (b c : Int) : Int := alg (atK l b (c - 1).toNat) 8
theorem al8_8 : al8 8 := .inr (.inr (.inr rfl))
theorem atK_next {l : List Objt} {b c : Int} (hc : 1 ≤ c) : atK l b c.toNat = plO c l (begK l b c) := by
 obtain ⟨n, rfl⟩ : ∃ n : Nat, c = n + 1 := ⟨(c - 1).toNat, by omega⟩
 have e : ((n : Int) + 1).toNat = n + 1 := by omega
 have e2 : ((n : Int) + 1 - 1).toNat = n := by omega
 rw [e, begK, e2]
 rfl
theorem objsB_all {l : List Objt} (h : objsB l = true) : l.all objB = true ∧ l.length ≤ 4 := by
 simp only [objsB, Bool.and_eq_true, decide_eq_true_eq] at h
 exact ⟨h.2, by omega⟩
theorem atK_bd {l : List Objt} {b : Int} (h : l.all objB = true) (hl : l.length ≤ 4) : ∀ n : Nat, b ≤ atK l b n ∧ atK l b n ≤ b + 1767 * n := by
 intro n
 induction n with
 | zero => simp [atK]
 | succ n ih =>
  have h1 := alg_bd (n := atK l b n) al8_8
  have h2 := plO_bd (c := (n : Int) + 1) (a := alg (atK l b n) 8) h
  simp only [atK]
  omega
def plc (l : List Objt) (b : Int) (k i : Nat) : Int :=
 match l[k]? with
 | none => 0
 | some o => match o.sects[i]? with
  | none => 0
  | some s => alg (plS s.kind (o.sects.take i) (plO s.kind (l.take k) (begK l b s.kind))) s.align
theorem plc_eq {l : List Objt} {b : Int} {k i : Nat} {o : Objt} {s : Sect} (h : l[k]? = some o) (h' : o.sects[i]? = some s) : plc l b k i = alg (plS s.kind (o.sects.take i) (plO s.kind (l.take k) (begK l b s.kind))) s.align := by
 simp only [plc, h, h']
def plAt (l : List Objt) (b c : Int) (k i : Nat) : List (List Int) :=
 l.mapIdx fun k' o => o.sects.mapIdx fun i' s => if s.kind < c ∨ (s.kind = c ∧ (k' < k ∨ (k' = k ∧ i' < i))) then plc l b k' i' else 0
def places (l : List Objt) (b : Int) : List (List Int) := l.mapIdx fun k' o => o.sects.mapIdx fun i' _ => plc l b k' i'
theorem mapIdx_congr {α β : Type} {l : List α} {f g : Nat → α → β} (h : ∀ i x, l[i]? = some x → f i x = g i x) : l.mapIdx f = l.mapIdx g := by
 refine List.ext_getElem? fun i => ?_
 rw [List.getElem?_mapIdx, List.getElem?_mapIdx]
 cases hx : l[i]? with
 | none => rfl
 | some x => simp [h i x hx]
theorem plAt_get {l : List Objt} {b c : Int} {k i : Nat} {q : Nat} {x : List Int} (h : (plAt l b c k i)[q]? = some x) : ∃ o, l[q]? = some o ∧ x = o.sects.mapIdx fun i' s => if s.kind < c ∨ (s.kind = c ∧ (q < k ∨ (q = k ∧ i' < i))) then plc l b q i' else 0 := by
 unfold plAt at h
 rw [List.getElem?_mapIdx, Option.map_eq_some_iff] at h
 obtain ⟨o, h1, h2⟩ := h
 exact ⟨o, h1, h2.symm⟩
theorem plAt_len {l : List Objt} {b c : Int} {k i q : Nat} {x : List Int} {o : Objt} (h : (plAt l b c k i)[q]? = some x) (ho : l[q]? = some o) : x.length = o.sects.length := by
 obtain ⟨o', h1, h2⟩ := plAt_get h
 rw [ho] at h1
 injection h1 with h1
 subst h1
 rw [h2, List.length_mapIdx]
theorem plAt_llen {l : List Objt} {b c : Int} {k i : Nat} : (plAt l b c k i).length = l.length := by unfold plAt; rw [List.length_mapIdx]
theorem plAt_set {l : List Objt} {b c : Int} {k i : Int} {o : Objt} {s : Sect} {x : List Int} (hk : 0 ≤ k) (hi : 0 ≤ i) (ho : l[k.toNat]? = some o) (hs : o.sects[i.toNat]? = some s) (hc : s.kind = c) (hx : (plAt l b c k.toNat i.toNat)[k.toNat]? = some x) :
  (plAt l b c k.toNat i.toNat).set k.toNat (x.set i.toNat (plc l b k.toNat i.toNat)) = plAt l b c k.toNat (i + 1).toNat := by
 rw [toNat_succ hi]
 generalize k.toNat = k at *
 generalize i.toNat = i at *
 obtain ⟨o', h1, h2⟩ := plAt_get hx
 rw [ho] at h1
 injection h1 with h1
 subst h1
 refine List.ext_getElem? fun q => ?_
 rw [List.getElem?_set]
 split
 ·rename_i hq
  subst hq
  rw [if_pos (by rw [plAt_llen]; exact lt_of_some ho)]
  unfold plAt
  rw [List.getElem?_mapIdx, ho, Option.map_some, h2]
  congr 1
  refine List.ext_getElem? fun p => ?_
  rw [List.getElem?_set, List.getElem?_mapIdx, List.getElem?_mapIdx, List.length_mapIdx]
  split
  ·rename_i hp
   subst hp
   rw [if_pos (lt_of_some hs), hs]
   simp [hc]
  ·rename_i hp
   cases ht : o.sects[p]? with
   | none => rfl
   | some t =>
    simp only [Option.map_some, Option.some.injEq]
    have e : (p < i) = (p < i + 1) := by simp only [eq_iff_iff]; omega
    simp only [e]
 ·rename_i hq
  unfold plAt
  rw [List.getElem?_mapIdx, List.getElem?_mapIdx]
  cases ht : l[q]? with
  | none => rfl
  | some t =>
   simp only [Option.map_some, Option.some.injEq]
   have e : (q = k) = False := by simp only [eq_iff_iff, iff_false]; omega
   simp only [e, false_and]
theorem plAt_skip {l : List Objt} {b c : Int} {k i : Int} {o : Objt} {s : Sect} (hi : 0 ≤ i) (ho : l[k.toNat]? = some o) (hs : o.sects[i.toNat]? = some s) (hc : s.kind ≠ c) : plAt l b c k.toNat i.toNat = plAt l b c k.toNat (i + 1).toNat := by
 rw [toNat_succ hi]
 unfold plAt
 refine mapIdx_congr fun q t hq => mapIdx_congr fun p u hp => ?_
 have e : (u.kind < c ∨ u.kind = c ∧ (q < k.toNat ∨ q = k.toNat ∧ p < i.toNat)) = (u.kind < c ∨ u.kind = c ∧ (q < k.toNat ∨ q = k.toNat ∧ p < i.toNat + 1)) := by
  rw [eq_iff_iff]
  by_cases hqk : q = k.toNat ∧ p = i.toNat
  ·obtain ⟨rfl, rfl⟩ := hqk
   rw [ho] at hq
   injection hq with hq
   subst hq
   rw [hs] at hp
   injection hp with hp
   subst hp
   simp [hc]
  ·omega
 simp only [e]
theorem plAt_obj {l : List Objt} {b c : Int} {k i : Int} {o : Objt} (hk : 0 ≤ k) (ho : l[k.toNat]? = some o) (hi : (o.sects.length : Int) ≤ i) : plAt l b c k.toNat i.toNat = plAt l b c (k + 1).toNat (0 : Int).toNat := by
 rw [toNat_succ hk]
 unfold plAt
 refine mapIdx_congr fun q t hq => mapIdx_congr fun p u hp => ?_
 have hp' := lt_of_some hp
 have e : (u.kind < c ∨ u.kind = c ∧ (q < k.toNat ∨ q = k.toNat ∧ p < i.toNat)) = (u.kind < c ∨ u.kind = c ∧ (q < k.toNat + 1 ∨ q = k.toNat + 1 ∧ p < (0 : Int).toNat)) := by
  rw [eq_iff_iff]
  by_cases hqk : q = k.toNat
  ·subst hqk
   rw [ho] at hq
   injection hq with hq
   subst hq
   omega
  ·omega
 simp only [e]
theorem plAt_kind {l : List Objt} {b c : Int} {k : Int} (hk : (l.length : Int) ≤ k) : plAt l b c k.toNat (0 : Int).toNat = plAt l b (c + 1) (0 : Int).toNat (0 : Int).toNat := by
 unfold plAt
 refine mapIdx_congr fun q t hq => mapIdx_congr fun p u hp => ?_
 have hq' := lt_of_some hq
 have e : (u.kind < c ∨ u.kind = c ∧ (q < k.toNat ∨ q = k.toNat ∧ p < (0 : Int).toNat)) = (u.kind < c + 1 ∨ u.kind = c + 1 ∧ (q < (0 : Int).toNat ∨ q = (0 : Int).toNat ∧ p < (0 : Int).toNat)) := by
  rw [eq_iff_iff]
  omega
 simp only [e]
theorem plAt_first {l : List Objt} {b : Int} (h : l.all objB = true) : l.map (fun o => List.replicate o.sects.length (0 : Int)) = plAt l b 1 (0 : Int).toNat (0 : Int).toNat := by
 refine List.ext_getElem? fun q => ?_
 unfold plAt
 rw [List.getElem?_map, List.getElem?_mapIdx]
 cases ht : l[q]? with
 | none => rfl
 | some o =>
  simp only [Option.map_some, Option.some.injEq]
  refine List.ext_getElem? fun p => ?_
  rw [List.getElem?_replicate, List.getElem?_mapIdx]
  cases hu : o.sects[p]? with
  | none => rw [if_neg (by have := List.getElem?_eq_none_iff.1 hu; omega)]; rfl
  | some s =>
   rw [if_pos (lt_of_some hu)]
   have := (secsOk_get (objB_secs (all_get h ht)) hu).1
   simp only [Option.map_some, Option.some.injEq]
   rw [if_neg (by simp; omega)]
theorem plAt_last {l : List Objt} {b c : Int} (h : l.all objB = true) (hc : 3 < c) : plAt l b c (0 : Int).toNat (0 : Int).toNat = places l b := by
 unfold plAt places
 refine mapIdx_congr fun q t hq => mapIdx_congr fun p u hp => ?_
 have := (secsOk_get (objB_secs (all_get h hq)) hp).2.1
 rw [if_pos (by omega)]
theorem places_get {l : List Objt} {b : Int} {k : Nat} {x : List Int} (h : (places l b)[k]? = some x) : ∃ o, l[k]? = some o ∧ x = o.sects.mapIdx fun i' _ => plc l b k i' := by
 unfold places at h
 rw [List.getElem?_mapIdx, Option.map_eq_some_iff] at h
 obtain ⟨o, h1, h2⟩ := h
 exact ⟨o, h1, h2.symm⟩
theorem places_len {l : List Objt} {b : Int} : (places l b).length = l.length := by unfold places; rw [List.length_mapIdx]
theorem places_row {l : List Objt} {b : Int} {k : Nat} {x : List Int} {o : Objt} (h : (places l b)[k]? = some x) (ho : l[k]? = some o) : x.length = o.sects.length ∧ ∀ i y, x[i]? = some y → y = plc l b k i ∧ i < o.sects.length := by
 obtain ⟨o', h1, h2⟩ := places_get h
 rw [ho] at h1
 injection h1 with h1
 subst h1
 subst h2
 refine ⟨List.length_mapIdx, fun i y hy => ?_⟩
 rw [List.getElem?_mapIdx, Option.map_eq_some_iff] at hy
 obtain ⟨s, h3, h4⟩ := hy
 exact ⟨h4.symm, lt_of_some h3⟩
def endsK (l : List Objt) (b : Int) : Nat → List (List Int)
 | 0 => []
 | n + 1 => endsK l b n ++ [[alg (atK l b n) 8, atK l b (n + 1)]]
theorem endsK_len {l : List Objt} {b : Int} (n : Nat) : (endsK l b n).length = n := by
 induction n with
 | zero => rfl
 | succ n ih => simp [endsK, ih]
theorem endsK_next {l : List Objt} {b c : Int} (hc : 1 ≤ c) : endsK l b (c + 1 - 1).toNat = endsK l b (c - 1).toNat ++ [[begK l b c, plO c l (begK l b c)]] := by
 obtain ⟨n, rfl⟩ : ∃ n : Nat, c = n + 1 := ⟨(c - 1).toNat, by omega⟩
 rw [show ((n : Int) + 1 + 1 - 1).toNat = n + 1 by omega, show ((n : Int) + 1 - 1).toNat = n by omega, endsK, begK, show ((n : Int) + 1 - 1).toNat = n by omega]
 rfl
def layOk (l : List Objt) (b : Int) : Bool := objsB l && decide (isBase b)
def layout (l : List Objt) (b : Int) : Layout := if layOk l b = true then ⟨places l b, endsK l b 3⟩ else ⟨[], []⟩
theorem layOk_iff {l : List Objt} {b : Int} : layOk l b = true ↔ objsB l = true ∧ isBase b := by simp [layOk]
theorem layout_yes {l : List Objt} {b : Int} (h : layOk l b = true) : layout l b = ⟨places l b, endsK l b 3⟩ := by rw [layout, if_pos h]
theorem layout_no {l : List Objt} {b : Int} (h : layOk l b = false) : layout l b = ⟨[], []⟩ := by rw [layout, if_neg (by simp [h])]
theorem plO_split {c a : Int} {l : List Objt} {k : Nat} {o : Objt} (ho : l[k]? = some o) : plO c l a = plO c (l.drop (k + 1)) (plS c o.sects (plO c (l.take k) a)) := by
 have e : l.take k ++ (o :: l.drop (k + 1)) = l := by rw [← drop_get ho, List.take_append_drop]
 have := plO_app (c := c) (l := l.take k) (m := o :: l.drop (k + 1)) (a := a)
 rw [e] at this
 exact this
theorem plS_split {c a : Int} {l : List Sect} {i : Nat} {s : Sect} (hs : l[i]? = some s) : plS c l a = plS c (l.drop (i + 1)) (if s.kind = c then alg (plS c (l.take i) a) s.align + secSize s else plS c (l.take i) a) := by
 have e : l.take i ++ (s :: l.drop (i + 1)) = l := by rw [← drop_get hs, List.take_append_drop]
 have := plS_app (c := c) (l := l.take i) (m := s :: l.drop (i + 1)) (a := a)
 rw [e] at this
 exact this
theorem plc_bd {l : List Objt} {b : Int} {k i : Nat} {o : Objt} {s : Sect} (h : l.all objB = true) (hl : l.length ≤ 4) (ho : l[k]? = some o) (hs : o.sects[i]? = some s) :
  begK l b s.kind ≤ plc l b k i ∧ plc l b k i + secSize s ≤ atK l b s.kind.toNat ∧ plc l b k i % s.align = 0 := by
 have hso := secsOk_get (objB_secs (all_get h ho)) hs
 have e := plc_eq (b := b) ho hs
 have a1 := alg_bd (n := plS s.kind (o.sects.take i) (plO s.kind (l.take k) (begK l b s.kind))) hso.2.2.1
 have h1 := plO_bd (c := s.kind) (a := begK l b s.kind) (all_take h k)
 have h2 := plS_bd (c := s.kind) (a := plO s.kind (l.take k) (begK l b s.kind)) (secsOk_take (objB_secs (all_get h ho)) i)
 rw [e]
 refine ⟨by omega, ?_, a1.2.2⟩
 rw [atK_next hso.1]
 have h3 := plO_split (c := s.kind) (a := begK l b s.kind) ho
 have h4 := plS_split (c := s.kind) (a := plO s.kind (l.take k) (begK l b s.kind)) hs
 rw [if_pos rfl] at h4
 have h5 := plO_bd (c := s.kind) (l := l.drop (k + 1)) (a := plS s.kind o.sects (plO s.kind (l.take k) (begK l b s.kind))) (by
  rw [List.all_eq_true] at *
  intro x hx
  exact h x (List.mem_of_mem_drop hx))
 have h6 := plS_bd (c := s.kind) (l := o.sects.drop (i + 1)) (a := alg (plS s.kind (o.sects.take i) (plO s.kind (l.take k) (begK l b s.kind))) s.align + secSize s) (fun t ht => objB_secs (all_get h ho) t (List.mem_of_mem_drop ht))
 omega
def sectsAt (l : List Objt) (k : Int) : List Sect := match l[k.toNat]? with | some o => o.sects | none => []
theorem sectsAt_eq {l : List Objt} {k : Int} {o : Objt} (h : l[k.toNat]? = some o) : sectsAt l k = o.sects := by simp [sectsAt, h]
theorem some_of_lt {α : Type} {l : List α} {k : Int} (h0 : 0 ≤ k) (h : k < l.length) : ∃ x, l[k.toNat]? = some x := ⟨_, List.getElem?_eq_getElem (by omega)⟩
theorem sectsAt_ok {l : List Objt} (h : l.all objB = true) (k : Int) : secsOk (sectsAt l k) ∧ (sectsAt l k).length ≤ 8 := by
 unfold sectsAt
 split
 ·rename_i o ho; exact ⟨objB_secs (all_get h ho), (objB_lens (all_get h ho)).1⟩
 ·exact ⟨fun s hs => (by cases hs), by simp⟩
theorem lay_all {l : List Objt} {b : Int} (h : layOk l b = true) : l.all objB = true ∧ l.length ≤ 4 ∧ 0 ≤ b ∧ b ≤ 4096 := by
 obtain ⟨h1, h2⟩ := layOk_iff.1 h
 obtain ⟨h3, h4⟩ := objsB_all h1
 exact ⟨h3, h4, h2.1, h2.2.1⟩
def curO (l : List Objt) (b c k : Int) : Int := plO c (l.take k.toNat) (begK l b c)
def curAt (l : List Objt) (b c k i : Int) : Int := plS c ((sectsAt l k).take i.toNat) (curO l b c k)
theorem beg_bd {l : List Objt} {b c : Int} (h : layOk l b = true) (h1 : 1 ≤ c) (h2 : c ≤ 3) : 0 ≤ atK l b (c - 1).toNat ∧ atK l b (c - 1).toNat ≤ 10000 ∧ 0 ≤ begK l b c ∧ begK l b c ≤ 10000 := by
 obtain ⟨h3, h4, h5, h6⟩ := lay_all h
 have g1 := atK_bd (b := b) h3 h4 (c - 1).toNat
 have g2 := alg_bd (n := atK l b (c - 1).toNat) al8_8
 have : begK l b c = alg (atK l b (c - 1).toNat) 8 := rfl
 omega
theorem curO_bd {l : List Objt} {b c k : Int} (h : layOk l b = true) (h1 : 1 ≤ c) (h2 : c ≤ 3) : 0 ≤ curO l b c k ∧ curO l b c k ≤ 20000 := by
 obtain ⟨h3, h4, h5, h6⟩ := lay_all h
 have g1 := beg_bd h h1 h2
 have g2 := plO_bd (c := c) (l := l.take k.toNat) (a := begK l b c) (all_take h3 _)
 have g3 : (l.take k.toNat).length ≤ 4 := by rw [List.length_take]; omega
 have : curO l b c k = plO c (l.take k.toNat) (begK l b c) := rfl
 omega
theorem curAt_bd {l : List Objt} {b c k i : Int} (h : layOk l b = true) (h1 : 1 ≤ c) (h2 : c ≤ 3) : 0 ≤ curAt l b c k i ∧ curAt l b c k i ≤ 30000 := by
 have g1 := curO_bd (k := k) h h1 h2
 have g2 := sectsAt_ok (lay_all h).1 k
 have g3 := plS_bd (c := c) (a := curO l b c k) (secsOk_take g2.1 i.toNat)
 have g4 : ((sectsAt l k).take i.toNat).length ≤ 8 := by rw [List.length_take]; omega
 have : curAt l b c k i = plS c ((sectsAt l k).take i.toNat) (curO l b c k) := rfl
 omega
theorem sect_ok {l : List Objt} {b k i : Int} {s : Sect} (h : layOk l b = true) (hs : (sectsAt l k)[i.toNat]? = some s) : 1 ≤ s.kind ∧ s.kind ≤ 3 ∧ al8 s.align ∧ 0 ≤ secSize s ∧ secSize s ≤ 48 := by
 have := secsOk_get (sectsAt_ok (lay_all h).1 k).1 hs
 exact ⟨this.1, this.2.1, this.2.2.1, this.2.2.2.1, this.2.2.2.2.1⟩
theorem plc_cur {l : List Objt} {b k i : Int} {s : Sect} (hk : 0 ≤ k) (hl : k < l.length) (hs : (sectsAt l k)[i.toNat]? = some s) : plc l b k.toNat i.toNat = alg (curAt l b s.kind k i) s.align := by
 obtain ⟨o, ho⟩ := some_of_lt hk hl
 unfold curAt curO
 rw [sectsAt_eq ho] at hs ⊢
 exact plc_eq ho hs
theorem curAt_hit {l : List Objt} {b c k i : Int} {s : Sect} (hi : 0 ≤ i) (hs : (sectsAt l k)[i.toNat]? = some s) (hc : s.kind = c) : curAt l b c k (i + 1) = alg (curAt l b c k i) s.align + secSize s := by
 unfold curAt
 rw [plS_next hi hs, if_pos hc]
theorem curAt_miss {l : List Objt} {b c k i : Int} {s : Sect} (hi : 0 ≤ i) (hs : (sectsAt l k)[i.toNat]? = some s) (hc : ¬ s.kind = c) : curAt l b c k (i + 1) = curAt l b c k i := by
 unfold curAt
 rw [plS_next hi hs, if_neg hc]
theorem curAt_end {l : List Objt} {b c k i : Int} (hk : 0 ≤ k) (hl : k < l.length) (hi : ((sectsAt l k).length : Int) ≤ i) : curAt l b c k i = curO l b c (k + 1) := by
 obtain ⟨o, ho⟩ := some_of_lt hk hl
 unfold curAt curO
 rw [plS_all hi, plO_next hk ho, sectsAt_eq ho]
theorem curO_end {l : List Objt} {b c k : Int} (hc : 1 ≤ c) (hk : (l.length : Int) ≤ k) : curO l b c k = atK l b c.toNat := by
 unfold curO
 rw [plO_all hk, atK_next hc]
def plN (l : List Objt) (b c k i : Int) : List (List Int) := plAt l b c k.toNat i.toNat
theorem plN_set {l : List Objt} {b c k i : Int} {s : Sect} {x : List Int} (hk : 0 ≤ k) (hl : k < l.length) (hi : 0 ≤ i) (hs : (sectsAt l k)[i.toNat]? = some s) (hc : s.kind = c) (hx : (plN l b c k i)[k.toNat]? = some x) :
  (plN l b c k i).set k.toNat (x.set i.toNat (alg (curAt l b c k i) s.align)) = plN l b c k (i + 1) := by
 obtain ⟨o, ho⟩ := some_of_lt hk hl
 have e := plc_cur (b := b) hk hl hs
 rw [hc] at e
 rw [← e]
 exact plAt_set hk hi ho (by rwa [sectsAt_eq ho] at hs) hc hx
theorem plN_skip {l : List Objt} {b c k i : Int} {s : Sect} (hk : 0 ≤ k) (hl : k < l.length) (hi : 0 ≤ i) (hs : (sectsAt l k)[i.toNat]? = some s) (hc : ¬ s.kind = c) : plN l b c k i = plN l b c k (i + 1) := by
 obtain ⟨o, ho⟩ := some_of_lt hk hl
 exact plAt_skip hi ho (by rwa [sectsAt_eq ho] at hs) hc
theorem plN_obj {l : List Objt} {b c k i : Int} (hk : 0 ≤ k) (hl : k < l.length) (hi : ((sectsAt l k).length : Int) ≤ i) : plN l b c k i = plN l b c (k + 1) 0 := by
 obtain ⟨o, ho⟩ := some_of_lt hk hl
 exact plAt_obj hk ho (by rwa [sectsAt_eq ho] at hi)
theorem plN_kind {l : List Objt} {b c k : Int} (hk : (l.length : Int) ≤ k) : plN l b c k 0 = plN l b (c + 1) 0 0 := plAt_kind hk
theorem plN_first {l : List Objt} {b k : Int} (h : layOk l b = true) (hk : (l.length : Int) ≤ k) : (l.take k.toNat).map (fun o => List.replicate o.sects.length (0 : Int)) = plN l b 1 0 0 := by
 rw [List.take_of_length_le (by omega)]; exact plAt_first (lay_all h).1
theorem plN_last {l : List Objt} {b c : Int} (h : layOk l b = true) (hc : 3 < c) : plN l b c 0 0 = places l b := plAt_last (lay_all h).1 hc
theorem plN_len {l : List Objt} {b c k i q : Int} {x : List Int} (hx : (plN l b c k i)[q.toNat]? = some x) : x.length = (sectsAt l q).length := by
 obtain ⟨o, ho, _⟩ := plAt_get hx
 rw [sectsAt_eq ho]
 exact plAt_len hx ho
theorem plN_llen {l : List Objt} {b c k i : Int} : (plN l b c k i).length = l.length := plAt_llen
theorem repl_next {l : List Objt} {k : Int} {o : Objt} (hk : 0 ≤ k) (h : l[k.toNat]? = some o) : (l.take k.toNat).map (fun o => List.replicate o.sects.length (0 : Int)) ++ [repl (o.sects.length : Int) 0] = (l.take (k + 1).toNat).map fun o => List.replicate o.sects.length (0 : Int) := by
 rw [toNat_succ hk, take_snoc h, List.map_append]
 simp [repl]
theorem places_at {l : List Objt} {b k i y : Int} {x : List Int} {s : Sect} (hx : (places l b)[k.toNat]? = some x) (hy : x[i.toNat]? = some y) (hk : 0 ≤ k) (hl : k < l.length) (hs : (sectsAt l k)[i.toNat]? = some s) : y = alg (curAt l b s.kind k i) s.align := by
 obtain ⟨o, ho⟩ := some_of_lt hk hl
 have := (places_row hx ho).2 _ _ hy
 rw [this.1, plc_cur hk hl hs]
theorem places_rlen {l : List Objt} {b k : Int} {x : List Int} (hx : (places l b)[k.toNat]? = some x) : x.length = (sectsAt l k).length := by
 obtain ⟨o, ho, _⟩ := places_get hx
 rw [sectsAt_eq ho]
 exact (places_row hx ho).1
theorem layOk_no1 {l : List Objt} {b : Int} (h : objsB l = false) : layOk l b = false := by simp [layOk, h]
theorem layOk_no2 {l : List Objt} {b : Int} (h : ¬ isBase b) : layOk l b = false := by simp [layOk, h]
theorem layOk_yes {l : List Objt} {b : Int} (h : objsB l = true) (h' : isBase b) : layOk l b = true := layOk_iff.2 ⟨h, h'⟩
theorem atK_go {l : List Objt} {b c : Int} : atK l b (c + 1 - 1).toNat = atK l b c.toNat := by rw [Int.add_sub_cancel]
theorem endsK_go {l : List Objt} {b c : Int} (hc : 1 ≤ c) : endsK l b (c - 1).toNat ++ [[begK l b c, atK l b c.toNat]] = endsK l b (c + 1 - 1).toNat := by
 rw [endsK_next hc, atK_next hc]
theorem endsK_last {l : List Objt} {b c : Int} (h : 3 < c) (h' : c ≤ 4) : endsK l b (c - 1).toNat = endsK l b 3 ∧ atK l b (c - 1).toNat = atK l b 3 := by
 have : c = 4 := by omega
 subst this
 exact ⟨rfl, rfl⟩
theorem al8_bd {a : Int} (h : al8 a) : 1 ≤ a ∧ a ≤ 8 := by unfold al8 at h; omega
theorem sects_len8 {l : List Objt} {b k : Int} {o : Objt} (h : layOk l b = true) (ho : l[k.toNat]? = some o) : o.sects.length ≤ 8 := (objB_lens (all_get (lay_all h).1 ho)).1
def isLay (d : Layout) : Prop := ∃ l b, layOk l b = true ∧ d = layout l b
theorem endsK_3 (l : List Objt) (b : Int) : endsK l b 3 = [[begK l b 1, atK l b 1], [begK l b 2, atK l b 2], [begK l b 3, atK l b 3]] := rfl
def endV (d : Layout) : Int := (d.ends.getD 2 []).getD 1 0
theorem isLay_ends {d : Layout} (h : isLay d) : d.ends.length = 3 ∧ (∀ (k : Nat) x, d.ends[k]? = some x → x.length = 2) ∧ (∀ x, d.ends[2]? = some x → ∀ y, x[1]? = some y → y = endV d) := by
 obtain ⟨l, b, h1, rfl⟩ := h
 rw [layout_yes h1]
 unfold endV
 simp only [endsK_3]
 refine ⟨rfl, fun k x hx => ?_, fun x hx y hy => ?_⟩
 ·have := List.mem_of_getElem? hx
  simp only [List.mem_cons, List.not_mem_nil, or_false] at this
  rcases this with rfl | rfl | rfl <;> rfl
 ·simp at hx
  subst hx
  simp at hy
  exact hy.symm
theorem endV_lay {l : List Objt} {b : Int} (h : layOk l b = true) : endV (layout l b) = atK l b 3 := by
 unfold endV
 rw [layout_yes h]
 rfl
/-! What the walks ask, word by word. -/
theorem at_nn {l : List Objt} {b c : Int} (h : layOk l b = true) (h1 : 1 ≤ c) (h2 : c ≤ 3) : 0 ≤ atK l b (c - 1).toNat := (beg_bd h h1 h2).1
theorem at_le {l : List Objt} {b c : Int} (h : layOk l b = true) (h1 : 1 ≤ c) (h2 : c ≤ 3) : atK l b (c - 1).toNat ≤ 1000000000 := by have := beg_bd h h1 h2; omega
theorem curAt_nn {l : List Objt} {b c k i : Int} (h : layOk l b = true) (h1 : 1 ≤ c) (h2 : c ≤ 3) : 0 ≤ curAt l b c k i := (curAt_bd h h1 h2).1
theorem curAt_le {l : List Objt} {b c k i : Int} (h : layOk l b = true) (h1 : 1 ≤ c) (h2 : c ≤ 3) : curAt l b c k i ≤ 1000000000 := by have := curAt_bd (k := k) (i := i) h h1 h2; omega
theorem align_ge {l : List Objt} {b k i : Int} {s : Sect} (h : layOk l b = true) (hs : (sectsAt l k)[i.toNat]? = some s) : 1 ≤ s.align := (al8_bd (sect_ok h hs).2.2.1).1
theorem align_le {l : List Objt} {b k i : Int} {s : Sect} (h : layOk l b = true) (hs : (sectsAt l k)[i.toNat]? = some s) : s.align ≤ 8 := (al8_bd (sect_ok h hs).2.2.1).2
theorem go_bd {l : List Objt} {b c k i : Int} {s : Sect} (h : layOk l b = true) (h1 : 1 ≤ c) (h2 : c ≤ 3) (hs : (sectsAt l k)[i.toNat]? = some s) : -9223372036854775808 ≤ alg (curAt l b c k i) s.align + secSize s ∧ alg (curAt l b c k i) s.align + secSize s ≤ 9223372036854775807 := by
 have g1 := curAt_bd (k := k) (i := i) h h1 h2
 have g2 := sect_ok h hs
 have g3 := alg_bd (n := curAt l b c k i) g2.2.2.1
 omega
theorem go_lo {l : List Objt} {b c k i : Int} {s : Sect} (h : layOk l b = true) (h1 : 1 ≤ c) (h2 : c ≤ 3) (hs : (sectsAt l k)[i.toNat]? = some s) : -9223372036854775808 ≤ alg (curAt l b c k i) s.align + secSize s := (go_bd h h1 h2 hs).1
theorem go_hi {l : List Objt} {b c k i : Int} {s : Sect} (h : layOk l b = true) (h1 : 1 ≤ c) (h2 : c ≤ 3) (hs : (sectsAt l k)[i.toNat]? = some s) : alg (curAt l b c k i) s.align + secSize s ≤ 9223372036854775807 := (go_bd h h1 h2 hs).2
theorem plN_lt {l : List Objt} {b c k i q : Int} (h : q < l.length) : q < ((plN l b c k i).length : Int) := by rw [plN_llen]; exact h
theorem plN_rlt {l : List Objt} {b c k i q j : Int} {x : List Int} (hx : (plN l b c k i)[q.toNat]? = some x) (h : j < (sectsAt l q).length) : j < (x.length : Int) := by rw [plN_len hx]; exact h
theorem endsK_cur {l : List Objt} {b c k : Int} (hc : 1 ≤ c) (hk : (l.length : Int) ≤ k) : endsK l b (c - 1).toNat ++ [[begK l b c, curO l b c k]] = endsK l b (c + 1 - 1).toNat := by
 rw [curO_end hc hk, endsK_go hc]
theorem curO_atK {l : List Objt} {b c k : Int} (hc : 1 ≤ c) (hk : (l.length : Int) ≤ k) : curO l b c k = atK l b (c + 1 - 1).toNat := by
 rw [curO_end hc hk, atK_go]
theorem plN_lay {l : List Objt} {b c : Int} (h : layOk l b = true) (hc : 3 < c) : plN l b c 0 0 = (layout l b).places := by rw [plN_last h hc, layout_yes h]
theorem ends_lay {l : List Objt} {b c : Int} (h : layOk l b = true) (hc : 3 < c) (hc' : c ≤ 4) : endsK l b (c - 1).toNat = (layout l b).ends := by rw [(endsK_last hc hc').1, layout_yes h]
def endPl (l : List Objt) (b : Int) : Int := if layOk l b = true then atK l b 3 else 0
theorem endPl_yes {l : List Objt} {b : Int} (h : layOk l b = true) : endPl l b = atK l b 3 := by rw [endPl, if_pos h]
theorem endPl_no {l : List Objt} {b : Int} (h : layOk l b = false) : endPl l b = 0 := by rw [endPl, if_neg (by simp [h])]
theorem at_lay {l : List Objt} {b c : Int} (h : layOk l b = true) (hc : 3 < c) (hc' : c ≤ 4) : atK l b (c - 1).toNat = endPl l b := by rw [(endsK_last hc hc').2, endPl_yes h]
theorem sects8 {l : List Objt} {b k : Int} (h : layOk l b = true) : (sectsAt l k).length ≤ 8 := (sectsAt_ok (lay_all h).1 k).2
theorem lay4 {l : List Objt} {b : Int} (h : layOk l b = true) : l.length ≤ 4 := (lay_all h).2.1
theorem up_at {l : List Objt} {b c k i : Int} {s : Sect} (h : layOk l b = true) (h1 : 1 ≤ c) (h2 : c ≤ 3) (hs : (sectsAt l k)[i.toNat]? = some s) : alignUp (curAt l b c k i) s.align = alg (curAt l b c k i) s.align := by
 have g1 := curAt_bd (k := k) (i := i) h h1 h2
 exact alg_up (sect_ok h hs).2.2.1 g1.1 (by omega)
theorem up_beg {l : List Objt} {b c : Int} (h : layOk l b = true) (h1 : 1 ≤ c) (h2 : c ≤ 3) : alignUp (atK l b (c - 1).toNat) 8 = begK l b c := by
 have g1 := beg_bd h h1 h2
 exact alg_up al8_8 g1.1 (by omega)
theorem up_lo {l : List Objt} {b c k i : Int} {s : Sect} (h : layOk l b = true) (h1 : 1 ≤ c) (h2 : c ≤ 3) (hs : (sectsAt l k)[i.toNat]? = some s) : -9223372036854775808 ≤ alignUp (curAt l b c k i) s.align + secSize s := by rw [up_at h h1 h2 hs]; exact go_lo h h1 h2 hs
theorem up_hi {l : List Objt} {b c k i : Int} {s : Sect} (h : layOk l b = true) (h1 : 1 ≤ c) (h2 : c ≤ 3) (hs : (sectsAt l k)[i.toNat]? = some s) : alignUp (curAt l b c k i) s.align + secSize s ≤ 9223372036854775807 := by rw [up_at h h1 h2 hs]; exact go_hi h h1 h2 hs
theorem up_hit {l : List Objt} {b c k i : Int} {s : Sect} (h : layOk l b = true) (h1 : 1 ≤ c) (h2 : c ≤ 3) (hi : 0 ≤ i) (hs : (sectsAt l k)[i.toNat]? = some s) (hc : s.kind = c) : alignUp (curAt l b c k i) s.align + secSize s = curAt l b c k (i + 1) := by rw [up_at h h1 h2 hs, curAt_hit hi hs hc]
theorem up_set {l : List Objt} {b c k i : Int} {s : Sect} {x : List Int} (h : layOk l b = true) (h1 : 1 ≤ c) (h2 : c ≤ 3) (hk : 0 ≤ k) (hl : k < l.length) (hi : 0 ≤ i) (hs : (sectsAt l k)[i.toNat]? = some s) (hc : s.kind = c) (hx : (plN l b c k i)[k.toNat]? = some x) :
  (plN l b c k i).set k.toNat (x.set i.toNat (alignUp (curAt l b c k i) s.align)) = plN l b c k (i + 1) := by
 rw [up_at h h1 h2 hs]; exact plN_set hk hl hi hs hc hx
theorem pl_hit {l : List Objt} {b c k i y : Int} {x : List Int} {s : Sect} (hx : (places l b)[k.toNat]? = some x) (hy : x[i.toNat]? = some y) (hk : 0 ≤ k) (hl : k < l.length) (hi : 0 ≤ i) (hs : (sectsAt l k)[i.toNat]? = some s) (hc : s.kind = c) : y + secSize s = curAt l b c k (i + 1) := by
 rw [places_at hx hy hk hl hs, curAt_hit hi hs hc, hc]
theorem pl_bd {l : List Objt} {b k i y : Int} {x : List Int} {s : Sect} (h : layOk l b = true) (hx : (places l b)[k.toNat]? = some x) (hy : x[i.toNat]? = some y) (hk : 0 ≤ k) (hl : k < l.length) (hi : 0 ≤ i) (hs : (sectsAt l k)[i.toNat]? = some s) : 0 ≤ y ∧ y ≤ 1000000 ∧ 0 ≤ y + secSize s ∧ y + secSize s ≤ 1000000 := by
 have g := sect_ok h hs
 have g1 := curAt_bd (k := k) (i := i) h g.1 g.2.1
 have g3 := alg_bd (n := curAt l b s.kind k i) g.2.2.1
 rw [places_at hx hy hk hl hs]
 omega
theorem places_lt {l : List Objt} {b q : Int} (h : q < l.length) : q < ((places l b).length : Int) := by rw [places_len]; exact h
theorem places_rlt {l : List Objt} {b q j : Int} {x : List Int} (hx : (places l b)[q.toNat]? = some x) (h : j < (sectsAt l q).length) : j < (x.length : Int) := by rw [places_rlen hx]; exact h
theorem lay_no1 {l : List Objt} {b : Int} (h : objsB l = false) : layout l b = ⟨[], []⟩ := layout_no (layOk_no1 h)
theorem lay_no2 {l : List Objt} {b : Int} (h : ¬ isBase b) : layout l b = ⟨[], []⟩ := layout_no (layOk_no2 h)
theorem sectsAt_get {l : List Objt} {k i : Int} {o : Objt} {s : Sect} (hs : o.sects[i.toNat]? = some s) (ho : l[k.toNat]? = some o) : (sectsAt l k)[i.toNat]? = some s := by rw [sectsAt_eq ho]; exact hs
theorem sectsAt_lt {l : List Objt} {k i : Int} {o : Objt} (h : i < o.sects.length) (ho : l[k.toNat]? = some o) : i < ((sectsAt l k).length : Int) := by rw [sectsAt_eq ho]; exact h
theorem sectsAt_ge {l : List Objt} {k i : Int} {o : Objt} (h : (o.sects.length : Int) ≤ i) (ho : l[k.toNat]? = some o) : ((sectsAt l k).length : Int) ≤ i := by rw [sectsAt_eq ho]; exact h
theorem endsK_cur2 {l : List Objt} {b c k : Int} (hc : 1 ≤ c) (hk : (l.length : Int) ≤ k) : endsK l b (c - 1).toNat ++ [[begK l b c, curO l b c k]] = endsK l b c.toNat := by
 have := endsK_cur (b := b) hc hk
 rwa [Int.add_sub_cancel] at this
theorem layOk_no3 {l : List Objt} {b : Int} (h : ¬ (0 ≤ b ∧ b ≤ 4096)) : layOk l b = false := layOk_no2 fun h' => h ⟨h'.1, h'.2.1⟩
theorem layOk_no4 {l : List Objt} {b : Int} (h : b % 8 ≠ 0) : layOk l b = false := layOk_no2 fun h' => h h'.2.2
theorem layOk_yes2 {l : List Objt} {b : Int} (h : objsB l = true) (h1 : 0 ≤ b) (h2 : b ≤ 4096) (h3 : ¬ b % 8 ≠ 0) : layOk l b = true := layOk_yes h ⟨h1, h2, by omega⟩
theorem lmap_len {l : List Objt} {k : Nat} (h : l.length ≤ 4) : (List.map (fun o : Objt => List.replicate o.sects.length (0 : Int)) (l.take k)).length ≤ 4 := by rw [List.length_map, List.length_take]; omega
end Go.Proofs.YtpgglbnagphgoaaGreat
