/- Objects: what is valid, plain Lean. -/
import Derived.Test.YtpgglbnagphgoaaGreatNamesQ
import Derived.Test.YtpgglbnagphgoaaGreatNum2Q
set_option linter.unusedVariables false
set_option linter.unusedSimpArgs false
namespace Go.Proofs.YtpgglbnagphgoaaGreat
open Go Go.RowKit

def nameCh (i : Nat) (c : Int) : Bool := decide ((97 ≤ c ∧ c ≤ 122) ∨ c = 95 ∨ c = 46 ∨ (0 < i ∧ 48 ≤ c ∧ c ≤ 57))
def nameFrom (s : ByteArray) : Nat → Nat → Bool
 | _, 0 => true
 | k, n + 1 => nameCh k (strAt s k) && nameFrom s (k + 1) n
def nameB (s : ByteArray) : Bool := decide (1 ≤ (s.size : Int) ∧ (s.size : Int) ≤ 8) && nameFrom s 0 s.size
theorem nameFrom_step {s : ByteArray} {k n : Nat} (h : k < n) : nameFrom s k (n - k) = (nameCh k (strAt s k) && nameFrom s (k + 1) (n - (k + 1))) := by
 rw [show n - k = (n - (k + 1)) + 1 by omega]; rfl
theorem nameFrom_end {s : ByteArray} {k n : Nat} (h : n ≤ k) : nameFrom s k (n - k) = true := by
 rw [show n - k = 0 by omega]; rfl
def fixB (many blen : Int) : Int → List Fixup → Bool
 | _, [] => true
 | e, f :: l => decide (fixWide f.kind ≠ 0 ∧ 0 ≤ f.to ∧ f.to < many ∧ -1000 ≤ f.add ∧ f.add ≤ 1000 ∧ e ≤ f.at_ ∧ f.at_ ≤ blen - fixWide f.kind) && fixB many blen (f.at_ + fixWide f.kind) l
def secB (x : Sect) (many : Int) : Bool :=
 nameB x.name && decide (1 ≤ x.kind ∧ x.kind ≤ 3 ∧ (x.align = 1 ∨ x.align = 2 ∨ x.align = 4 ∨ x.align = 8)) &&
  (if x.kind = 3 then decide (0 ≤ x.size ∧ x.size ≤ 48 ∧ x.bytes = [] ∧ x.fixups = [])
   else decide (x.size = 0 ∧ (x.bytes.length : Int) ≤ 48 ∧ (x.fixups.length : Int) ≤ 6) && fixB many x.bytes.length 0 x.fixups)
def secSize (x : Sect) : Int := if x.kind = 3 then x.size else x.bytes.length
def symB (s : Sym) (l : List Sect) : Bool :=
 nameB s.name && decide (0 ≤ s.bind ∧ s.bind ≤ 2) &&
  (if s.wher = -1 then decide (s.value = 0 ∧ s.bind ≠ 0) else if s.wher = -2 then decide (0 ≤ s.value ∧ s.value ≤ 60000)
   else decide (0 ≤ s.wher ∧ s.wher ≤ (l.length : Int) - 1 ∧ 0 ≤ s.value ∧ s.value ≤ (match l[s.wher.toNat]? with | some x => secSize x | none => 0)))
def globIx (n : ByteArray) : List Sym → Int → Int
 | [], _ => -1
 | s :: l, k => if s.bind ≠ 0 ∧ s.name = n then k else globIx n l (k + 1)
def newSym (s : Sym) (pre : List Sym) : Bool := decide (s.bind = 0 ∨ ∀ t ∈ pre, ¬ (t.bind ≠ 0 ∧ t.name = s.name))
def symsB (sects : List Sect) : List Sym → List Sym → Bool
 | _, [] => true
 | pre, s :: l => symB s sects && newSym s pre && symsB sects (pre ++ [s]) l
def objB (o : Objt) : Bool :=
 decide ((o.sects.length : Int) ≤ 8 ∧ (o.syms.length : Int) ≤ 12) && o.sects.all (fun s => secB s o.syms.length) && symsB o.sects [] o.syms
def objsB (l : List Objt) : Bool := decide ((l.length : Int) ≤ 4) && l.all objB
theorem globIx_none {n : ByteArray} : ∀ {l : List Sym} {k : Int}, 0 ≤ k → ((globIx n l k < 0) ↔ ∀ t ∈ l, ¬ (t.bind ≠ 0 ∧ t.name = n)) := by
 intro l
 induction l with
 | nil => intro k _; simp [globIx]
 | cons s l ih =>
  intro k hk
  simp only [globIx]
  split
  ·rename_i h
   constructor
   ·intro h'; omega
   ·intro h'; exact absurd h (h' s (by simp))
  ·rename_i h
   rw [ih (by omega)]
   constructor
   ·intro h' t ht
    rcases List.mem_cons.1 ht with rfl | ht
    ·exact h
    ·exact h' t ht
   ·intro h' t ht; exact h' t (List.mem_cons_of_mem _ ht)
def ixF {α : Type} (p : α → Bool) : List α → Int → Int
 | [], _ => -1
 | x :: l, k => if p x = true then k else ixF p l (k + 1)
theorem ixF_any {α : Type} {p : α → Bool} : ∀ {l : List α} {k : Int}, 0 ≤ k → (0 ≤ ixF p l k ↔ l.any p = true) := by
 intro l
 induction l with
 | nil => intro k _; simp [ixF]
 | cons x l ih =>
  intro k hk
  by_cases h : p x = true
  ·simp [ixF, h, hk]
  ·simp only [ixF, if_neg h, List.any_cons, ih (show 0 ≤ k + 1 by omega)]
   simp [h]
theorem ixF_all {α : Type} {p : α → Bool} {l : List α} {k : Int} (hk : 0 ≤ k) : (0 ≤ ixF (fun x => !p x) l k ↔ l.all p = false) := by
 rw [ixF_any hk]
 induction l with
 | nil => simp
 | cons x l ih => cases h : p x <;> simp_all
theorem symsB_at {x : List Sect} {l : List Sym} {i : Int} {s : Sym} (hi : 0 ≤ i) (h : l[i.toNat]? = some s) : symsB x (l.take i.toNat) (l.drop i.toNat) = (symB s x && newSym s (l.take i.toNat) && symsB x (l.take (i + 1).toNat) (l.drop (i + 1).toNat)) := by
 rw [drop_get' h hi, toNat_succ hi, take_snoc h]; rfl
theorem symsB_end {x : List Sect} {l p : List Sym} {i : Int} (h : (l.length : Int) ≤ i) : symsB x p (l.drop i.toNat) = true := by rw [drop_end h]; rfl
theorem all_at {α : Type} {p : α → Bool} {l : List α} {i : Int} {x : α} (hi : 0 ≤ i) (h : l[i.toNat]? = some x) : (l.drop i.toNat).all p = (p x && (l.drop (i + 1).toNat).all p) := by
 rw [drop_get' h hi]; rfl
theorem all_end {α : Type} {p : α → Bool} {l : List α} {i : Int} (h : (l.length : Int) ≤ i) : (l.drop i.toNat).all p = true := by rw [drop_end h]; rfl
theorem newSym_glob {s : Sym} {l : List Sym} : newSym s l = decide (s.bind = 0 ∨ globIx s.name l 0 < 0) := by
 unfold newSym
 rw [Bool.eq_iff_iff, decide_eq_true_iff, decide_eq_true_iff, globIx_none (by omega)]
theorem newSym_next {s t : Sym} {l : List Sym} {j : Int} (hj : 0 ≤ j) (h : l[j.toNat]? = some t) : newSym s (l.take (j + 1).toNat) = (newSym s (l.take j.toNat) && decide (s.bind = 0 ∨ t.bind = 0 ∨ t.name ≠ s.name)) := by
 rw [toNat_succ hj, take_snoc h]
 unfold newSym
 rw [Bool.eq_iff_iff, Bool.and_eq_true, decide_eq_true_iff, decide_eq_true_iff, decide_eq_true_iff]
 simp only [List.mem_append, List.mem_singleton]
 constructor
 ·rintro (h | h)
  ·exact ⟨.inl h, .inl h⟩
  ·refine ⟨.inr fun u hu => h u (.inl hu), ?_⟩
   have := h t (.inr rfl)
   by_cases h1 : t.bind = 0
   ·exact .inr (.inl h1)
   ·exact .inr (.inr fun e => this ⟨h1, e⟩)
 ·rintro ⟨h | h, h'⟩
  ·exact .inl h
  ·rcases h' with h' | h'
   ·exact .inl h'
   ·refine .inr fun u hu => ?_
    rcases hu with hu | rfl
    ·exact h u hu
    ·rintro ⟨a, b⟩
     rcases h' with h' | h'
     ·exact a h'
     ·exact h' b
theorem newSym_zero {s : Sym} {l : List Sym} : newSym s (l.take (Int.toNat 0)) = true := by simp [newSym]
theorem newSym_take {s : Sym} {l : List Sym} {i j : Int} (hj : 0 ≤ j) (hij : j ≤ i) (h : newSym s (l.take j.toNat) = false) : newSym s (l.take i.toNat) = false := by
 cases hc : newSym s (l.take i.toNat) with
 | false => rfl
 | true =>
  have hm : newSym s (l.take j.toNat) = true := by
   unfold newSym at hc ⊢
   rw [decide_eq_true_iff] at hc ⊢
   rcases hc with hc | hc
   ·exact .inl hc
   ·refine .inr fun t ht => hc t ?_
    have e : l.take j.toNat = (l.take i.toNat).take j.toNat := by rw [List.take_take, Nat.min_eq_left (by omega)]
    rw [e] at ht
    exact List.mem_of_mem_take ht
  rw [h] at hm; cases hm
theorem newSym_bad {s t : Sym} {l : List Sym} {i j : Int} (hj : 0 ≤ j) (hij : j < i) (h : l[j.toNat]? = some t) (h1 : s.bind ≠ 0) (h2 : t.bind ≠ 0) (h3 : t.name = s.name) : newSym s (l.take i.toNat) = false := by
 refine newSym_take (j := j + 1) (by omega) (by omega) ?_
 rw [newSym_next hj h]
 simp [h1, h2, h3]
theorem lex_le {a a0 b b0 m : Nat} (h : a * m + b ≤ a0 * m + b0) (hb : b0 < m) : a ≤ a0 := by
 refine Classical.byContradiction fun hn => ?_
 have : (a0 + 1) * m ≤ a * m := Nat.mul_le_mul_right m (by omega)
 rw [Nat.succ_mul] at this
 omega
theorem take_app' {α : Type} {l : List α} {k : Int} {x : α} (hk : 0 ≤ k) (h : l[k.toNat]? = some x) : l.take k.toNat ++ [x] = l.take (k + 1).toNat := by rw [toNat_succ hk, take_snoc h]
theorem take_end' {α : Type} {l : List α} {k : Int} (h : (l.length : Int) ≤ k) : l.take k.toNat = l := List.take_of_length_le (by omega)
end Go.Proofs.YtpgglbnagphgoaaGreat
