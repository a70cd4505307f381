/- Names that objects give, want, miss: plain Lean. -/
import Derived.Test.YtpgglbnagphgoaaObjDK
set_option linter.unusedVariables false
set_option linter.unusedSimpArgs false
namespace Go.Proofs.Ytpgglbnagphgoaa
open Go Go.RowKit

theorem ixF_spec {α : Type} {p : α → Bool} : ∀ {l : List α} {k : Int}, 0 ≤ k → (ixF p l k = -1 ∧ ∀ x ∈ l, p x = false) ∨ (∃ (i : Nat) (x : α), ixF p l k = k + i ∧ l[i]? = some x ∧ p x = true) := by
 intro l
 induction l with
 | nil => intro k _; left; exact ⟨rfl, fun x hx => by cases hx⟩
 | cons x l ih =>
  intro k hk
  by_cases h : p x = true
  ·right
   exact ⟨0, x, by simp [ixF, h], rfl, h⟩
  ·rcases ih (k := k + 1) (by omega) with ⟨h1, h2⟩ | ⟨i, y, h1, h2, h3⟩
   ·left
    refine ⟨by simp only [ixF, if_neg h]; exact h1, fun y hy => ?_⟩
    rcases List.mem_cons.1 hy with rfl | hy
    ·simpa using h
    ·exact h2 y hy
   ·right
    refine ⟨i + 1, y, by simp only [ixF, if_neg h]; rw [h1]; omega, by simpa using h2, h3⟩
def symP (p : Sym → Bool) (l : List Sym) : List ByteArray := (l.filter p).map Sym.name
theorem symP_next {p : Sym → Bool} {l : List Sym} {k : Int} {x : Sym} (hk : 0 ≤ k) (h : l[k.toNat]? = some x) : symP p (l.take (k + 1).toNat) = symP p (l.take k.toNat) ++ (if p x = true then [x.name] else []) := by
 rw [toNat_succ hk, take_snoc h]
 unfold symP
 rw [List.filter_append, List.map_append]
 congr 1
 cases hp : p x <;> simp [hp]
theorem symP_len {p : Sym → Bool} {l : List Sym} : (symP p l).length ≤ l.length := by
 unfold symP; rw [List.length_map]; exact List.length_filter_le _ _
theorem symP_tlen {p : Sym → Bool} {l : List Sym} {k : Nat} : (symP p (l.take k)).length ≤ l.length := by
 refine Nat.le_trans symP_len ?_
 rw [List.length_take]; omega
theorem mem_symP {p : Sym → Bool} {l : List Sym} {n : ByteArray} : n ∈ symP p l ↔ ∃ s ∈ l, p s = true ∧ s.name = n := by
 simp [symP, and_assoc]
def giveS (s : Sym) : Bool := decide (s.wher ≠ -1 ∧ s.bind ≠ 0)
def strongS (s : Sym) : Bool := decide (s.bind = 1 ∧ s.wher ≠ -1)
def namesG (o : Objt) : List ByteArray := if objB o = true then sortU (symP giveS o.syms) else []
def flt (p : Sym → Bool) (l : List Objt) : List ByteArray := l.flatMap fun o => symP p o.syms
theorem flt_next {p : Sym → Bool} {l : List Objt} {k : Int} {o : Objt} (hk : 0 ≤ k) (h : l[k.toNat]? = some o) : flt p (l.take (k + 1).toNat) = flt p (l.take k.toNat) ++ symP p o.syms := by
 rw [toNat_succ hk, take_snoc h]
 unfold flt
 rw [List.flatMap_append]
 simp
theorem flt_all {p : Sym → Bool} {l : List Objt} {k : Int} (h : (l.length : Int) ≤ k) : flt p (l.take k.toNat) = flt p l := by rw [List.take_of_length_le (by omega)]
theorem objB_lens {o : Objt} (h : objB o = true) : o.sects.length ≤ 8 ∧ o.syms.length ≤ 12 := by
 simp only [objB, Bool.and_eq_true, decide_eq_true_eq] at h
 omega
theorem flt_len {p : Sym → Bool} : ∀ {l : List Objt}, l.all objB = true → (flt p l).length ≤ 12 * l.length := by
 intro l
 induction l with
 | nil => intro _; simp [flt]
 | cons o l ih =>
  intro h
  simp only [List.all_cons, Bool.and_eq_true] at h
  have h1 := ih h.2
  have h2 := (objB_lens h.1).2
  have h3 := symP_len (p := p) (l := o.syms)
  simp only [flt, List.flatMap_cons, List.length_append, List.length_cons] at *
  omega
theorem flt_tlen {p : Sym → Bool} {l : List Objt} (h : l.all objB = true) (k : Nat) : (flt p (l.take k)).length ≤ 12 * l.length := by
 have := flt_len (p := p) (all_take h k)
 rw [List.length_take] at this
 omega

def bdS (n : ByteArray) (b : Int) (s : Sym) : Bool := decide (s.name = n ∧ s.bind = b ∧ s.wher ≠ -1)
def fbO (n : ByteArray) (b : Int) : List Objt → Int → Option Given
 | [], _ => none
 | o :: l, k => if 0 ≤ ixF (bdS n b) o.syms 0 then some ⟨k, ixF (bdS n b) o.syms 0⟩ else fbO n b l (k + 1)
def fnd (l : List Objt) (n : ByteArray) : Option Given := (fbO n 1 l 0).or (fbO n 2 l 0)
def GivenAt (l : List Objt) (n : ByteArray) (b : Int) (g : Given) : Prop := 0 ≤ g.in_ ∧ 0 ≤ g.at_ ∧ ∃ o s, l[g.in_.toNat]? = some o ∧ o.syms[g.at_.toNat]? = some s ∧ s.name = n ∧ s.bind = b ∧ s.wher ≠ -1
theorem fbO_some {n : ByteArray} {b : Int} : ∀ {l : List Objt} {k : Int} {g : Given}, 0 ≤ k → fbO n b l k = some g → k ≤ g.in_ ∧ 0 ≤ g.at_ ∧ ∃ o s, l[(g.in_ - k).toNat]? = some o ∧ o.syms[g.at_.toNat]? = some s ∧ s.name = n ∧ s.bind = b ∧ s.wher ≠ -1 := by
 intro l
 induction l with
 | nil => intro k g _ h; cases h
 | cons o l ih =>
  intro k g hk h
  simp only [fbO] at h
  split at h
  ·rename_i hp
   injection h with h
   subst h
   rcases ixF_spec (p := bdS n b) (l := o.syms) (k := 0) (by omega) with ⟨h1, _⟩ | ⟨i, s, h1, h2, h3⟩
   ·omega
   ·refine ⟨by simp, hp, o, s, by simp, ?_, ?_⟩
    ·rw [h1]; simpa using h2
    ·simpa [bdS] using h3
  ·obtain ⟨h1, h2, o', s, h3, h4⟩ := ih (by omega) h
   refine ⟨by omega, h2, o', s, ?_, h4⟩
   rw [show (g.in_ - k).toNat = (g.in_ - (k + 1)).toNat + 1 by omega]
   simpa using h3
theorem fbO_at {n : ByteArray} {b : Int} {l : List Objt} {g : Given} (h : fbO n b l 0 = some g) : GivenAt l n b g := by
 obtain ⟨h1, h2, o, s, h3, h4⟩ := fbO_some (by omega) h
 exact ⟨h1, h2, o, s, by simpa using h3, h4⟩
theorem fnd_some {l : List Objt} {n : ByteArray} {g : Given} (h : fnd l n = some g) : GivenAt l n 1 g ∨ GivenAt l n 2 g := by
 unfold fnd at h
 cases h1 : fbO n 1 l 0 with
 | some g' => rw [h1] at h; simp only [Option.some_or, Option.some.injEq] at h; subst h; exact .inl (fbO_at h1)
 | none => rw [h1] at h; simp only [Option.none_or] at h; exact .inr (fbO_at h)
/-! Names that are given twice. -/
instance decMem (x : ByteArray) (l : List ByteArray) : Decidable (x ∈ l) := decidable_of_iff (∃ y ∈ l, y = x) ⟨fun ⟨_, h, e⟩ => e ▸ h, fun h => ⟨x, h, rfl⟩⟩
def dups : List ByteArray → List ByteArray → List ByteArray
 | _, [] => []
 | met, x :: l => if x ∈ met then x :: dups (met ++ [x]) l else dups (met ++ [x]) l
theorem dups_app : ∀ (l met : List ByteArray) (x : ByteArray), dups met (l ++ [x]) = dups met l ++ (if x ∈ met ++ l then [x] else []) := by
 intro l
 induction l with
 | nil => intro met x; simp [dups]
 | cons y l ih =>
  intro met x
  simp only [List.cons_append, dups, ih]
  have e : (x ∈ met ++ [y] ++ l) = (x ∈ met ++ y :: l) := by simp
  simp only [e]
  split <;> split <;> simp
theorem dups_snoc (l : List ByteArray) (x : ByteArray) : dups [] (l ++ [x]) = dups [] l ++ (if x ∈ l then [x] else []) := by simpa using dups_app l [] x
theorem dups_len : ∀ (l met : List ByteArray), (dups met l).length ≤ l.length := by
 intro l
 induction l with
 | nil => intro met; simp [dups]
 | cons y l ih =>
  intro met
  simp only [dups]
  have := ih (met ++ [y])
  split <;> simp <;> omega
def nTw (l : List Objt) : List ByteArray := sortU (dups [] (flt strongS l))
def namesT (l : List Objt) : List ByteArray := if objsB l = true then nTw l else []
/-! Names that are missing. -/
def missS (l : List Objt) (s : Sym) : Bool := decide (s.bind = 1 ∧ s.wher = -1) && (fnd l s.name).isNone
def nMs (l : List Objt) : List ByteArray := sortU (flt (missS l) l)
def namesM (l : List Objt) : List ByteArray := if objsB l = true then nMs l else []
structure Gv where
 out : Given
 strong : Int
 found : Bool
def symsAt (l : List Objt) (k : Int) : List Sym := match l[k.toNat]? with | some o => o.syms | none => []
theorem symsAt_eq {l : List Objt} {k : Int} {o : Objt} (h : l[k.toNat]? = some o) : symsAt l k = o.syms := by simp [symsAt, h]
theorem symsAt_len {l : List Objt} (h : l.all objB = true) (k : Int) : (symsAt l k).length ≤ 12 := by
 unfold symsAt
 split
 ·rename_i o ho; exact (objB_lens (all_get h ho)).2
 ·simp
end Go.Proofs.Ytpgglbnagphgoaa
