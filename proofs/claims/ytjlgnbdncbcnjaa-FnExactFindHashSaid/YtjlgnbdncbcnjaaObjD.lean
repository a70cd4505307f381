/- Objects: what is valid, plain Lean. -/
import Derived.Test.YtjlgnbdncbcnjaaNames
import Derived.Test.YtjlgnbdncbcnjaaNum2
set_option linter.unusedVariables false
set_option linter.unusedSimpArgs false
namespace Go.Proofs.Ytjlgnbdncbcnjaa
open Go Go.RowKit

def nameCh (i : Nat) (c : Int) : Bool := decide ((97 ≤ c ∧ c ≤ 122) ∨ c = 95 ∨ c = 46 ∨ (0 < i ∧ 48 ≤ c ∧ c ≤ 57))
/-- All bytes from a place on are a name's. -/
def nameFrom (s : ByteArray) : Nat → Nat → Bool
  | _, 0 => true
  | k, n + 1 => nameCh k (strAt s k) && nameFrom s (k + 1) n
def nameB (s : ByteArray) : Bool := decide (1 ≤ (s.size : Int) ∧ (s.size : Int) ≤ 8) && nameFrom s 0 s.size
theorem nameFrom_step {s : ByteArray} {k n : Nat} (h : k < n) : nameFrom s k (n - k) = (nameCh k (strAt s k) && nameFrom s (k + 1) (n - (k + 1))) := by
  rw [show n - k = (n - (k + 1)) + 1 by omega]; rfl
theorem nameFrom_end {s : ByteArray} {k n : Nat} (h : n ≤ k) : nameFrom s k (n - k) = true := by
  rw [show n - k = 0 by omega]; rfl
def fixB (many blen : Int) : Int → List Fixup → Bool
  | _, [] => true
  | e, f :: l => decide (fixWide f.kind ≠ 0 ∧ 0 ≤ f.to ∧ f.to < many ∧ -1000 ≤ f.add ∧ f.add ≤ 1000 ∧ e ≤ f.at_ ∧ f.at_ ≤ blen - fixWide f.kind) && fixB many blen (f.at_ + fixWide f.kind) l
def secB (x : Sect) (many : Int) : Bool :=
  nameB x.name && decide (1 ≤ x.kind ∧ x.kind ≤ 3 ∧ (x.align = 1 ∨ x.align = 2 ∨ x.align = 4 ∨ x.align = 8)) &&
    (if x.kind = 3 then decide (0 ≤ x.size ∧ x.size ≤ 48 ∧ x.bytes = [] ∧ x.fixups = [])
     else decide (x.size = 0 ∧ (x.bytes.length : Int) ≤ 48 ∧ (x.fixups.length : Int) ≤ 6) && fixB many x.bytes.length 0 x.fixups)
def secSize (x : Sect) : Int := if x.kind = 3 then x.size else x.bytes.length
def symB (s : Sym) (l : List Sect) : Bool :=
  nameB s.name && decide (0 ≤ s.bind ∧ s.bind ≤ 2) &&
    (if s.wher = -1 then decide (s.value = 0 ∧ s.bind ≠ 0) else if s.wher = -2 then decide (0 ≤ s.value ∧ s.value ≤ 60000)
     else decide (0 ≤ s.wher ∧ s.wher ≤ (l.length : Int) - 1 ∧ 0 ≤ s.value ∧ s.value ≤ (match l[s.wher.toNat]? with | some x => secSize x | none => 0)))
/-- The first symbol with a name that is not local. -/
def globIx (n : ByteArray) : List Sym → Int → Int
  | [], _ => -1
  | s :: l, k => if s.bind ≠ 0 ∧ s.name = n then k else globIx n l (k + 1)
/-- No two that are not local have one name: each against those ahead of it. -/
def newSym (s : Sym) (pre : List Sym) : Bool := decide (s.bind = 0 ∨ ∀ t ∈ pre, ¬ (t.bind ≠ 0 ∧ t.name = s.name))
def symsB (sects : List Sect) : List Sym → List Sym → Bool
  | _, [] => true
  | pre, s :: l => symB s sects && newSym s pre && symsB sects (pre ++ [s]) l
def objB (o : Objt) : Bool :=
  decide ((o.sects.length : Int) ≤ 8 ∧ (o.syms.length : Int) ≤ 12) && o.sects.all (fun s => secB s o.syms.length) && symsB o.sects [] o.syms
def objsB (l : List Objt) : Bool := decide ((l.length : Int) ≤ 4) && l.all objB
theorem globIx_none {n : ByteArray} : ∀ {l : List Sym} {k : Int}, 0 ≤ k → ((globIx n l k < 0) ↔ ∀ t ∈ l, ¬ (t.bind ≠ 0 ∧ t.name = n)) := by
  intro l
  induction l with
  | nil => intro k _; simp [globIx]
  | cons s l ih =>
    intro k hk
    simp only [globIx]
    split
    · rename_i h
      constructor
      · intro h'; omega
      · intro h'; exact absurd h (h' s (by simp))
    · rename_i h
      rw [ih (by omega)]
      constructor
      · intro h' t ht
        rcases List.mem_cons.1 ht with rfl | ht
        · exact h
        · exact h' t ht
      · intro h' t ht; exact h' t (List.mem_cons_of_mem _ ht)
/-- The first that fulfils something. -/
def ixF {α : Type} (p : α → Bool) : List α → Int → Int
  | [], _ => -1
  | x :: l, k => if p x = true then k else ixF p l (k + 1)
theorem ixF_any {α : Type} {p : α → Bool} : ∀ {l : List α} {k : Int}, 0 ≤ k → (0 ≤ ixF p l k ↔ l.any p = true) := by
  intro l
  induction l with
  | nil => intro k _; simp [ixF]
  | cons x l ih =>
    intro k hk
    by_cases h : p x = true
    · simp [ixF, h, hk]
    · simp only [ixF, if_neg h, List.any_cons, ih (show 0 ≤ k + 1 by omega)]
      simp [h]
theorem ixF_all {α : Type} {p : α → Bool} {l : List α} {k : Int} (hk : 0 ≤ k) : (0 ≤ ixF (fun x => !p x) l k ↔ l.all p = false) := by
  rw [ixF_any hk]
  induction l with
  | nil => simp
  | cons x l ih => cases h : p x <;> simp_all
end Go.Proofs.Ytjlgnbdncbcnjaa
