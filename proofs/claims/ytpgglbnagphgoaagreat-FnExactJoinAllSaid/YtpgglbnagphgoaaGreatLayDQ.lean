/- Where sections are placed: plain Lean. -/
import Derived.Test.YtpgglbnagphgoaaGreatResEQ
set_option linter.unusedVariables false
set_option linter.unusedSimpArgs false
namespace Go.Proofs.YtpgglbnagphgoaaGreat
open Go Go.RowKit

def plS (c : Int) : List Sect → Int → Int
 | [], a => a
 | s :: l, a => plS c l (if s.kind = c then alg a s.align + secSize s else a)
def plO (c : Int) : List Objt → Int → Int
 | [], a => a
 | o :: l, a => plO c l (plS c o.sects a)
def atK (l : List Objt) (b : Int) : Nat → Int
 | 0 => b
 | n + 1 => plO (n + 1) l (alg (atK l b n) 8)
def begK (l : List Objt) (b c : Int) : Int := alg (atK l b (c - 1).toNat) 8
theorem objsB_all {l : List Objt} (h : objsB l = true) : l.all objB = true ∧ l.length ≤ 4 := by
 simp only [objsB, Bool.and_eq_true, decide_eq_true_eq] at h
 exact ⟨h.2, by omega⟩
def plc (l : List Objt) (b : Int) (k i : Nat) : Int :=
 match l[k]? with
 | none => 0
 | some o => match o.sects[i]? with
  | none => 0
  | some s => alg (plS s.kind (o.sects.take i) (plO s.kind (l.take k) (begK l b s.kind))) s.align
def places (l : List Objt) (b : Int) : List (List Int) := l.mapIdx fun k' o => o.sects.mapIdx fun i' _ => plc l b k' i'
def endsK (l : List Objt) (b : Int) : Nat → List (List Int)
 | 0 => []
 | n + 1 => endsK l b n ++ [[alg (atK l b n) 8, atK l b (n + 1)]]
def layOk (l : List Objt) (b : Int) : Bool := objsB l && decide (isBase b)
def layout (l : List Objt) (b : Int) : Layout := if layOk l b = true then ⟨places l b, endsK l b 3⟩ else ⟨[], []⟩
theorem some_of_lt {α : Type} {l : List α} {k : Int} (h0 : 0 ≤ k) (h : k < l.length) : ∃ x, l[k.toNat]? = some x := ⟨_, List.getElem?_eq_getElem (by omega)⟩
/-! What the walks ask, word by word. -/
end Go.Proofs.YtpgglbnagphgoaaGreat
