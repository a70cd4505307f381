/- Numbers in bytes, values of fixups: both packages keep the same contracts. -/
import Derived.Test.YthkefakjihafeaaNum1
set_option linter.unusedVariables false
set_option linter.unusedSimpArgs false
namespace Go.Proofs.Ythkefakjihafeaa
open Go Go.RowKit


def digs : Nat → Int → List Int
  | 0, _ => []
  | k + 1, n => n % 256 :: digs k (n / 256)
def putOk (n w : Int) : Bool := decide (1 ≤ w ∧ w ≤ 4 ∧ 0 ≤ n ∧ n < 256 ^ w.toNat)
def putN (n w : Int) : List Int := if putOk n w then digs w.toNat n else []
def getOk (l : List Int) (at_ w : Int) : Bool := decide (1 ≤ w ∧ w ≤ 4 ∧ 0 ≤ at_ ∧ at_ ≤ l.length - w)
def undigs : List Int → Int
  | [] => 0
  | x :: l => x + 256 * undigs l
def getN (l : List Int) (at_ w : Int) : Int := if getOk l at_ w then undigs ((l.drop at_.toNat).take w.toNat) else -1
def signedOf (n w : Int) : Int := if putOk n w then (if n < 256 ^ w.toNat / 2 then n else n - 256 ^ w.toNat) else 0
def fixVal (k p t a : Int) : Option Int :=
  if 0 ≤ p ∧ p ≤ 100000 ∧ 0 ≤ t ∧ t ≤ 100000 ∧ -1000 ≤ a ∧ a ≤ 1000 then
    if k = 1 then (if -128 ≤ t + a - p - 1 ∧ t + a - p - 1 ≤ 127 then some ((t + a - p - 1) % 256) else none)
    else if k = 2 then (if 0 ≤ t + a ∧ t + a ≤ 65535 then some (t + a) else none)
    else if k = 3 then (if 0 ≤ t + a then some (t + a) else none)
    else none
  else none
/-- A number that may be missing. -/
def optI (o : Option Int) : SR := .ret { val := .tup [(false, [.c (ci (o.getD 0))]), (false, [.c (cb o.isSome)])] }

theorem undigs_drop (l : List Int) (k : Nat) (x : Int) (h : l[k]? = some x) : undigs (l.drop k) = x + 256 * undigs (l.drop (k + 1)) := by
  have hk : k < l.length := (List.getElem?_eq_some_iff.1 h).1
  rw [List.drop_eq_getElem_cons hk]
  have : l[k] = x := (List.getElem?_eq_some_iff.1 h).2
  simp [undigs, this]
theorem digs_step {w k m : Int} (h : k < w) : digs (w - k).toNat m = m % 256 :: digs (w - (k + 1)).toNat (m / 256) := by
  rw [show (w - k).toNat = (w - (k + 1)).toNat + 1 by omega]; rfl
theorem digs_done {w k m : Int} (h : w ≤ k) : digs (w - k).toNat m = [] := by
  rw [show (w - k).toNat = 0 by omega]; rfl
theorem undigs_step {l : List Int} {a k w x : Int} (ha : 0 ≤ a) (hk : 0 ≤ k) (hw : k < w) (h : l[(a + k).toNat]? = some x) :
    undigs (((l.drop a.toNat).take w.toNat).drop k.toNat) = x + 256 * undigs (((l.drop a.toNat).take w.toNat).drop (k + 1).toNat) := by
  rw [show (k + 1).toNat = k.toNat + 1 by omega]
  refine undigs_drop _ _ _ ?_
  rw [List.getElem?_take, if_pos (by omega), List.getElem?_drop, ← h]
  congr 1
  omega
theorem undigs_done {l : List Int} {a w : Int} : undigs (((l.drop a.toNat).take w.toNat).drop w.toNat) = 0 := by
  rw [List.drop_eq_nil_of_le (by rw [List.length_take]; omega)]; rfl
theorem pow_step {w k : Int} (h : 0 ≤ k) (h' : k < w) : (256 : Int) ^ (w - 1 - (k - 1)).toNat = 256 ^ (w - 1 - k).toNat * 256 := by
  rw [show (w - 1 - (k - 1)).toNat = (w - 1 - k).toNat + 1 by omega, Int.pow_succ]
theorem pow_bd {w k : Int} (h : 0 ≤ k) (h' : w ≤ 4) : (256 : Int) ^ (w - 1 - k).toNat ≤ 16777216 := by
  have : (w - 1 - k).toNat ≤ 3 := by omega
  generalize (w - 1 - k).toNat = n at this
  have : n = 0 ∨ n = 1 ∨ n = 2 ∨ n = 3 := by omega
  rcases this with rfl | rfl | rfl | rfl <;> decide
theorem ok_u8 {x : Int} (h : Ok (.int .u8) x) : 0 ≤ x ∧ x ≤ 255 := h
theorem ok_i64 {x : Int} (h : Ok (.int .i64) x) : -9223372036854775808 ≤ x ∧ x ≤ 9223372036854775807 := h
theorem w14 {w : Int} (h : 1 ≤ w) (h' : w ≤ 4) : w = 1 ∨ w = 2 ∨ w = 3 ∨ w = 4 := by omega
theorem pow8 {w : Int} (h : 1 ≤ w) (h' : w ≤ 4) : (2 : Int) ^ (8 * w).toNat = 256 ^ w.toNat := by
  rcases w14 h h' with rfl | rfl | rfl | rfl <;> rfl
theorem pow_le4 {w : Int} (h : 1 ≤ w) (h' : w ≤ 4) : (256 : Int) ^ w.toNat ≤ 4294967296 ∧ 256 ≤ (256 : Int) ^ w.toNat := by
  rcases w14 h h' with rfl | rfl | rfl | rfl <;> decide

theorem and255 {x : Int} (h : -128 ≤ x) (h' : x ≤ 127) : bitI .and .i64 x 255 = x % 256 := by
  have key : ∀ i : Fin 256, bitI .and .i64 ((i.val : Int) - 128) 255 = ((i.val : Int) - 128) % 256 := by decide +kernel
  have := key ⟨(x + 128).toNat, by omega⟩
  rwa [show (((⟨(x + 128).toNat, by omega⟩ : Fin 256).val : Int)) - 128 = x by show ((x + 128).toNat : Int) - 128 = x; omega] at this
theorem half8 {w : Int} (h : 1 ≤ w) (h' : w ≤ 4) : (256 : Int) ^ w.toNat / 2 = 2 ^ (8 * w - 1).toNat ∧ (2 : Int) ^ (8 * w - 1).toNat ≤ 2147483648 ∧ 128 ≤ (2 : Int) ^ (8 * w - 1).toNat := by
  rcases w14 h h' with rfl | rfl | rfl | rfl <;> decide
end Go.Proofs.Ythkefakjihafeaa
