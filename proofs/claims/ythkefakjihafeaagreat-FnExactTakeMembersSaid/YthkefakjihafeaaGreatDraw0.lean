/- The readers that the laws draw their data with. -/
import Derived.Test.YthkefakjihafeaaGreatNum2
set_option linter.unusedVariables false
set_option linter.unusedSimpArgs false
namespace Go.Proofs.YthkefakjihafeaaGreat
open Go Go.RowKit


def pickF (b : List Int) (p n : Int) : Int :=
  if n < 1 ∨ b = [] then 0
  else if p < b.length then b.getD p.toNat 0 % n
  else
    let x := b.getD (p % b.length).toNat 0 * 131 + b.getD ((p * 7 + 3) % b.length).toNat 0 * 1117 + p * 29 + p / b.length * 53
    bitI .xor .i64 x (x / 64) % n
theorem pickF_bd (b : List Int) (p n : Int) : 0 ≤ pickF b p n ∧ (0 < n → pickF b p n < n) ∧ (n ≤ 0 → pickF b p n = 0) := by
  unfold pickF
  split
  · omega
  · split
    · exact ⟨Int.emod_nonneg _ (by omega), fun h => Int.emod_lt_of_pos _ h, by omega⟩
    · exact ⟨Int.emod_nonneg _ (by omega), fun h => Int.emod_lt_of_pos _ h, by omega⟩
theorem xor_bd {x y : Int} (hx : 0 ≤ x) (hx' : x < 9223372036854775808) (hy : 0 ≤ y) (hy' : y < 9223372036854775808) : 0 ≤ bitI .xor .i64 x y ∧ bitI .xor .i64 x y < 9223372036854775808 := by
  have h : (BitVec.ofInt 64 x ^^^ BitVec.ofInt 64 y).toNat < 2 ^ 63 := by
    rw [BitVec.toNat_xor]
    refine Nat.xor_lt_two_pow ?_ ?_
    · rw [BitVec.toNat_ofInt]; omega
    · rw [BitVec.toNat_ofInt]; omega
  have e : bitI .xor .i64 x y = IntKind.wrap .i64 ((BitVec.ofInt 64 x ^^^ BitVec.ofInt 64 y).toNat : Int) := rfl
  rw [e]
  generalize (BitVec.ofInt 64 x ^^^ BitVec.ofInt 64 y).toNat = m at h
  have h2 : (m : Int) < 9223372036854775808 := by have : (2 : Nat) ^ 63 = 9223372036854775808 := by decide
                                                  omega
  have : IntKind.wrap .i64 (m : Int) = m := by
    simp [IntKind.wrap, IntKind.signed, IntKind.bits]
    omega
  rw [this]
  omega
theorem getD_some {l : List Int} {k : Nat} {x : Int} (h : l[k]? = some x) : l.getD k 0 = x := by simp [List.getD, h]

end Go.Proofs.YthkefakjihafeaaGreat
