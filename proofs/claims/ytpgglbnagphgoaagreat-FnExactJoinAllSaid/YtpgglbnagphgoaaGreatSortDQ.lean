/- Texts sorted, each once: the library's words and ours. Plain Lean. -/
import Derived.Test.YtpgglbnagphgoaaGreatNamesQ
import Derived.Lib.SlicesCompact
set_option linter.unusedVariables false
set_option linter.unusedSimpArgs false
namespace Go.Proofs.YtpgglbnagphgoaaGreat
open Go Go.RowKit

def unS (z : List UInt8) : ByteArray := ⟨z.toArray⟩
def lsS (s : ByteArray) : List UInt8 := s.data.toList
theorem unS_lsS (s : ByteArray) : unS (lsS s) = s := by cases s; simp [unS, lsS]
theorem lsS_unS (z : List UInt8) : lsS (unS z) = z := by simp [unS, lsS]
def sortB (l : List ByteArray) : List ByteArray := ((l.map lsS).mergeSort fun x y => decide (x ≤ y)).map unS
def compB (l : List ByteArray) : List ByteArray := (Lib.compact (l.map lsS)).map unS
theorem sortB_len (l : List ByteArray) : (sortB l).length = l.length := by simp [sortB]
theorem bl_lt : ∀ {a b : List UInt8}, Op.bytesLess a b = true ↔ a < b := by
 intro a
 induction a with
 | nil =>
  intro b
  cases b with
  | nil => simp [Op.bytesLess]
  | cons => simp [Op.bytesLess]
 | cons x a ih =>
  intro b
  cases b with
  | nil => simp [Op.bytesLess]
  | cons y b => rw [bl_cons, List.cons_lt_cons_iff, ih]
theorem lt_lsS {a b : ByteArray} : strLt a b = true ↔ lsS a < lsS b := by
 unfold strLt
 rw [ByteArray.toList_eq, ByteArray.toList_eq]
 exact bl_lt
theorem u8_le_total (x y : List UInt8) : (decide (x ≤ y) || decide (y ≤ x)) = true := by
 simp only [Bool.or_eq_true, decide_eq_true_eq]
 exact List.le_total x y
theorem u8_le_trans (x y z : List UInt8) : decide (x ≤ y) = true → decide (y ≤ z) = true → decide (x ≤ z) = true := by
 simp only [decide_eq_true_eq]
 exact fun h h' => List.le_trans h h'
theorem sort_pair (l : List (List UInt8)) : (l.mergeSort fun x y => decide (x ≤ y)).Pairwise (· ≤ ·) := by
 have := List.pairwise_mergeSort (le := fun x y : List UInt8 => decide (x ≤ y)) u8_le_trans u8_le_total l
 exact this.imp (fun h => by simpa using h)
theorem comp_asc {l : List (List UInt8)} (h : l.Pairwise (· ≤ ·)) : (Lib.compact l).Pairwise (· < ·) := by
 unfold Lib.compact Lib.compactUpTo
 rw [List.pairwise_map]
 refine List.Pairwise.imp_of_mem ?_ (List.Pairwise.filter _ List.pairwise_lt_range)
 intro i j hi hj hij
 simp only [List.mem_filter, List.mem_range] at hi hj
 have hk := hj.2
 simp only [Lib.keeps, decide_eq_true_eq] at hk
 have hne : l.toArray[j]! ≠ l.toArray[j - 1]! := by
  rcases hk with h0 | h0
  ·omega
  ·exact h0
 have hj1 : j < l.length := hj.1
 have hi1 : i < l.length := hi.1
 have e1 : l.toArray[j]! = l[j] := by simp [hj1]
 have e2 : l.toArray[j - 1]! = l[j - 1] := by simp [show j - 1 < l.length by omega]
 have e3 : l.toArray[i]! = l[i] := by simp [hi1]
 rw [e1, e2] at hne
 rw [e1, e3]
 have p1 : l[j - 1] ≤ l[j] := List.pairwise_iff_getElem.1 h (j - 1) j (by omega) hj1 (by omega)
 have p2 : l[i] ≤ l[j - 1] := by
  rcases Nat.lt_or_ge i (j - 1) with h' | h'
  ·exact List.pairwise_iff_getElem.1 h i (j - 1) hi1 (by omega) h'
  ·have : i = j - 1 := by omega
   subst this
   exact List.le_refl _
 have p3 : l[j - 1] < l[j] := by
  rcases List.le_iff_lt_or_eq.1 p1 with h' | h'
  ·exact h'
  ·exact absurd h'.symm hne
 exact List.lt_of_le_of_lt p2 p3
theorem comp_mem {l : List (List UInt8)} {x : List UInt8} : x ∈ Lib.compact l ↔ x ∈ l := by
 unfold Lib.compact Lib.compactUpTo
 simp only [List.mem_map, List.mem_filter, List.mem_range]
 constructor
 ·rintro ⟨i, ⟨hi, _⟩, rfl⟩
  simp [hi]
 ·intro hx
  obtain ⟨n, hn, e⟩ := List.getElem_of_mem hx
  have : ∀ n (hn : n < l.length), l[n] = x → ∃ i, (i < l.length ∧ Lib.keeps l.toArray i = true) ∧ l.toArray[i]! = x := by
   intro n
   induction n with
   | zero => intro hn e; exact ⟨0, ⟨hn, by simp [Lib.keeps]⟩, by simp [hn, e]⟩
   | succ n ih =>
    intro hn e
    by_cases h : l[n] = x
    ·exact ih (by omega) h
    ·refine ⟨n + 1, ⟨hn, ?_⟩, by simp [hn, e]⟩
     simp only [Lib.keeps, decide_eq_true_eq]
     right
     simp [hn, show n < l.length by omega, e]
     exact fun h' => h h'.symm
  exact this n hn e
theorem comp_sort (l : List ByteArray) : compB (sortB l) = sortU l := by
 refine asc_ext ?_ (sortU_asc l) fun x => ?_
 ·unfold compB Asc
  rw [List.pairwise_map]
  have e : (sortB l).map lsS = (l.map lsS).mergeSort fun x y => decide (x ≤ y) := by
   unfold sortB
   rw [List.map_map]
   conv => rhs; rw [← List.map_id (List.mergeSort _ _)]
   exact List.map_congr_left fun z _ => lsS_unS z
  rw [e]
  exact (comp_asc (sort_pair _)).imp fun h => lt_lsS.2 (by rw [lsS_unS, lsS_unS]; exact h)
 ·rw [mem_sortU]
  unfold compB
  rw [List.mem_map]
  constructor
  ·rintro ⟨z, hz, rfl⟩
   rw [comp_mem] at hz
   obtain ⟨y, hy, rfl⟩ := List.mem_map.1 hz
   rw [unS_lsS]
   unfold sortB at hy
   obtain ⟨w, hw, rfl⟩ := List.mem_map.1 hy
   rw [List.mem_mergeSort] at hw
   obtain ⟨s, hs, rfl⟩ := List.mem_map.1 hw
   rw [unS_lsS]
   exact hs
  ·intro hx
   refine ⟨lsS x, ?_, unS_lsS x⟩
   rw [comp_mem]
   refine List.mem_map.2 ⟨x, ?_, rfl⟩
   unfold sortB
   refine List.mem_map.2 ⟨lsS x, ?_, unS_lsS x⟩
   rw [List.mem_mergeSort]
   exact List.mem_map.2 ⟨x, hx, rfl⟩
end Go.Proofs.YtpgglbnagphgoaaGreat
