/- Hash tables: plain Lean. -/
import Derived.Test.YtjlgnbdncbcnjaaObjD
import Derived.Test.YtjlgnbdncbcnjaaNum1
set_option linter.unusedVariables false
set_option linter.unusedSimpArgs false
namespace Go.Proofs.Ytjlgnbdncbcnjaa
open Go Go.RowKit

/-- The first name of a bucket, from a place on. -/
def nxt (b j : Int) : List ByteArray → Int → Int
  | [], _ => -1
  | s :: l, k => if hashOf s % b = j then k else nxt b j l (k + 1)
/-- The first names of the buckets. -/
def firstL (b : Int) (l : List ByteArray) (k : Int) : List Int := (List.range b.toNat).map fun j : Nat => nxt b (j : Int) l k
def nextL (b : Int) : List ByteArray → Int → List Int
  | [], _ => []
  | s :: l, k => nxt b (hashOf s % b) l (k + 1) :: nextL b l (k + 1)
def hashOk (l : List ByteArray) (b : Int) : Bool := decide ((l.length : Int) ≤ 40 ∧ 1 ≤ b ∧ b ≤ 8) && (l.all nameB && decide l.Nodup)
def mkHash (l : List ByteArray) (b : Int) : HashT := if hashOk l b = true then ⟨l, firstL b l 0, nextL b l 0⟩ else ⟨[], [], []⟩
def hashB (t : HashT) : Bool := decide (0 < t.first.length) && (hashOk t.names t.first.length && (decide (firstL t.first.length t.names 0 = t.first) && decide (nextL t.first.length t.names 0 = t.next)))
theorem nextL_len (b : Int) : ∀ (l : List ByteArray) (k : Int), (nextL b l k).length = l.length := by
  intro l
  induction l with
  | nil => intro k; rfl
  | cons s l ih => intro k; simp [nextL, ih]
theorem firstL_len (b : Int) (l : List ByteArray) (k : Int) : (firstL b l k).length = b.toNat := by simp [firstL]
theorem firstL_get {b : Int} {l : List ByteArray} {k : Int} {j : Nat} (h : j < b.toNat) : (firstL b l k)[j]? = some (nxt b j l k) := by
  simp [firstL, h]
theorem nextL_get {b : Int} : ∀ {l : List ByteArray} {k : Int} {i : Nat} {s : ByteArray}, l[i]? = some s → (nextL b l k)[i]? = some (nxt b (hashOf s % b) (l.drop (i + 1)) (k + i + 1)) := by
  intro l
  induction l with
  | nil => intro k i s h; simp at h
  | cons x l ih =>
    intro k i s h
    cases i with
    | zero =>
      simp only [List.getElem?_cons_zero, Option.some.injEq] at h
      subst h
      simp [nextL]
    | succ i =>
      simp only [List.getElem?_cons_succ] at h
      simp only [nextL, List.getElem?_cons_succ, ih h, List.drop_succ_cons]
      congr 2
      omega
/-- The tables while they are filled, from the end on: names from i on are in. -/
def fillN (b : Int) (l : List ByteArray) (i : Nat) : List Int := List.replicate i (-1) ++ nextL b (l.drop i) i
def fillF (b : Int) (l : List ByteArray) (i : Nat) : List Int := firstL b (l.drop i) i
theorem fillN_len {b : Int} {l : List ByteArray} {i : Nat} (h : i ≤ l.length) : (fillN b l i).length = l.length := by
  simp [fillN, nextL_len]; omega
theorem fillF_len {b : Int} {l : List ByteArray} {i : Nat} : (fillF b l i).length = b.toNat := firstL_len _ _ _
theorem fillN_end {b : Int} {l : List ByteArray} : fillN b l l.length = List.replicate l.length (-1) := by
  simp [fillN, nextL]
theorem fillF_end {b : Int} {l : List ByteArray} : fillF b l l.length = List.replicate b.toNat (-1) := by
  simp only [fillF, firstL, List.drop_length]
  apply List.ext_getElem?
  intro j
  simp only [List.getElem?_map, List.getElem?_replicate, nxt]
  by_cases h : j < b.toNat
  · simp [h]
  · simp [h]
theorem fillN_zero {b : Int} {l : List ByteArray} : fillN b l 0 = nextL b l 0 := by simp [fillN]
theorem fillF_zero {b : Int} {l : List ByteArray} : fillF b l 0 = firstL b l 0 := by simp [fillF]
theorem set_rep {α : Type} {x y : α} {i : Nat} {r : List α} : (List.replicate (i + 1) x ++ r).set i y = List.replicate i x ++ y :: r := by
  induction i with
  | zero => rfl
  | succ i ih => rw [List.replicate_succ, List.cons_append, List.set_cons_succ, ih]; rfl
theorem fillN_set {b : Int} {l : List ByteArray} {i : Nat} {s : ByteArray} {x : Int} (h : l[i]? = some s) (hx : (fillF b l (i + 1))[(hashOf s % b).toNat]? = some x) (hb : 0 < b) : (fillN b l (i + 1)).set i x = fillN b l i := by
  have h0 := Int.emod_nonneg (hashOf s) (show b ≠ 0 by omega)
  have h1 := Int.emod_lt_of_pos (hashOf s) hb
  rw [fillF, firstL_get (by omega)] at hx
  injection hx with hx
  unfold fillN
  rw [set_rep, drop_get h]
  simp only [nextL]
  rw [← hx, Int.toNat_of_nonneg h0]
  rfl
theorem fillF_set {b : Int} {l : List ByteArray} {i : Nat} {s : ByteArray} (h : l[i]? = some s) (hb : 0 < b) : (fillF b l (i + 1)).set (hashOf s % b).toNat (i : Int) = fillF b l i := by
  have h0 := Int.emod_nonneg (hashOf s) (show b ≠ 0 by omega)
  have h1 := Int.emod_lt_of_pos (hashOf s) hb
  unfold fillF
  rw [drop_get h]
  apply List.ext_getElem?
  intro j
  by_cases hj : j < b.toNat
  · by_cases e : (hashOf s % b).toNat = j
    · subst e
      rw [List.getElem?_set_self (by rw [firstL_len]; exact hj), firstL_get hj]
      simp only [nxt]
      rw [if_pos (by omega)]
    · rw [List.getElem?_set_ne e, firstL_get hj, firstL_get hj]
      simp only [nxt]
      rw [if_neg (by omega)]
      rfl
  · rw [List.getElem?_eq_none (by rw [List.length_set, firstL_len]; omega), List.getElem?_eq_none (by rw [firstL_len]; omega)]
/-- The walk along a bucket from number k on: how many are compared; which is found. -/
def walkH (b j : Int) (name : ByteArray) : List ByteArray → Int → Int × Int
  | [], _ => (-1, 0)
  | s :: l, k => if hashOf s % b = j then (if s = name then (k, 1) else let r := walkH b j name l (k + 1); (r.1, r.2 + 1)) else walkH b j name l (k + 1)
def findH (t : HashT) (name : ByteArray) : Int × Int := if hashB t = true then walkH t.first.length (hashOf name % t.first.length) name t.names 0 else (-1, 0)
theorem nxt_bd {b j : Int} : ∀ {l : List ByteArray} {k : Int}, 0 ≤ k → (nxt b j l k = -1 ∨ (k ≤ nxt b j l k ∧ nxt b j l k < k + l.length)) := by
  intro l
  induction l with
  | nil => intro k _; exact .inl rfl
  | cons s l ih =>
    intro k hk
    simp only [nxt]
    split
    · right; simp; omega
    · rcases ih (k := k + 1) (by omega) with h | h
      · exact .inl h
      · right; simp; omega
theorem walkH_none {b j : Int} {name : ByteArray} : ∀ {l : List ByteArray} {k : Int}, 0 ≤ k → nxt b j l k = -1 → walkH b j name l k = (-1, 0) := by
  intro l
  induction l with
  | nil => intro k _ _; rfl
  | cons s l ih =>
    intro k hk h
    simp only [nxt] at h
    split at h
    · omega
    · rename_i hs
      simp only [walkH, if_neg hs]
      exact ih (by omega) h
theorem walkH_some {b j : Int} {name : ByteArray} : ∀ {l : List ByteArray} {k m : Int}, 0 ≤ k → nxt b j l k = m → 0 ≤ m → ∃ s, l[(m - k).toNat]? = some s ∧ k ≤ m ∧ hashOf s % b = j ∧
    walkH b j name l k = (if s = name then (m, 1) else ((walkH b j name (l.drop ((m - k).toNat + 1)) (m + 1)).1, (walkH b j name (l.drop ((m - k).toNat + 1)) (m + 1)).2 + 1)) := by
  intro l
  induction l with
  | nil => intro k m _ h h'; simp [nxt] at h; omega
  | cons s l ih =>
    intro k m hk h hm
    simp only [nxt] at h
    split at h
    · rename_i hs
      subst h
      refine ⟨s, by simp, by omega, hs, ?_⟩
      simp only [walkH, if_pos hs, Int.sub_self, Int.toNat_zero, Nat.zero_add, List.drop_succ_cons, List.drop_zero]
    · rename_i hs
      have hb := nxt_bd (b := b) (j := j) (l := l) (k := k + 1) (by omega)
      have e : (m - k).toNat = (m - (k + 1)).toNat + 1 := by omega
      obtain ⟨x, h1, h2, h3, h4⟩ := ih (by omega) h hm
      refine ⟨x, by rw [e]; exact h1, by omega, h3, ?_⟩
      simp only [walkH, if_neg hs]
      rw [h4, e, List.drop_succ_cons]
end Go.Proofs.Ytjlgnbdncbcnjaa
