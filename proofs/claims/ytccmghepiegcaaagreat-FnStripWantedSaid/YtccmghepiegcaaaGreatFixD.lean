/- Fixups filled in: plain Lean. -/
import Derived.Test.YtccmghepiegcaaaGreatNum2
import Derived.Test.YtccmghepiegcaaaGreatLists
set_option linter.unusedVariables false
set_option linter.unusedSimpArgs false
namespace Go.Proofs.YtccmghepiegcaaaGreat
open Go Go.RowKit

/-- The first k bytes of x are put into b from a place on. -/
def fxFill (b : List Int) (a : Nat) (x : List Int) (k : Nat) : List Int := b.take a ++ x.take k ++ b.drop (a + k)
def fxOk (b : List Int) (p : Int) (f : Fixup) : Bool := decide (0 ≤ p ∧ p ≤ 100000 ∧ fixWide f.kind ≠ 0 ∧ 0 ≤ f.at_ ∧ f.at_ ≤ b.length - fixWide f.kind)
def fxVal (b : List Int) (p : Int) (f : Fixup) (t : Int) : Option Int := if fxOk b p f = true then fixVal f.kind (p + f.at_) t f.add else none
def fxApp (b : List Int) (p : Int) (f : Fixup) (t : Int) : List Int :=
  match fxVal b p f t with
  | some v => fxFill b f.at_.toNat (putN v (fixWide f.kind)) (fixWide f.kind).toNat
  | none => b
theorem fxFill_zero {b x : List Int} {a : Nat} : fxFill b a x 0 = b := by simp [fxFill]
theorem fxFill_len {b x : List Int} {a k : Nat} (h : a + k ≤ b.length) (hx : k ≤ x.length) : (fxFill b a x k).length = b.length := by
  simp [fxFill]; omega
theorem fxFill_set {b x : List Int} {a k : Nat} {y : Int} (h : a + k < b.length) (hx : x[k]? = some y) : (fxFill b a x k).set (a + k) y = fxFill b a x (k + 1) := by
  have hk : k < x.length := lt_of_some hx
  unfold fxFill
  rw [take_snoc hx]
  have e : (b.take a ++ x.take k).length = a + k := by simp; omega
  rw [List.set_append_right _ _ (by omega), e, Nat.sub_self, List.drop_eq_getElem_cons h, List.set_cons_zero]
  simp only [List.append_assoc, List.cons_append, List.nil_append]
  rfl
theorem fixWide_le (k : Int) : fixWide k = 0 ∨ fixWide k = 1 ∨ fixWide k = 2 ∨ fixWide k = 4 := by
  unfold fixWide
  split
  · omega
  · split
    · omega
    · split <;> omega
theorem digs_len : ∀ (k : Nat) (n : Int), (digs k n).length = k := by
  intro k
  induction k with
  | zero => intro n; rfl
  | succ k ih => intro n; simp [digs, ih]
theorem signed_near {x : Int} (h : -128 ≤ x) (h' : x ≤ 127) : signedOf (x % 256) 1 = x := by
  have e : putOk (x % 256) 1 = true := by simp [putOk]; omega
  simp only [signedOf, e, if_true]
  have : (256 : Int) ^ (1 : Int).toNat = 256 := rfl
  rw [this]
  split <;> omega
theorem putN_len {n w : Int} (h : putOk n w = true) : ((putN n w).length : Int) = w := by
  simp only [putN, h, if_true, digs_len]
  simp [putOk] at h
  omega
theorem fix_law {k p t a : Int} (hb : 0 ≤ k ∧ k ≤ 4 ∧ -1 ≤ p ∧ p ≤ 100001 ∧ -200 ≤ t ∧ t ≤ 200000 ∧ -1000 ≤ a ∧ a ≤ 1001) : (fixVal k p t a = none) ∨ (∃ n, fixVal k p t a = some n ∧ (k = 1 → p + 1 + signedOf n 1 = t + a) ∧ (k ≠ 1 → n = t + a ∧ ((putN n (fixWide k)).length : Int) = fixWide k)) := by
  unfold fixVal
  split
  · split
    · split
      · refine .inr ⟨_, rfl, fun _ => ?_, fun h => absurd ‹_› h⟩
        rw [signed_near (by omega) (by omega)]
        omega
      · exact .inl rfl
    · split
      · subst_vars
        split
        · refine .inr ⟨_, rfl, fun h => by omega, fun _ => ⟨rfl, putN_len ?_⟩⟩
          have : (256 : Int) ^ (2 : Int).toNat = 65536 := rfl
          simp [putOk, fixWide]
          omega
        · exact .inl rfl
      · split
        · subst_vars
          split
          · refine .inr ⟨_, rfl, fun h => by omega, fun _ => ⟨rfl, putN_len ?_⟩⟩
            have : (256 : Int) ^ (4 : Int).toNat = 4294967296 := rfl
            simp [putOk, fixWide]
            omega
          · exact .inl rfl
        · exact .inl rfl
  · exact .inl rfl
theorem fixVal_ok {k p t a v : Int} (h : fixVal k p t a = some v) : putOk v (fixWide k) = true := by
  have h256 : (256 : Int) ^ (1 : Int).toNat = 256 := rfl
  have h65 : (256 : Int) ^ (2 : Int).toNat = 65536 := rfl
  have h42 : (256 : Int) ^ (4 : Int).toNat = 4294967296 := rfl
  unfold fixVal at h
  split at h
  · rename_i hc
    split at h
    · split at h
      · injection h with h
        subst_vars
        simp [putOk, fixWide]
        omega
      · cases h
    · split at h
      · subst_vars
        split at h
        · injection h with h
          subst h
          simp [putOk, fixWide]
          omega
        · cases h
      · split at h
        · subst_vars
          split at h
          · injection h with h
            subst h
            simp [putOk, fixWide]
            omega
          · cases h
        · cases h
  · cases h
theorem undigs_digs : ∀ (k : Nat) (n : Int), 0 ≤ n → n < 256 ^ k → undigs (digs k n) = n := by
  intro k
  induction k with
  | zero => intro n h h'; simp at h'; simp [digs, undigs]; omega
  | succ k ih =>
    intro n h h'
    rw [Int.pow_succ] at h'
    simp only [digs, undigs]
    rw [ih (n / 256) (by omega) (by omega)]
    omega
theorem fxApp_some {b : List Int} {p : Int} {f : Fixup} {t v : Int} (h : fxVal b p f t = some v) : fxApp b p f t = fxFill b f.at_.toNat (putN v (fixWide f.kind)) (fixWide f.kind).toNat ∧ 0 ≤ f.at_ ∧ f.at_ + fixWide f.kind ≤ b.length ∧ 1 ≤ fixWide f.kind ∧ fixWide f.kind ≤ 4 ∧ (putN v (fixWide f.kind)).length = (fixWide f.kind).toNat ∧ putOk v (fixWide f.kind) = true ∧ fixVal f.kind (p + f.at_) t f.add = some v ∧ 0 ≤ p ∧ p ≤ 100000 := by
  have e : fxApp b p f t = fxFill b f.at_.toNat (putN v (fixWide f.kind)) (fixWide f.kind).toNat := by rw [fxApp, h]
  unfold fxVal at h
  split at h
  · rename_i hok
    simp only [fxOk, decide_eq_true_eq] at hok
    have hp := fixVal_ok h
    have hl := putN_len hp
    have hw := fixWide_le f.kind
    refine ⟨e, by omega, by omega, by omega, by omega, by omega, hp, h, by omega, by omega⟩
  · cases h
theorem fxApp_none {b : List Int} {p : Int} {f : Fixup} {t : Int} (h : fxVal b p f t = none) : fxApp b p f t = b := by rw [fxApp, h]
theorem fxApp_len {b : List Int} {p : Int} {f : Fixup} {t : Int} : (fxApp b p f t).length = b.length := by
  cases h : fxVal b p f t with
  | none => rw [fxApp_none h]
  | some v =>
    obtain ⟨e, h1, h2, h3, h4, h5, _⟩ := fxApp_some h
    rw [e, fxFill_len (by omega) (by omega)]
theorem fxApp_get {b : List Int} {p : Int} {f : Fixup} {t v : Int} {k : Int} (h : fxVal b p f t = some v) (hk : 0 ≤ k) (ho : k < f.at_ ∨ f.at_ + fixWide f.kind ≤ k) : (fxApp b p f t)[k.toNat]? = b[k.toNat]? := by
  obtain ⟨e, h1, h2, h3, h4, h5, _⟩ := fxApp_some h
  rw [e]
  unfold fxFill
  rcases ho with ho | ho
  · rw [List.append_assoc, List.getElem?_append_left (by simp; omega), List.getElem?_take, if_pos (by omega)]
  · have e1 : (b.take f.at_.toNat ++ (putN v (fixWide f.kind)).take (fixWide f.kind).toNat).length = f.at_.toNat + (fixWide f.kind).toNat := by simp; omega
    rw [List.getElem?_append_right (by omega), e1, List.getElem?_drop]
    congr 1
    omega
theorem fxApp_num {b : List Int} {p : Int} {f : Fixup} {t v : Int} (h : fxVal b p f t = some v) : getN (fxApp b p f t) f.at_ (fixWide f.kind) = v := by
  obtain ⟨e, h1, h2, h3, h4, h5, h6, _⟩ := fxApp_some h
  have hl : ((fxApp b p f t).length : Int) = b.length := by rw [fxApp_len]
  have hg : getOk (fxApp b p f t) f.at_ (fixWide f.kind) = true := by simp only [getOk, decide_eq_true_eq]; omega
  rw [getN, if_pos hg, e]
  have e1 : ((fxFill b f.at_.toNat (putN v (fixWide f.kind)) (fixWide f.kind).toNat).drop f.at_.toNat).take (fixWide f.kind).toNat = putN v (fixWide f.kind) := by
    unfold fxFill
    rw [List.append_assoc, List.drop_append_of_le_length (by simp; omega), List.drop_eq_nil_of_le (by simp; omega), List.nil_append, List.take_append_of_le_length (by simp; omega), List.take_take, List.take_of_length_le (by omega)]
  rw [e1, putN, if_pos h6]
  simp only [putOk, decide_eq_true_eq] at h6
  exact undigs_digs _ _ h6.2.2.1 h6.2.2.2
theorem fxVal_eq (b : List Int) (p : Int) (f : Fixup) (t : Int) : (fxOk b p f = true → fxVal b p f t = fixVal f.kind (p + f.at_) t f.add) ∧ (fxOk b p f = false → fxVal b p f t = none) := by
  constructor
  · intro h; rw [fxVal, if_pos h]
  · intro h; rw [fxVal, if_neg (by simp [h])]
theorem fxApp_copy {b : List Int} {p : Int} {f : Fixup} {t v : Int} (h : fxVal b p f t = some v) : b.take f.at_.toNat ++ (putN v (fixWide f.kind)).take (b.length - f.at_.toNat) ++ b.drop (f.at_.toNat + min (putN v (fixWide f.kind)).length (b.length - f.at_.toNat)) = fxApp b p f t := by
  obtain ⟨e, h1, h2, h3, h4, h5, _⟩ := fxApp_some h
  rw [e]
  unfold fxFill
  rw [h5, Nat.min_eq_left (by omega), List.take_of_length_le (l := putN v (fixWide f.kind)) (i := b.length - f.at_.toNat) (by omega), List.take_of_length_le (l := putN v (fixWide f.kind)) (i := (fixWide f.kind).toNat) (by omega)]
theorem fxFill_set' {b x : List Int} {a k : Int} {y : Int} (ha : 0 ≤ a) (hk : 0 ≤ k) (h : a + k < b.length) (hx : x[k.toNat]? = some y) : (fxFill b a.toNat x k.toNat).set (a + k).toNat y = fxFill b a.toNat x (k + 1).toNat := by
  rw [show (a + k).toNat = a.toNat + k.toNat by omega, show (k + 1).toNat = k.toNat + 1 by omega]
  exact fxFill_set (by omega) hx
end Go.Proofs.YtccmghepiegcaaaGreat
