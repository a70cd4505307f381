/- Fixups filled in: plain Lean. -/
import Derived.Test.YtpgglbnagphgoaaGreatNum2S
import Derived.Test.YtpgglbnagphgoaaGreatListsS
set_option linter.unusedVariables false
set_option linter.unusedSimpArgs false
namespace Go.Proofs.YtpgglbnagphgoaaGreat
open Go Go.RowKit

def fxFill (b : List Int) (a : Nat) (x : List Int) (k : Nat) : List Int := b.take a ++ x.take k ++ b.drop (a + k)
def fxOk (b : List Int) (p : Int) (f : Fixup) : Bool := decide (0 ≤ p ∧ p ≤ 100000 ∧ fixWide f.kind ≠ 0 ∧ 0 ≤ f.at_ ∧ f.at_ ≤ b.length - fixWide f.kind)
def fxVal (b : List Int) (p : Int) (f : Fixup) (t : Int) : Option Int := if fxOk b p f = true then fixVal f.kind (p + f.at_) t f.add else none
def fxApp (b : List Int) (p : Int) (f : Fixup) (t : Int) : List Int :=
 match fxVal b p f t with
 | some v => fxFill b f.at_.toNat (putN v (fixWide f.kind)) (fixWide f.kind).toNat
 | none => b
theorem fxFill_zero {b x : List Int} {a : Nat} : fxFill b a x 0 = b := by simp [fxFill]
theorem fxFill_len {b x : List Int} {a k : Nat} (h : a + k ≤ b.length) (hx : k ≤ x.length) : (fxFill b a x k).length = b.length := by
 simp [fxFill]; omega
theorem fxFill_set {b x : List Int} {a k : Nat} {y : Int} (h : a + k < b.length) (hx : x[k]? = some y) : (fxFill b a x k).set (a + k) y = fxFill b a x (k + 1) := by
 have hk : k < x.length := lt_of_some hx
 unfold fxFill
 rw [take_snoc hx]
 have e : (b.take a ++ x.take k).length = a + k := by simp; omega
 rw [List.set_append_right _ _ (by omega), e, Nat.sub_self, List.drop_eq_getElem_cons h, List.set_cons_zero]
 simp only [List.append_assoc, List.cons_append, List.nil_append]
 rfl
theorem fixWide_le (k : Int) : fixWide k = 0 ∨ fixWide k = 1 ∨ fixWide k = 2 ∨ fixWide k = 4 := by
 unfold fixWide
 split
 ·omega
 ·split
  ·omega
  ·split <;> omega
theorem digs_len : ∀ (k : Nat) (n : Int), (digs k n).length = k := by
 intro k
 induction k with
 | zero => intro n; rfl
 | succ k ih => intro n; simp [digs, ih]
theorem putN_len {n w : Int} (h : putOk n w = true) : ((putN n w).length : Int) = w := by
 simp only [putN, h, if_true, digs_len]
 simp [putOk] at h
 omega
theorem fixVal_ok {k p t a v : Int} (h : fixVal k p t a = some v) : putOk v (fixWide k) = true := by
 have h256 : (256 : Int) ^ (1 : Int).toNat = 256 := rfl
 have h65 : (256 : Int) ^ (2 : Int).toNat = 65536 := rfl
 have h42 : (256 : Int) ^ (4 : Int).toNat = 4294967296 := rfl
 unfold fixVal at h
 split at h
 ·rename_i hc
  split at h
  ·split at h
   ·injection h with h
    subst_vars
    simp [putOk, fixWide]
    omega
   ·cases h
  ·split at h
   ·subst_vars
    split at h
    ·injection h with h
     subst h
     simp [putOk, fixWide]
     omega
    ·cases h
   ·split at h
    ·subst_vars
     split at h
     ·injection h with h
      subst h
      simp [putOk, fixWide]
      omega
     ·cases h
    ·cases h
 ·cases h
theorem fxApp_some {b : List Int} {p : Int} {f : Fixup} {t v : Int} (h : fxVal b p f t = some v) : fxApp b p f t = fxFill b f.at_.toNat (putN v (fixWide f.kind)) (fixWide f.kind).toNat ∧ 0 ≤ f.at_ ∧ f.at_ + fixWide f.kind ≤ b.length ∧ 1 ≤ fixWide f.kind ∧ fixWide f.kind ≤ 4 ∧ (putN v (fixWide f.kind)).length = (fixWide f.kind).toNat ∧ putOk v (fixWide f.kind) = true ∧ fixVal f.kind (p + f.at_) t f.add = some v ∧ 0 ≤ p ∧ p ≤ 100000 := by
 have e : fxApp b p f t = fxFill b f.at_.toNat (putN v (fixWide f.kind)) (fixWide f.kind).toNat := by rw [fxApp, h]
 unfold fxVal at h
 split at h
 ·rename_i hok
  simp only [fxOk, decide_eq_true_eq] at hok
  have hp := fixVal_ok h
  have hl := putN_len hp
  have hw := fixWide_le f.kind
  refine ⟨e, by omega, by omega, by omega, by omega, by omega, hp, h, by omega, by omega⟩
 ·cases h
theorem fxApp_none {b : List Int} {p : Int} {f : Fixup} {t : Int} (h : fxVal b p f t = none) : fxApp b p f t = b := by rw [fxApp, h]
theorem fxApp_len {b : List Int} {p : Int} {f : Fixup} {t : Int} : (fxApp b p f t).length = b.length := by
 cases h : fxVal b p f t with
 | none => rw [fxApp_none h]
 | some v =>
  obtain ⟨e, h1, h2, h3, h4, h5, _⟩ := fxApp_some h
  rw [e, fxFill_len (by omega) (by omega)]
theorem fxVal_eq (b : List Int) (p : Int) (f : Fixup) (t : Int) : (fxOk b p f = true → fxVal b p f t = fixVal f.kind (p + f.at_) t f.add) ∧ (fxOk b p f = false → fxVal b p f t = none) := by
 constructor
 ·intro h; rw [fxVal, if_pos h]
 ·intro h; rw [fxVal, if_neg (by simp [h])]
theorem fxApp_copy {b : List Int} {p : Int} {f : Fixup} {t v : Int} (h : fxVal b p f t = some v) : b.take f.at_.toNat ++ (putN v (fixWide f.kind)).take (b.length - f.at_.toNat) ++ b.drop (f.at_.toNat + min (putN v (fixWide f.kind)).length (b.length - f.at_.toNat)) = fxApp b p f t := by
 obtain ⟨e, h1, h2, h3, h4, h5, _⟩ := fxApp_some h
 rw [e]
 unfold fxFill
 rw [h5, Nat.min_eq_left (by omega), List.take_of_length_le (l := putN v (fixWide f.kind)) (i := b.length - f.at_.toNat) (by omega), List.take_of_length_le (l := putN v (fixWide f.kind)) (i := (fixWide f.kind).toNat) (by omega)]
theorem fxFill_set' {b x : List Int} {a k : Int} {y : Int} (ha : 0 ≤ a) (hk : 0 ≤ k) (h : a + k < b.length) (hx : x[k.toNat]? = some y) : (fxFill b a.toNat x k.toNat).set (a + k).toNat y = fxFill b a.toNat x (k + 1).toNat := by
 rw [show (a + k).toNat = a.toNat + k.toNat by omega, show (k + 1).toNat = k.toNat + 1 by omega]
 exact fxFill_set (by omega) hx
end Go.Proofs.YtpgglbnagphgoaaGreat
