/- Images, memories, patches: both packages keep the same contracts. -/
import Derived.Test.YtccmghepiegcaaaGreatLib
set_option linter.unusedVariables false
set_option linter.unusedSimpArgs false
namespace Go.Proofs.YtccmghepiegcaaaGreat
open Go Go.RowKit


def imgOk (m : Img) : Prop := isBase m.base ∧ (m.bytes.length : Int) ≤ 2000
instance (m : Img) : Decidable (imgOk m) := by unfold imgOk; infer_instance
def imgByte (m : Img) (at_ : Int) : Int := if imgOk m ∧ m.base ≤ at_ ∧ at_ < m.base + m.bytes.length then m.bytes.getD (at_ - m.base).toNat 0 else -1
def regsB (hi : Int) : Int → List Region → Bool
  | _, [] => true
  | at_, r :: l => decide (at_ ≤ r.from_ ∧ r.from_ < r.to ∧ r.to ≤ hi) && regsB hi r.to l
def memB (m : Memo) : Bool := decide (imgOk m.what ∧ (m.regions.length : Int) ≤ 3) && regsB (m.what.base + m.what.bytes.length) m.what.base m.regions
def inReg (at_ : Int) (r : Region) : Bool := decide (r.from_ ≤ at_ ∧ at_ < r.to)
def regOf (at_ : Int) : List Region → Option Region
  | [] => none
  | r :: l => if inReg at_ r then some r else regOf at_ l
def regIx (at_ : Int) : List Region → Int → Int
  | [], _ => -1
  | r :: l, k => if inReg at_ r then k else regIx at_ l (k + 1)
def memRead (m : Memo) (at_ : Int) : Int := if memB m = true ∧ (regOf at_ m.regions).isSome then imgByte m.what at_ else -1
def mayW (m : Memo) (at_ v : Int) : Bool := memB m && (match regOf at_ m.regions with | some r => r.write | none => false) && decide (0 ≤ v ∧ v ≤ 255)
def memWrite (m : Memo) (at_ v : Int) : Memo :=
  if memB m = true then (if mayW m at_ v then ⟨⟨m.what.base, m.what.bytes.set (at_ - m.what.base).toNat v⟩, m.regions⟩ else m) else ⟨⟨0, []⟩, []⟩
def patsB (hi : Int) : Int → List Patch → Bool
  | _, [] => true
  | at_, p :: l => decide ((p.bytes.length : Int) ≠ 0 ∧ at_ ≤ p.at_ ∧ p.at_ ≤ hi - p.bytes.length) && patsB hi (p.at_ + p.bytes.length + 1) l
def patB (m : Img) (l : List Patch) : Bool := decide (imgOk m ∧ (l.length : Int) ≤ 1000) && patsB (m.base + m.bytes.length) m.base l
theorem imgOk_bd {m : Img} (h : imgOk m) : 0 ≤ m.base ∧ m.base ≤ 4096 ∧ (m.bytes.length : Int) ≤ 2000 := ⟨h.1.1, h.1.2.1, h.2⟩
theorem regsB_at {hi : Int} : ∀ {l : List Region} {at_ x : Int}, regsB hi at_ l = true → (regOf x l).isSome → at_ ≤ x ∧ x < hi := by
  intro l
  induction l with
  | nil => intro at_ x _ h; simp [regOf] at h
  | cons r l ih =>
    intro at_ x h hx
    simp only [regsB, Bool.and_eq_true, decide_eq_true_eq] at h
    simp only [regOf] at hx
    split at hx
    · rename_i hr
      simp only [inReg, decide_eq_true_eq] at hr
      omega
    · have := ih h.2 hx
      omega

theorem getN_one {l : List Int} {a : Int} : getN l a 1 = if 0 ≤ a ∧ a < l.length then l.getD a.toNat 0 else -1 := by
  by_cases h : 0 ≤ a ∧ a < l.length
  · rw [if_pos h]
    have hk : a.toNat < l.length := by omega
    have : getOk l a 1 = true := by simp [getOk]; omega
    rw [getN, if_pos this]
    have e : (l.drop a.toNat).take (1 : Int).toNat = [l[a.toNat]] := by
      rw [List.drop_eq_getElem_cons hk]; rfl
    rw [e]
    simp [undigs, List.getD, List.getElem?_eq_getElem hk]
  · rw [if_neg h]
    have : ¬ getOk l a 1 = true := by simp [getOk]; omega
    rw [getN, if_neg this]
theorem wrap_id {n : Int} (h : -9223372036854775808 ≤ n) (h' : n ≤ 9223372036854775807) : IntKind.wrap .i64 n = n := by
  simp [IntKind.wrap, IntKind.signed, IntKind.bits]
  split <;> omega
theorem regIx_ge {at_ : Int} : ∀ {l : List Region} {k : Int}, 0 ≤ k → (regIx at_ l k = -1 ∧ regOf at_ l = none) ∨ (k ≤ regIx at_ l k ∧ regIx at_ l k < k + l.length ∧ regOf at_ l = l[(regIx at_ l k - k).toNat]?) := by
  intro l
  induction l with
  | nil => intro k _; left; exact ⟨rfl, rfl⟩
  | cons r l ih =>
    intro k hk
    simp only [regIx, regOf]
    split
    · right
      refine ⟨by omega, by simp; omega, ?_⟩
      simp
    · rcases ih (k := k + 1) (by omega) with ⟨h1, h2⟩ | ⟨h1, h2, h3⟩
      · left; exact ⟨h1, h2⟩
      · right
        refine ⟨by omega, by simp; omega, ?_⟩
        rw [h3, show (regIx at_ l (k + 1) - k).toNat = (regIx at_ l (k + 1) - (k + 1)).toNat + 1 by omega]
        rfl
theorem mem_in {m : Memo} {at_ : Int} (h : memB m = true) (h' : (regOf at_ m.regions).isSome = true) : (m.what.base ≤ at_ ∧ at_ < m.what.base + m.what.bytes.length) ∧ 0 ≤ m.what.base ∧ m.what.base ≤ 4096 ∧ imgOk m.what := by
  simp only [memB, Bool.and_eq_true, decide_eq_true_eq] at h
  have hb := imgOk_bd h.1.1
  exact ⟨regsB_at h.2 h', hb.1, hb.2.1, h.1.1⟩
theorem reg_wr {o : Option Region} (h : (o.getD ⟨0, 0, false, false⟩).write = true) : o.isSome = true ∧ (match o with | some r => r.write | none => false) = true := by
  cases o with
  | none => cases h
  | some r => exact ⟨rfl, h⟩
theorem reg_nw {o : Option Region} (h : (o.getD ⟨0, 0, false, false⟩).write = false) : (match o with | some r => r.write | none => false) = false := by
  cases o with
  | none => rfl
  | some r => exact h
theorem mayW_iff {m : Memo} {at_ v : Int} : mayW m at_ v = true ↔ memB m = true ∧ (match regOf at_ m.regions with | some r => r.write | none => false) = true ∧ 0 ≤ v ∧ v ≤ 255 := by
  simp [mayW, and_assoc]
theorem mayW_in {m : Memo} {at_ v : Int} (h : mayW m at_ v = true) : memB m = true ∧ (regOf at_ m.regions).isSome = true := by
  rw [mayW_iff] at h
  refine ⟨h.1, ?_⟩
  have := h.2.1
  cases hr : regOf at_ m.regions with
  | none => rw [hr] at this; cases this
  | some r => rfl
theorem write_no {m : Memo} {at_ v : Int} (h : memB m = true) (h' : mayW m at_ v = false) : memWrite m at_ v = m := by simp [memWrite, h, h']
theorem write_bad {m : Memo} {at_ v : Int} (h : memB m = false) : memWrite m at_ v = ⟨⟨0, []⟩, []⟩ ∧ mayW m at_ v = false := by simp [memWrite, mayW, h]
theorem write_yes {m : Memo} {at_ v : Int} (h : mayW m at_ v = true) : memWrite m at_ v = ⟨⟨m.what.base, m.what.bytes.set (at_ - m.what.base).toNat v⟩, m.regions⟩ := by simp [memWrite, h, (mayW_in h).1]
end Go.Proofs.YtccmghepiegcaaaGreat
