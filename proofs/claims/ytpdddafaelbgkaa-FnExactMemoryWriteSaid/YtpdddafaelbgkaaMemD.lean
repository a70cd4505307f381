/- Memories: what is written is read. Plain Lean. -/
import Derived.Test.YtpdddafaelbgkaaImg
set_option linter.unusedVariables false
set_option linter.unusedSimpArgs false
namespace Go.Proofs.Ytpdddafaelbgkaa
open Go Go.RowKit

theorem write_parts {m : Memo} {a v : Int} (h : mayW m a v = true) : (memWrite m a v).what.base = m.what.base ∧ (memWrite m a v).what.bytes = m.what.bytes.set (a - m.what.base).toNat v ∧ (memWrite m a v).regions = m.regions ∧ (memWrite m a v).what.bytes.length = m.what.bytes.length := by
  rw [write_yes h]
  exact ⟨rfl, rfl, rfl, by simp⟩
theorem write_b {m : Memo} {a v : Int} (h : mayW m a v = true) : memB (memWrite m a v) = true := by
  obtain ⟨h1, h2, h3, h4⟩ := write_parts h
  have := (mayW_in h).1
  simp only [memB, Bool.and_eq_true, decide_eq_true_eq, imgOk, h1, h3, h4] at this ⊢
  exact ⟨of_decide_eq_true this.1, this.2⟩
theorem write_may {m : Memo} {a v : Int} (h : mayW m a v = true) (a' v' : Int) : mayW (memWrite m a v) a' v' = mayW m a' v' := by
  obtain ⟨h1, h2, h3, h4⟩ := write_parts h
  unfold mayW
  rw [write_b h, h3, (mayW_in h).1]
theorem may_val {m : Memo} {a v u : Int} (h : mayW m a v = true) (h' : 0 ≤ u) (h'' : u ≤ 255) : mayW m a u = true := by
  rw [mayW_iff] at *
  exact ⟨h.1, h.2.1, h', h''⟩
theorem write_again {m : Memo} {a v u : Int} (h : mayW m a v = true) (h' : mayW m a u = true) : memWrite (memWrite m a v) a u = memWrite m a u := by
  have e : mayW (memWrite m a v) a u = true := by rw [write_may h]; exact h'
  rw [write_yes e, write_yes h']
  obtain ⟨h1, h2, h3, h4⟩ := write_parts h
  rw [h1, h2, h3, List.set_set]
theorem read_write {m : Memo} {a v : Int} (h : mayW m a v = true) : memRead (memWrite m a v) a = v := by
  obtain ⟨h1, h2, h3, h4⟩ := write_parts h
  obtain ⟨g1, g2⟩ := mayW_in h
  obtain ⟨b1, b2, b3, b4⟩ := mem_in g1 g2
  have hw := mem_in (write_b h) (by rw [h3]; exact g2)
  unfold memRead
  rw [if_pos ⟨write_b h, by rw [h3]; exact g2⟩]
  unfold imgByte
  rw [if_pos ⟨hw.2.2.2, by rw [h1]; exact b1.1, by rw [h1, h4]; exact b1.2⟩, h1, h2]
  have hk : (a - m.what.base).toNat < m.what.bytes.length := by omega
  simp [List.getD, hk]
theorem read_other {m : Memo} {a v k : Int} (h : mayW m a v = true) (hk : k ≠ a) : memRead (memWrite m a v) k = memRead m k := by
  obtain ⟨h1, h2, h3, h4⟩ := write_parts h
  obtain ⟨g1, g2⟩ := mayW_in h
  obtain ⟨b1, b2, b3, b4⟩ := mem_in g1 g2
  unfold memRead
  rw [write_b h, g1, h3]
  split
  · rename_i hs
    have hin := mem_in g1 hs.2
    unfold imgByte
    have e : imgOk (memWrite m a v).what ↔ imgOk m.what := by unfold imgOk; rw [h1, h4]
    rw [h1, h4, h2]
    simp only [e]
    split
    · have : (a - m.what.base).toNat ≠ (k - m.what.base).toNat := by omega
      simp [List.getD, List.getElem?_set_ne this]
    · rfl
  · rfl
def anyW (a : Int) (l : List Region) : Bool := l.any fun r => r.write && inReg a r
theorem anyW_of {a : Int} : ∀ {l : List Region}, (match regOf a l with | some r => r.write | none => false) = true → anyW a l = true := by
  intro l
  induction l with
  | nil => intro h; simp [regOf] at h
  | cons r l ih =>
    intro h
    by_cases hr : inReg a r = true
    · simp only [regOf, hr, if_true] at h
      simp [anyW, hr, h]
    · simp only [regOf, if_neg hr] at h
      have := ih h
      simp only [anyW, List.any_cons, Bool.or_eq_true] at this ⊢
      exact .inr this
theorem may_any {m : Memo} {a v : Int} (h : mayW m a v = true) : anyW a m.regions = true := anyW_of (mayW_iff.1 h).2.1
theorem read_pos {m : Memo} {a : Int} (h : memRead m a ≠ -1) : (regOf a m.regions).isSome = true ∧ memRead m a = imgByte m.what a := by
  unfold memRead at *
  split at h
  · rename_i hc
    exact ⟨hc.2, by rw [if_pos hc]⟩
  · exact absurd rfl h
theorem imgByte_ge (m : Img) (a : Int) (hb : ∀ x ∈ m.bytes, 0 ≤ x) : -1 ≤ imgByte m a := by
  unfold imgByte
  split
  · cases h : m.bytes[(a - m.base).toNat]? with
    | none => simp [List.getD, h]
    | some x =>
      have := hb x (List.mem_of_getElem? h)
      simp [List.getD, h]
      omega
  · omega
end Go.Proofs.Ytpdddafaelbgkaa
