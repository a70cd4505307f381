/- Memories of objects are valid: plain Lean. -/
import Derived.Test.YtfdngmkmeeaeeaaGreatLnkLw
import Derived.Test.YtfdngmkmeeaeeaaGreatImgw
set_option linter.unusedVariables false
set_option linter.unusedSimpArgs false
namespace Go.Proofs.YtfdngmkmeeaeeaaGreat
open Go Go.RowKit

def kC (c : Int) : List Sect → Int
 | [] => 0
 | s :: l => (if s.kind = c then 1 else 0) + kC c l
def kO (c : Int) : List Objt → Int
 | [] => 0
 | o :: l => kC c o.sects + kO c l
theorem kC_3 : ∀ l : List Sect, kC 1 l + kC 2 l + kC 3 l ≤ l.length := by
 intro l
 induction l with
 | nil => simp [kC]
 | cons s l ih =>
  simp only [kC, List.length_cons, Int.natCast_add]
  by_cases h1 : s.kind = 1
  ·simp [h1]; omega
  ·by_cases h2 : s.kind = 2
   ·simp [h2]; omega
   ·by_cases h3 : s.kind = 3
    ·simp [h3]; omega
    ·simp [h1, h2, h3]; omega
theorem kO_3 : ∀ {l : List Objt}, l.all objB = true → kO 1 l + kO 2 l + kO 3 l ≤ 8 * l.length := by
 intro l
 induction l with
 | nil => intro _; simp [kO]
 | cons o l ih =>
  intro h
  simp only [List.all_cons, Bool.and_eq_true] at h
  have h1 := kC_3 o.sects
  have h2 := (objB_lens h.1).1
  have h3 := ih h.2
  simp only [kO, List.length_cons, Int.natCast_add]
  omega
theorem plS_k {c : Int} : ∀ {l : List Sect} {a : Int}, secsOk l → plS c l a ≤ a + 55 * kC c l := by
 intro l
 induction l with
 | nil => intro a _; simp [plS, kC]
 | cons s l ih =>
  intro a h
  have hs := h s (by simp)
  have h1 := alg_bd (n := a) hs.2.2.1
  have h2 := hs.2.2.2
  simp only [plS, kC]
  split
  ·have := ih (a := alg a s.align + secSize s) fun t ht => h t (List.mem_cons_of_mem _ ht)
   omega
  ·have := ih (a := a) fun t ht => h t (List.mem_cons_of_mem _ ht)
   omega
theorem plO_k {c : Int} : ∀ {l : List Objt} {a : Int}, l.all objB = true → plO c l a ≤ a + 55 * kO c l := by
 intro l
 induction l with
 | nil => intro a _; simp [plO, kO]
 | cons o l ih =>
  intro a h
  simp only [List.all_cons, Bool.and_eq_true] at h
  have h1 := plS_k (c := c) (a := a) (objB_secs h.1)
  have h3 := ih (a := plS c o.sects a) h.2
  simp only [plO, kO]
  omega
theorem atK_s {l : List Objt} {b : Int} : atK l b 1 = plO 1 l (alg b 8) ∧ atK l b 2 = plO 2 l (alg (atK l b 1) 8) ∧ atK l b 3 = plO 3 l (alg (atK l b 2) 8) := ⟨rfl, rfl, rfl⟩
theorem atK_tot {l : List Objt} {b : Int} (h : layOk l b = true) : atK l b 3 ≤ b + 1781 := by
 have ha := lay_all h
 have e := atK_s (l := l) (b := b)
 have h1 := plO_k (c := 1) (a := alg b 8) ha.1
 have h2 := plO_k (c := 2) (a := alg (atK l b 1) 8) ha.1
 have h3 := plO_k (c := 3) (a := alg (atK l b 2) 8) ha.1
 have g1 := alg_bd (n := b) al8_8
 have g2 := alg_bd (n := atK l b 1) al8_8
 have g3 := alg_bd (n := atK l b 2) al8_8
 have hk := kO_3 ha.1
 have := ha.2.1
 omega
end Go.Proofs.YtfdngmkmeeaeeaaGreat
