/- What the laws on names use: plain Lean. -/
import Derived.Test.YthkefakjihafeaaUniD
import Derived.Test.YthkefakjihafeaaResT
set_option linter.unusedVariables false
set_option linter.unusedSimpArgs false
namespace Go.Proofs.Ythkefakjihafeaa
open Go Go.RowKit

def nthB (x : List ByteArray) (k : Int) : ByteArray := (x[k.toNat]?).getD ⟨⟨[]⟩⟩
theorem nthB_eq {x : List ByteArray} {k : Int} {n : ByteArray} (h : x[k.toNat]? = some n) : nthB x k = n := by rw [nthB, h]; rfl
theorem namesG_mem {o : Objt} {n : ByteArray} (h : n ∈ namesG o) : objB o = true ∧ ∃ s ∈ o.syms, giveS s = true ∧ s.name = n := by
  unfold namesG at h
  split at h
  · rename_i ho; rw [mem_sortU, mem_symP] at h; exact ⟨ho, h⟩
  · cases h
theorem bd3_give {o : Objt} {s : Sym} {n : ByteArray} (ho : objB o = true) (hs : s ∈ o.syms) (h : giveS s = true) (hn : s.name = n) : bdS n 1 s = true ∨ bdS n 2 s = true := by
  have hb := objB_bd ho s hs
  simp only [giveS, decide_eq_true_eq] at h
  rcases hb with hb | hb | hb
  · exact absurd hb h.2
  · left; simp [bdS, hn, hb, h.1]
  · right; simp [bdS, hn, hb, h.1]
theorem namesG_fnd {o : Objt} {n : ByteArray} (h : n ∈ namesG o) : ∃ i s, fndV [o] n = some ⟨0, i⟩ ∧ 0 ≤ i ∧ i < o.syms.length ∧ o.syms[i.toNat]? = some s ∧ s.name = n := by
  obtain ⟨ho, s, hs, h1, h2⟩ := namesG_mem h
  have e : fndV [o] n = fnd [o] n := by rw [fndV, if_pos (by simp [objsB, ho])]
  cases hf : fnd [o] n with
  | none =>
    have := fnd_none.1 hf o (by simp) s hs
    rcases bd3_give ho hs h1 h2 with h3 | h3
    · rw [this.1] at h3; cases h3
    · rw [this.2] at h3; cases h3
  | some g =>
    have : ∃ b, GivenAt [o] n b g := (fnd_some hf).elim (fun h => ⟨_, h⟩) fun h => ⟨_, h⟩
    obtain ⟨b, g1, g2, o', t, g3, g4, g5, _⟩ := this
    have hl := lt_of_some g3
    simp only [List.length_cons, List.length_nil] at hl
    have e0 : g.in_ = 0 := by omega
    rw [e0] at g3
    simp only [Int.toNat_zero, List.getElem?_cons_zero, Option.some.injEq] at g3
    subst g3
    refine ⟨g.at_, t, ?_, g2, by have := lt_of_some g4; omega, g4, g5⟩
    rw [e, hf, ← e0]
theorem asc_get {l : List ByteArray} (h : Asc l) {i j : Nat} {x y : ByteArray} (hij : i < j) (hx : l[i]? = some x) (hy : l[j]? = some y) : strLt x y = true := by
  obtain ⟨h1, h2⟩ := List.getElem?_eq_some_iff.1 hx
  obtain ⟨h3, h4⟩ := List.getElem?_eq_some_iff.1 hy
  have := List.pairwise_iff_getElem.1 h i j h1 h3 hij
  rwa [h2, h4] at this
theorem namesG_asc {o : Objt} : Asc (namesG o) := by
  unfold namesG
  split
  · exact sortU_asc _
  · exact List.Pairwise.nil
theorem namesG_up {o : Objt} {k : Int} {x y : ByteArray} (hk : 0 < k) (hx : (namesG o)[k.toNat]? = some x) (hy : (namesG o)[(k - 1).toNat]? = some y) : (strLt x y || decide (x = y)) = false := by
  have := asc_get namesG_asc (by omega) hy hx
  rw [lt_asym this]
  have hne := lt_ne this
  simp only [Bool.false_or, decide_eq_false_iff_not]
  exact fun e => hne e.symm
theorem flatG_next {l : List Objt} {n : ByteArray} {j : Int} {o : Objt} (hj : 0 ≤ j) (h : l[j.toNat]? = some o) : cntB n ((l.take (j + 1).toNat).flatMap namesG) = cntB n ((l.take j.toNat).flatMap namesG) + cntB n (namesG o) := by
  rw [toNat_succ hj, take_snoc h, List.flatMap_append, cntB_app]; simp
theorem cntT_next {g : List ByteArray} {n x : ByteArray} {i : Int} (hi : 0 ≤ i) (h : g[i.toNat]? = some x) : cntB n (g.take (i + 1).toNat) = cntB n (g.take i.toNat) + if x = n then 1 else 0 := by
  rw [toNat_succ hi, take_snoc h, cntB_app]; simp [cntB]
theorem cntT_end {g : List ByteArray} {n : ByteArray} {i : Int} (h : (g.length : Int) ≤ i) : cntB n (g.take i.toNat) = cntB n g := by rw [List.take_of_length_le (by omega)]
theorem cntT_le (g : List ByteArray) (n : ByteArray) (i : Int) : 0 ≤ cntB n (g.take i.toNat) ∧ cntB n (g.take i.toNat) ≤ g.length := by
  have h : ∀ g : List ByteArray, cntB n g ≤ g.length := fun g => by
    induction g with
    | nil => simp [cntB]
    | cons x g ih => simp only [cntB, List.length_cons]; split <;> omega
  have h1 := h (g.take i.toNat)
  rw [List.length_take] at h1
  exact ⟨cntB_nn _ _, by omega⟩
theorem cnt_obj {o : Objt} {n : ByteArray} (ho : objB o = true) : cntB n (symP strongS o.syms) ≤ 1 ∧ cntB n (symP strongS o.syms) ≤ cntB n (namesG o) := by
  have h1 := cnt_glo (n := n) (objB_uniq ho)
  have h2 := cntB_nn n (namesG o)
  refine ⟨by rw [h1]; split <;> omega, ?_⟩
  by_cases h : 0 < cntB n (symP strongS o.syms)
  · obtain ⟨s, hs, hp, hn⟩ := mem_symP.1 (cntB_pos.1 h)
    have : n ∈ namesG o := by
      rw [namesG, if_pos ho, mem_sortU, mem_symP]
      refine ⟨s, hs, ?_, hn⟩
      simp only [strongS, giveS, decide_eq_true_eq] at *
      omega
    have := cntB_pos.2 this
    have : cntB n (symP strongS o.syms) ≤ 1 := by rw [h1]; split <;> omega
    omega
  · omega
theorem cnt_all {n : ByteArray} : ∀ {l : List Objt}, l.all objB = true → cntS l n ≤ cntB n (l.flatMap namesG) := by
  intro l
  induction l with
  | nil => intro _; simp [cntS, flt, cntB]
  | cons o l ih =>
    intro h
    simp only [List.all_cons, Bool.and_eq_true] at h
    have h1 := (cnt_obj (n := n) h.1).2
    have h2 := ih h.2
    simp only [cntS, flt, List.flatMap_cons, cntB_app] at *
    omega
/-- How often a name is given by the first objects; by the first names of one more. -/
def cT (l : List Objt) (n : ByteArray) (j : Int) : Int := cntB n ((l.take j.toNat).flatMap namesG)
def cG (l : List Objt) (n : ByteArray) (j i : Int) : Int := cT l n j + cntB n ((givAt l j).take i.toNat)
theorem cT_zero {l : List Objt} {n : ByteArray} : cT l n 0 = 0 := rfl
theorem cG_zero {l : List Objt} {n : ByteArray} {j : Int} : cG l n j 0 = cT l n j := by simp [cG, cntB]
theorem cG_end {l : List Objt} {n : ByteArray} {j i : Int} (hj : 0 ≤ j) (hl : j < l.length) (h : ((givAt l j).length : Int) ≤ i) : cG l n j i = cT l n (j + 1) := by
  have ho := List.getElem?_eq_getElem (l := l) (i := j.toNat) (by omega)
  rw [cG, cT, cT, flatG_next hj ho, cntT_end h, givAt_eq ho]
theorem cG_next {l : List Objt} {n x : ByteArray} {j i : Int} (hi : 0 ≤ i) (h : (givAt l j)[i.toNat]? = some x) : cG l n j (i + 1) = cG l n j i + if x = n then 1 else 0 := by
  rw [cG, cG, cntT_next hi h, Int.add_assoc]
theorem cG_bd {l : List Objt} {n : ByteArray} {j i : Int} : cT l n j ≤ cG l n j i ∧ cG l n j i ≤ cT l n j + 12 := by
  have h1 := cntT_le (givAt l j) n i
  have h2 := givAt_12 l j
  unfold cG
  omega
theorem cT_nn {l : List Objt} {n : ByteArray} {j : Int} : 0 ≤ cT l n j := cntB_nn _ _
theorem twice_two {l : List Objt} {k : Nat} {n : ByteArray} {j : Int} (h : (namesT l)[k]? = some n) (hj : (l.length : Int) ≤ j) : 2 ≤ cT l n j := by
  unfold cT
  have hm := List.mem_of_getElem? h
  unfold namesT at hm
  split at hm
  · rename_i ho
    have := mem_nTw.1 hm
    have h2 := cnt_all (n := n) (objsB_all ho).1
    rw [List.take_of_length_le (by omega)]
    omega
  · cases hm
theorem cG_hit {l : List Objt} {j i k : Int} {x y : ByteArray} (hi : 0 ≤ i) (h : (givAt l j)[i.toNat]? = some x) (hn : (namesT l)[k.toNat]? = some y) (e : x = y) : cG l (nthB (namesT l) k) j i + 1 = cG l (nthB (namesT l) k) j (i + 1) := by
  rw [cG_next hi h, nthB_eq hn, if_pos e]
theorem cG_mis {l : List Objt} {j i k : Int} {x y : ByteArray} (hi : 0 ≤ i) (h : (givAt l j)[i.toNat]? = some x) (hn : (namesT l)[k.toNat]? = some y) (e : ¬ x = y) : cG l (nthB (namesT l) k) j i = cG l (nthB (namesT l) k) j (i + 1) := by
  rw [cG_next hi h, nthB_eq hn, if_neg e]; simp
theorem cT_up {l : List Objt} {n : ByteArray} {j : Int} (h : cT l n j ≤ 12 * j) (h0 : 0 ≤ j) (hl : j < l.length) : cT l n (j + 1) ≤ 12 * (j + 1) := by
  rw [← cG_end (i := (givAt l j).length) h0 hl (by omega)]
  have := (cG_bd (l := l) (n := n) (j := j) (i := (givAt l j).length)).2
  omega
theorem twice_k {l : List Objt} {k j : Int} (h0 : 0 ≤ k) (hk : k < (namesT l).length) (hj : (l.length : Int) ≤ j) : 2 ≤ cT l (nthB (namesT l) k) j := by
  have h := List.getElem?_eq_getElem (l := namesT l) (i := k.toNat) (by omega)
  rw [nthB_eq h]
  exact twice_two h hj
theorem twice_no {l : List Objt} {k j : Int} (h : cT l (nthB (namesT l) k) j < 2) (h0 : 0 ≤ k) (hk : k < (namesT l).length) (hj : (l.length : Int) ≤ j) : False := by have := twice_k h0 hk hj; omega
theorem twice_one {l : List Objt} : (namesT (l.take 1)).length = 0 := by
  have : namesT (l.take 1) = [] := by
    unfold namesT
    split
    · rename_i ho
      refine List.eq_nil_iff_forall_not_mem.2 fun n hn => ?_
      have h1 := mem_nTw.1 hn
      cases l with
      | nil => simp [cntS, flt, cntB] at h1
      | cons o l =>
        have h2 := (objsB_all ho).1
        simp only [List.take_succ_cons, List.take_zero, List.all_cons, Bool.and_eq_true] at h2
        have := (cnt_obj (n := n) h2.1).1
        simp only [cntS, flt, List.take_succ_cons, List.take_zero, List.flatMap_cons, List.flatMap_nil, List.append_nil] at h1
        omega
    · rfl
  rw [this]; rfl
theorem namesT_len (l : List Objt) (h : l.length ≤ 20) : (namesT l).length ≤ 240 := by
  unfold namesT
  split
  · rename_i ho
    have h1 := (sortU_len (dups [] (flt strongS l))).1
    have h2 := dups_len (flt strongS l) []
    have h3 := flt_len (p := strongS) (objsB_all ho).1
    unfold nTw
    omega
  · simp
theorem namesM_len (l : List Objt) (h : l.length ≤ 20) : (namesM l).length ≤ 240 := by
  unfold namesM
  split
  · rename_i ho
    have h1 := (sortU_len (flt (missS l) l)).1
    have h3 := flt_len (p := missS l) (objsB_all ho).1
    unfold nMs
    omega
  · simp
theorem miss_none {l : List Objt} {k : Nat} {n : ByteArray} (h : (namesM l)[k]? = some n) : fndV l n = none := by
  have hm := List.mem_of_getElem? h
  unfold namesM at hm
  split at hm
  · rename_i ho
    rw [fndV, if_pos ho]
    exact (mem_nMs.1 hm).1
  · cases hm
/-- The names that an object wants, by its number. -/
def wanAt (l : List Objt) (k : Int) : List ByteArray := match l[k.toNat]? with | some o => namesW o | none => []
theorem wanAt_eq {l : List Objt} {k : Int} {o : Objt} (h : l[k.toNat]? = some o) : wanAt l k = namesW o := by simp [wanAt, h]
theorem namesW_12 (o : Objt) : (namesW o).length ≤ 12 := by
  unfold namesW
  split
  · rename_i h
    have h1 := (sortU_len (symP wantS o.syms)).1
    have h2 := symP_len (p := wantS) (l := o.syms)
    have h3 := (objB_lens h).2
    omega
  · simp
theorem wanAt_12 (l : List Objt) (k : Int) : (wanAt l k).length ≤ 12 := by
  unfold wanAt
  split
  · exact namesW_12 _
  · simp
def wanB (l : List Objt) (n : ByteArray) (j i : Int) : Bool := decide (n ∈ (l.take j.toNat).flatMap namesW) || decide (n ∈ (wanAt l j).take i.toNat)
theorem wanB_first {l : List Objt} {n : ByteArray} : wanB l n 0 0 = false := by simp [wanB]
theorem wanB_next {l : List Objt} {n x : ByteArray} {j i : Int} (hi : 0 ≤ i) (h : (wanAt l j)[i.toNat]? = some x) : wanB l n j (i + 1) = (wanB l n j i || decide (x = n)) := by
  unfold wanB
  rw [toNat_succ hi, take_snoc h, Bool.or_assoc]
  congr 1
  rw [Bool.eq_iff_iff]
  simp only [List.mem_append, List.mem_singleton, decide_eq_true_eq, Bool.or_eq_true]
  exact ⟨fun h => h.imp id fun e => e.symm, fun h => h.imp id fun e => e.symm⟩
theorem wanB_end {l : List Objt} {n : ByteArray} {j i : Int} {o : Objt} (hj : 0 ≤ j) (ho : l[j.toNat]? = some o) (h : ((wanAt l j).length : Int) ≤ i) : wanB l n j i = wanB l n (j + 1) 0 := by
  unfold wanB
  rw [List.take_of_length_le (l := wanAt l j) (by omega), toNat_succ hj, take_snoc ho, List.flatMap_append, wanAt_eq ho]
  simp
theorem wanB_all {l : List Objt} {k : Nat} {n : ByteArray} {j : Int} (h : (namesM l)[k]? = some n) (hj : (l.length : Int) ≤ j) : wanB l n j 0 = true := by
  have hm := List.mem_of_getElem? h
  unfold namesM at hm
  split at hm
  · rename_i ho
    obtain ⟨_, o, ho2, s, hs, h1, _, h3⟩ := mem_nMs.1 hm
    unfold wanB
    rw [List.take_of_length_le (by omega)]
    simp only [Bool.or_eq_true, decide_eq_true_eq]
    left
    refine List.mem_flatMap.2 ⟨o, ho2, ?_⟩
    rw [namesW, if_pos (List.all_eq_true.1 (objsB_all ho).1 o ho2), mem_sortU, mem_symP]
    exact ⟨s, hs, by simp [wantS, h3], h1⟩
  · cases hm
end Go.Proofs.Ythkefakjihafeaa
