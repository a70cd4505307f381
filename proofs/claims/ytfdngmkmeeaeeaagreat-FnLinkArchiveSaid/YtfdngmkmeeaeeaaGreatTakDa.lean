/- Objects that are taken out of an archive: plain Lean. -/
import Derived.Test.YtfdngmkmeeaeeaaGreatLnkDa
set_option linter.unusedVariables false
set_option linter.unusedSimpArgs false
namespace Go.Proofs.YtfdngmkmeeaeeaaGreat
open Go Go.RowKit

def memOk (m : Member) : Bool := nameB m.name && objB m.what
def archB (l : List Member) : Bool := decide ((l.length : Int) ≤ 4) && l.all memOk
def hasM (all : List Objt) (m : Member) : Bool := (namesG m.what).any fun n => decide (n ∈ nMs all)
def nextM (all : List Objt) (out : List Int) : List Member → Int → Int
 | [], _ => -1
 | m :: l, k => if ¬ k ∈ out ∧ hasM all m = true then k else nextM all out l (k + 1)
theorem nextM_spec {all : List Objt} {out : List Int} : ∀ {l : List Member} {k : Int}, 0 ≤ k → (nextM all out l k = -1 ∧ ∀ (i : Nat) m, l[i]? = some m → (k + i ∈ out ∨ hasM all m = false)) ∨
  (∃ (i : Nat) (m : Member), nextM all out l k = k + i ∧ l[i]? = some m ∧ ¬ k + i ∈ out ∧ hasM all m = true) := by
 intro l
 induction l with
 | nil => intro k _; left; exact ⟨rfl, fun i m h => by simp at h⟩
 | cons m l ih =>
  intro k hk
  simp only [nextM]
  split
  ·rename_i h
   right
   exact ⟨0, m, by simp, rfl, by simpa using h.1, h.2⟩
  ·rename_i h
   rcases ih (k := k + 1) (by omega) with ⟨h1, h2⟩ | ⟨i, m', h1, h2, h3, h4⟩
   ·left
    refine ⟨h1, fun i m' hi => ?_⟩
    cases i with
    | zero =>
     simp only [List.getElem?_cons_zero, Option.some.injEq] at hi
     subst hi
     by_cases hk : k ∈ out
     ·left; simpa using hk
     ·right
      cases hm : hasM all m with
      | false => rfl
      | true => exact absurd ⟨hk, hm⟩ h
    | succ i =>
     have := h2 i m' (by simpa using hi)
     rwa [show k + 1 + (i : Int) = k + ((i + 1 : Nat) : Int) by omega] at this
   ·right
    refine ⟨i + 1, m', by omega, by simpa using h2, ?_, h4⟩
    rwa [show k + ((i + 1 : Nat) : Int) = k + 1 + (i : Int) by omega]
structure Tk where
 out : List Int
 all : List Objt
def tkStep (arch : List Member) (st : Tk) : Tk :=
 if nextM st.all st.out arch 0 < 0 then st else ⟨st.out ++ [nextM st.all st.out arch 0], st.all ++ ((arch[(nextM st.all st.out arch 0).toNat]?).map Member.what).toList⟩
def tkN (arch : List Member) : Nat → Tk → Tk
 | 0, st => st
 | n + 1, st => tkN arch n (tkStep arch st)
def taken (l : List Objt) (arch : List Member) : Tk := tkN arch arch.length ⟨[], l⟩
def freeN (arch : List Member) (out : List Int) : Nat := ((List.range arch.length).filter fun k : Nat => decide (¬ (k : Int) ∈ out)).length
theorem filter_lt {α : Type} {p q : α → Bool} : ∀ {l : List α} {x : α}, (∀ y, q y = true → p y = true) → x ∈ l → p x = true → q x = false → (l.filter q).length < (l.filter p).length := by
 intro l
 induction l with
 | nil => intro x _ h; cases h
 | cons y l ih =>
  intro x h hx hp hq
  have hle : (l.filter q).length ≤ (l.filter p).length := by
   clear ih hx
   induction l with
   | nil => simp
   | cons z l ih =>
    simp only [List.filter_cons]
    split
    ·rename_i hz; rw [if_pos (h z hz)]; simp only [List.length_cons]; omega
    ·split
     ·simp only [List.length_cons]; omega
     ·exact ih
  simp only [List.filter_cons]
  rcases List.mem_cons.1 hx with rfl | hx
  ·rw [hq, hp]
   simp only [Bool.false_eq_true, if_false, if_true, List.length_cons]
   omega
  ·have := ih h hx hp hq
   split
   ·rename_i hz; rw [if_pos (h y hz)]; simp only [List.length_cons]; omega
   ·split
    ·simp only [List.length_cons]; omega
    ·exact this
theorem tkStep_free {arch : List Member} {st : Tk} (h : ¬ nextM st.all st.out arch 0 < 0) : freeN arch (tkStep arch st).out < freeN arch st.out := by
 rcases nextM_spec (all := st.all) (out := st.out) (l := arch) (k := 0) (by omega) with ⟨h1, _⟩ | ⟨i, m, h1, h2, h3, h4⟩
 ·omega
 ·unfold tkStep
  rw [if_neg h]
  unfold freeN
  simp only
  refine filter_lt (x := i) (fun y hy => ?_) (List.mem_range.2 (lt_of_some h2)) ?_ ?_
  ·simp only [List.mem_append, List.mem_singleton, decide_eq_true_eq, not_or] at hy ⊢
   exact hy.1
  ·simpa using h3
  ·rw [h1]
   simp
theorem tk_fix {arch : List Member} : ∀ {n : Nat} {st : Tk}, freeN arch st.out ≤ n → tkN arch (n + 1) st = tkN arch n st := by
 intro n
 induction n with
 | zero =>
  intro st h
  show tkStep arch st = st
  by_cases hn : nextM st.all st.out arch 0 < 0
  ·unfold tkStep; rw [if_pos hn]
  ·have := tkStep_free hn; omega
 | succ n ih =>
  intro st h
  show tkN arch (n + 1) (tkStep arch st) = tkN arch n (tkStep arch st)
  by_cases hn : nextM st.all st.out arch 0 < 0
  ·have e : tkStep arch st = st := by unfold tkStep; rw [if_pos hn]
   rw [e]
   have : ∀ m, tkN arch m st = st := fun m => by
    induction m with
    | zero => rfl
    | succ m im => show tkN arch m (tkStep arch st) = st; rw [e]; exact im
   rw [this, this]
  ·exact ih (by have := tkStep_free hn; omega)
theorem freeN_le (arch : List Member) (out : List Int) : freeN arch out ≤ arch.length := by
 unfold freeN
 refine Nat.le_trans (List.length_filter_le _ _) ?_
 simp
theorem tk_none {arch : List Member} {st : Tk} (h : nextM st.all st.out arch 0 < 0) (n : Nat) : tkN arch n st = st := by
 have e : tkStep arch st = st := by unfold tkStep; rw [if_pos h]
 induction n with
 | zero => rfl
 | succ n ih => show tkN arch n (tkStep arch st) = st; rw [e]; exact ih
theorem tkN_succ {arch : List Member} {st : Tk} (n : Nat) : tkN arch (n + 1) st = tkStep arch (tkN arch n st) := by
 induction n generalizing st with
 | zero => rfl
 | succ n ih => show tkN arch (n + 1) (tkStep arch st) = tkStep arch (tkN arch n (tkStep arch st)); exact ih
theorem taken_end (l : List Objt) (arch : List Member) : nextM (taken l arch).all (taken l arch).out arch 0 < 0 := by
 have h : tkStep arch (taken l arch) = taken l arch := by
  unfold taken
  rw [← tkN_succ]
  exact tk_fix (freeN_le arch _)
 refine Classical.byContradiction fun hn => ?_
 have := tkStep_free hn
 rw [h] at this
 omega
structure TkOk (l : List Objt) (arch : List Member) (st : Tk) : Prop where
 rng : ∀ k ∈ st.out, 0 ≤ k ∧ k < arch.length
 nod : st.out.Nodup
 all : st.all = l ++ st.out.flatMap fun k => ((arch[k.toNat]?).map Member.what).toList
 fst : ∀ k, st.out.head? = some k → ∃ m, arch[k.toNat]? = some m ∧ hasM l m = true
theorem tkStep_ok {l : List Objt} {arch : List Member} {st : Tk} (h : TkOk l arch st) : TkOk l arch (tkStep arch st) := by
 unfold tkStep
 split
 ·exact h
 ·rename_i hn
  rcases nextM_spec (all := st.all) (out := st.out) (l := arch) (k := 0) (by omega) with ⟨h1, _⟩ | ⟨i, m, h1, h2, h3, h4⟩
  ·omega
  ·rw [Int.zero_add] at h1 h3
   rw [h1]
   have hi := lt_of_some h2
   refine ⟨fun k hk => ?_, ?_, ?_, fun k hk => ?_⟩
   ·rcases List.mem_append.1 hk with hk | hk
    ·exact h.rng k hk
    ·simp only [List.mem_singleton] at hk; omega
   ·rw [List.nodup_append]
    refine ⟨h.nod, by simp, fun a ha b hb => ?_⟩
    simp only [List.mem_singleton] at hb
    subst hb
    intro e; subst e; exact h3 ha
   ·simp only [h.all, List.flatMap_append, List.append_assoc]
    simp
   ·simp only at hk
    cases ho : st.out with
    | nil =>
     rw [ho] at hk
     simp only [List.nil_append, List.head?_cons, Option.some.injEq] at hk
     subst hk
     have e : st.all = l := by rw [h.all, ho]; simp
     rw [e] at h4
     exact ⟨m, by simpa using h2, h4⟩
    | cons a r =>
     rw [ho] at hk
     refine h.fst k ?_
     rw [ho]
     simpa using hk
theorem tkN_ok {l : List Objt} {arch : List Member} : ∀ {n : Nat} {st : Tk}, TkOk l arch st → TkOk l arch (tkN arch n st) := by
 intro n
 induction n with
 | zero => intro st h; exact h
 | succ n ih => intro st h; exact ih (tkStep_ok h)
theorem taken_ok (l : List Objt) (arch : List Member) : TkOk l arch (taken l arch) :=
 tkN_ok ⟨fun k hk => by simp at hk, List.nodup_nil, by simp, fun k hk => by simp at hk⟩
theorem TkOk.valid {l : List Objt} {arch : List Member} {st : Tk} (h : TkOk l arch st) (hl : l.all objB = true) (ha : arch.all memOk = true) : st.all.all objB = true := by
 rw [h.all, List.all_append, hl, Bool.true_and, List.all_eq_true]
 intro o ho
 obtain ⟨k, _, hk⟩ := List.mem_flatMap.1 ho
 cases hm : arch[k.toNat]? with
 | none => rw [hm] at hk; simp at hk
 | some m =>
  rw [hm] at hk
  simp only [Option.map_some, Option.toList_some, List.mem_singleton] at hk
  subst hk
  have := all_get ha hm
  simp only [memOk, Bool.and_eq_true] at this
  exact this.2
end Go.Proofs.YtfdngmkmeeaeeaaGreat
