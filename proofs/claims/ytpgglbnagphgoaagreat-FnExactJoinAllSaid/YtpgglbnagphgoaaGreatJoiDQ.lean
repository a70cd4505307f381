/- Objects with fewer symbols, joined objects: what they are linked to. Plain Lean. -/
import Derived.Test.YtpgglbnagphgoaaGreatLnkDQ
import Derived.Test.YtpgglbnagphgoaaGreatUniDQ
set_option linter.unusedVariables false
set_option linter.unusedSimpArgs false
namespace Go.Proofs.YtpgglbnagphgoaaGreat
open Go Go.RowKit

/-! Targets by symbols, not by their numbers. -/
/-! Linking in steps, by targets. -/
inductive All2 {α β : Type} (R : α → β → Prop) : List α → List β → Prop where
 | nil : All2 R [] []
 | cons {a : α} {b : β} {l : List α} {m : List β} (h : R a b) (t : All2 R l m) : All2 R (a :: l) (b :: m)
structure SameFill (pl pl' : List (List Int)) (l l' : List Objt) (k k' : Int) (s t : Sect) : Prop where
 bytes : s.bytes = t.bytes
 fix : All2 (fun f g : Fixup => f.at_ = g.at_ ∧ f.kind = g.kind ∧ f.add = g.add ∧ (syV pl l k f.to).getD 0 = (syV pl' l' k' g.to).getD 0) s.fixups t.fixups
/-! Sections whose fixups use other numbers. -/
def reF (ns : List Int) (f : Fixup) : Fixup := ⟨f.at_, f.kind, ns.getD f.to.toNat 0, f.add⟩
def reS (ns : List Int) (s : Sect) : Sect := ⟨s.name, s.kind, s.align, s.bytes, s.size, s.fixups.map (reF ns)⟩
/-! Symbols that are kept; the numbers that symbols get. -/
structure Keeps1 (o : Objt) (p : List Bool) : Prop where
 len : p.length = o.syms.length
 giv : ∀ (j : Nat) s, o.syms[j]? = some s → giveS s = true → p[j]? = some true
 use : ∀ s ∈ o.sects, ∀ f ∈ s.fixups, ∃ j : Nat, f.to = j ∧ p[j]? = some true
/-! Validity of what is kept. -/
/-! What is stripped. -/
def bits (q : Int → Sym → Bool) : List Sym → Int → List Bool
 | [], _ => []
 | s :: l, k => q k s :: bits q l (k + 1)
theorem fixB_to {m b : Int} : ∀ {l : List Fixup} {e : Int}, fixB m b e l = true → ∀ f ∈ l, 0 ≤ f.to ∧ f.to < m := by
 intro l
 induction l with
 | nil => intro e _ f hf; cases hf
 | cons g l ih =>
  intro e h f hf
  simp only [fixB, Bool.and_eq_true, decide_eq_true_eq] at h
  rcases List.mem_cons.1 hf with rfl | hf
  ·exact ⟨h.1.2.1, h.1.2.2.1⟩
  ·exact ih h.2 f hf
theorem secB_to {s : Sect} {m : Int} (h : secB s m = true) : ∀ f ∈ s.fixups, 0 ≤ f.to ∧ f.to < m := by
 unfold secB at h
 simp only [Bool.and_eq_true] at h
 have h2 := h.2
 split at h2
 ·simp only [decide_eq_true_eq] at h2; rw [h2.2.2.2]; intro f hf; cases hf
 ·simp only [Bool.and_eq_true] at h2; exact fixB_to h2.2
theorem objB_to {o : Objt} (h : objB o = true) {s : Sect} (hs : s ∈ o.sects) {f : Fixup} (hf : f ∈ s.fixups) : 0 ≤ f.to ∧ f.to < o.syms.length := by
 simp only [objB, Bool.and_eq_true, List.all_eq_true] at h
 exact secB_to (h.1.2 s hs) f hf
/-! Stripped once is stripped for good. -/
/-! Joined objects. -/
def shS (n : Nat) (s : Sym) : Sym := if 0 ≤ s.wher then ⟨s.name, s.bind, s.wher + n, s.value⟩ else s
def tks (s t : Sym) : Bool := decide ((s.wher = -1 ∧ t.wher ≠ -1) ∨ ((s.wher = -1 ↔ t.wher = -1) ∧ t.bind = 1 ∧ s.bind ≠ 1))
structure Jn where
 syms : List Sym
 nums : List Int
def jnStep (a : Objt) (st : Jn) (s : Sym) : Jn :=
 if s.bind = 0 ∨ globIx s.name a.syms 0 < 0 then ⟨st.syms ++ [shS a.sects.length s], st.nums ++ [(st.syms.length : Int)]⟩
 else if tks ((a.syms[(globIx s.name a.syms 0).toNat]?).getD s) s = true then ⟨st.syms.set (globIx s.name a.syms 0).toNat (shS a.sects.length s), st.nums ++ [globIx s.name a.syms 0]⟩
 else ⟨st.syms, st.nums ++ [globIx s.name a.syms 0]⟩
def jnF (a : Objt) (l : List Sym) : Jn := l.foldl (jnStep a) ⟨a.syms, []⟩
def jnO (a b : Objt) : Objt := ⟨a.sects ++ b.sects.map (reS (jnF a b.syms).nums), (jnF a b.syms).syms⟩
def joinOk (a b : Objt) : Bool := objB a && objB b && decide (nTw [a, b] = []) && objB (jnO a b)
def joinV (a b : Objt) : Objt := if joinOk a b = true then jnO a b else ⟨[], []⟩
theorem shS_nb {n : Nat} {s : Sym} : (shS n s).name = s.name ∧ (shS n s).bind = s.bind ∧ ((shS n s).wher = -1 ↔ s.wher = -1) ∧ ((shS n s).wher = -2 ↔ s.wher = -2) ∧ (shS n s).value = s.value := by
 unfold shS
 split
 ·refine ⟨rfl, rfl, ?_, ?_, rfl⟩ <;> simp only <;> omega
 ·exact ⟨rfl, rfl, Iff.rfl, Iff.rfl, rfl⟩
theorem glob_glo {n : ByteArray} : ∀ {l : List Sym} {k : Int}, 0 ≤ k → (globIx n l k < 0 ∧ glo l n = none) ∨ (∃ (i : Nat) (s : Sym), globIx n l k = k + i ∧ glo l n = some s ∧ l[i]? = some s ∧ s.bind ≠ 0 ∧ s.name = n) := by
 intro l
 induction l with
 | nil => intro k _; left; exact ⟨by simp [globIx], rfl⟩
 | cons x l ih =>
  intro k hk
  have e : glo (x :: l) n = if x.bind ≠ 0 ∧ x.name = n then some x else glo l n := by
   unfold glo
   rw [List.find?_cons]
   split
   ·rename_i h; rw [if_pos (of_decide_eq_true h)]
   ·rename_i h; rw [if_neg (of_decide_eq_false h)]
  rw [e]
  simp only [globIx]
  by_cases h : x.bind ≠ 0 ∧ x.name = n
  ·right; rw [if_pos h, if_pos h]; exact ⟨0, x, by simp, rfl, rfl, h⟩
  ·rw [if_neg h, if_neg h]
   rcases ih (k := k + 1) (by omega) with ⟨h1, h2⟩ | ⟨i, s, h1, h2, h3, h4⟩
   ·left; exact ⟨h1, h2⟩
   ·right; exact ⟨i + 1, s, by rw [h1]; omega, h2, by simpa using h3, h4⟩
theorem uniq_ix : ∀ {l : List Sym} {i j : Nat} {s : Sym}, Uniq l → l[i]? = some s → l[j]? = some s → s.bind ≠ 0 → i = j := by
 intro l
 induction l with
 | nil => intro i j s _ h; simp at h
 | cons t l ih =>
  intro i j s hu hi hj hb
  cases i with
  | zero =>
   cases j with
   | zero => rfl
   | succ j =>
    simp only [List.getElem?_cons_zero, Option.some.injEq, List.getElem?_cons_succ] at hi hj
    subst hi
    exact absurd rfl (hu.1 hb t (List.mem_of_getElem? hj) hb)
  | succ i =>
   cases j with
   | zero =>
    simp only [List.getElem?_cons_zero, Option.some.injEq, List.getElem?_cons_succ] at hi hj
    subst hj
    exact absurd rfl (hu.1 hb t (List.mem_of_getElem? hi) hb)
   | succ j => rw [ih (i := i) (j := j) (s := s) hu.2 (by simpa using hi) (by simpa using hj) hb]
structure JnOk (a : Objt) (l : List Sym) (st : Jn) : Prop where
 len : st.nums.length = l.length
 big : a.syms.length ≤ st.syms.length
 old : ∀ (i : Nat) s, a.syms[i]? = some s → (∃ t ∈ l, t.bind ≠ 0 ∧ t.name = s.name ∧ s.bind ≠ 0 ∧ tks s t = true ∧ st.syms[i]? = some (shS a.sects.length t)) ∨ (st.syms[i]? = some s ∧ (s.bind ≠ 0 → glo a.syms s.name = some s → ∀ t ∈ l, t.bind ≠ 0 → t.name = s.name → tks s t = false))
 num : ∀ (j : Nat) t, l[j]? = some t → ∃ m : Nat, st.nums[j]? = some (m : Int) ∧ ∃ u, st.syms[m]? = some u ∧ (t.bind = 0 → u = shS a.sects.length t) ∧ (t.bind ≠ 0 → u.bind ≠ 0 ∧ u.name = t.name)
 add : ∀ t ∈ l, (t.bind = 0 ∨ glo a.syms t.name = none) → shS a.sects.length t ∈ st.syms
 all : ∀ u ∈ st.syms, u ∈ a.syms ∨ ∃ t ∈ l, u = shS a.sects.length t
theorem jnStep_ok {a : Objt} {l : List Sym} {st : Jn} {s : Sym} (ha : Uniq a.syms) (h : JnOk a l st) (hu : s.bind ≠ 0 → ∀ t ∈ l, t.bind ≠ 0 → t.name ≠ s.name) : JnOk a (l ++ [s]) (jnStep a st s) := by
 unfold jnStep
 have hg := glob_glo (n := s.name) (l := a.syms) (k := 0) (by omega)
 by_cases h1 : s.bind = 0 ∨ globIx s.name a.syms 0 < 0
 ·rw [if_pos h1]
  have hn : s.bind = 0 ∨ glo a.syms s.name = none := by
   rcases h1 with h1 | h1
   ·exact .inl h1
   ·rcases hg with hg | ⟨i, t, hg, _⟩
    ·exact .inr hg.2
    ·omega
  refine ⟨by simp [h.len], by simp only [List.length_append]; have := h.big; omega, fun i t ht => ?_, fun j t ht => ?_, fun t ht hb => ?_, fun u hu => ?_⟩
  ·have hi := lt_of_some ht
   have hlt : i < st.syms.length := by have := h.big; omega
   simp only [List.getElem?_append_left hlt]
   rcases h.old i t ht with ⟨u, h2, h3⟩ | ⟨h2, h3⟩
   ·exact .inl ⟨u, by simp [h2], h3⟩
   ·refine .inr ⟨h2, fun hb hgt u hu hub hun => ?_⟩
    rcases List.mem_append.1 hu with hu | hu
    ·exact h3 hb hgt u hu hub hun
    ·simp only [List.mem_singleton] at hu
     subst hu
     rcases hn with hn | hn
     ·exact absurd hn hub
     ·rw [hun, hgt] at hn; cases hn
  ·by_cases hj : j < l.length
   ·rw [List.getElem?_append_left hj] at ht
    obtain ⟨m, h2, u, h3, h4⟩ := h.num j t ht
    refine ⟨m, by simp only [List.getElem?_append_left (by rw [h.len]; exact hj)]; exact h2, u, ?_, h4⟩
    simp only [List.getElem?_append_left (lt_of_some h3), h3]
   ·have e : j = l.length := by have := lt_of_some ht; simp at this; omega
    subst e
    simp only [List.getElem?_concat_length, Option.some.injEq] at ht
    subst ht
    refine ⟨st.syms.length, by rw [← h.len]; simp, shS a.sects.length s, by simp, fun _ => rfl, fun hb => ⟨by rw [shS_nb.2.1]; exact hb, shS_nb.1⟩⟩
  ·rcases List.mem_append.1 ht with ht | ht
   ·simp only [List.mem_append]; exact .inl (h.add t ht hb)
   ·simp only [List.mem_singleton] at ht; subst ht; simp
  ·rcases List.mem_append.1 hu with hu | hu
   ·rcases h.all u hu with h2 | ⟨t, h2, h3⟩
    ·exact .inl h2
    ·exact .inr ⟨t, by simp [h2], h3⟩
   ·simp only [List.mem_singleton] at hu; exact .inr ⟨s, by simp, hu⟩
 ·rw [if_neg h1]
  have hb : s.bind ≠ 0 := fun hb => h1 (.inl hb)
  rcases hg with hg | ⟨i0, s0, hg, hg2, hg3, hg4, hg5⟩
  ·exact absurd (.inr hg.1) h1
  rw [Int.zero_add] at hg
  rw [hg, Int.toNat_natCast, hg3, Option.getD_some]
  have hi0 := lt_of_some hg3
  have hlt : i0 < st.syms.length := by have := h.big; omega
  have hold : st.syms[i0]? = some s0 := by
   rcases h.old i0 s0 hg3 with ⟨t, h2, h3, h4, _⟩ | ⟨h2, _⟩
   ·exact absurd (h4.trans hg5) (hu hb t h2 h3)
   ·exact h2
  have hsame : ∀ (i : Nat) t, a.syms[i]? = some t → t.bind ≠ 0 → t.name = s.name → glo a.syms t.name = some t → t = s0 := fun i t _ _ hn hgt => by
   rw [hn, hg2] at hgt; injection hgt with hgt; exact hgt.symm
  by_cases h2 : tks s0 s = true
  ·rw [if_pos h2]
   refine ⟨by simp [h.len], by simp only [List.length_set]; exact h.big, fun i t ht => ?_, fun j t ht => ?_, fun t ht hb' => ?_, fun u hu' => ?_⟩
   ·by_cases hi : i0 = i
    ·subst hi
     rw [hg3] at ht
     injection ht with ht
     subst ht
     exact .inl ⟨s, by simp, hb, hg5.symm, hg4, h2, by simp [hlt]⟩
    ·simp only [List.getElem?_set, if_neg hi]
     rcases h.old i t ht with ⟨u, h3, h4⟩ | ⟨h3, h4⟩
     ·exact .inl ⟨u, by simp [h3], h4⟩
     ·refine .inr ⟨h3, fun hbt hgt u hu' hub hun => ?_⟩
      rcases List.mem_append.1 hu' with hu' | hu'
      ·exact h4 hbt hgt u hu' hub hun
      ·simp only [List.mem_singleton] at hu'
       subst hu'
       have := hsame i t ht hbt hun.symm hgt
       subst this
       -- the same symbol at two places: the first is meant by glo
       exfalso
       exact hi (uniq_ix ha hg3 ht hbt)
   ·have hset : ∀ (m : Nat) u, st.syms[m]? = some u → (t.bind = 0 → u = shS a.sects.length t) → (t.bind ≠ 0 → u.bind ≠ 0 ∧ u.name = t.name) → (m = i0 → t.bind ≠ 0 ∧ t.name = s.name → False) → (m = i0 → t.bind ≠ 0) → ∃ u', (st.syms.set i0 (shS a.sects.length s))[m]? = some u' ∧ (t.bind = 0 → u' = shS a.sects.length t) ∧ (t.bind ≠ 0 → u'.bind ≠ 0 ∧ u'.name = t.name) := fun m u h3 h4 h5 h6 h7 => by
     by_cases hm : i0 = m
     ·subst hm
      exfalso
      rw [hold] at h3
      injection h3 with h3
      subst h3
      have h8 := h7 rfl
      exact h6 rfl ⟨h8, ((h5 h8).2).symm.trans hg5⟩
     ·exact ⟨u, by rw [List.getElem?_set, if_neg hm]; exact h3, h4, h5⟩
    by_cases hj : j < l.length
    ·rw [List.getElem?_append_left hj] at ht
     obtain ⟨m, h3, u, h4, h5, h6⟩ := h.num j t ht
     refine ⟨m, by simp only [List.getElem?_append_left (by rw [h.len]; exact hj)]; exact h3, hset m u h4 h5 h6 (fun _ ⟨hbt, hnt⟩ => hu hb t (List.mem_of_getElem? ht) hbt hnt) (fun hm hbt => ?_)⟩
     subst hm
     have := h5 hbt
     rw [hold] at h4
     injection h4 with h4
     subst h4
     rw [this, shS_nb.2.1] at hg4
     exact hg4 hbt
    ·have e : j = l.length := by have := lt_of_some ht; simp at this; omega
     subst e
     simp only [List.getElem?_concat_length, Option.some.injEq] at ht
     subst ht
     exact ⟨i0, by rw [← h.len]; simp, shS a.sects.length s, by simp [hlt], fun _ => rfl, fun _ => ⟨by rw [shS_nb.2.1]; exact hb, shS_nb.1⟩⟩
   ·rcases List.mem_append.1 ht with ht | ht
    ·obtain ⟨m, hm⟩ := List.getElem?_of_mem (h.add t ht hb')
     refine List.mem_of_getElem? (i := m) ?_
     rw [List.getElem?_set, if_neg, hm]
     intro e
     subst e
     rw [hold] at hm
     injection hm with hm
     rcases hb' with hb' | hb'
     ·rw [hm, shS_nb.2.1] at hg4; exact hg4 hb'
     ·rw [show t.name = s.name by rw [← hg5, hm, shS_nb.1], hg2] at hb'; cases hb'
    ·simp only [List.mem_singleton] at ht
     subst ht
     exact List.mem_of_getElem? (i := i0) (by simp [hlt])
   ·rcases List.mem_or_eq_of_mem_set hu' with hu' | hu'
    ·rcases h.all u hu' with h3 | ⟨t, h3, h4⟩
     ·exact .inl h3
     ·exact .inr ⟨t, by simp [h3], h4⟩
    ·exact .inr ⟨s, by simp, hu'⟩
  ·rw [if_neg h2]
   refine ⟨by simp [h.len], h.big, fun i t ht => ?_, fun j t ht => ?_, fun t ht hb' => ?_, fun u hu' => ?_⟩
   ·rcases h.old i t ht with ⟨u, h3, h4⟩ | ⟨h3, h4⟩
    ·exact .inl ⟨u, by simp [h3], h4⟩
    ·refine .inr ⟨h3, fun hbt hgt u hu' hub hun => ?_⟩
     rcases List.mem_append.1 hu' with hu' | hu'
     ·exact h4 hbt hgt u hu' hub hun
     ·simp only [List.mem_singleton] at hu'
      subst hu'
      have := hsame i t ht hbt hun.symm hgt
      subst this
      exact Bool.eq_false_iff.2 h2
   ·by_cases hj : j < l.length
    ·rw [List.getElem?_append_left hj] at ht
     obtain ⟨m, h3, h4⟩ := h.num j t ht
     exact ⟨m, by simp only [List.getElem?_append_left (by rw [h.len]; exact hj)]; exact h3, h4⟩
    ·have e : j = l.length := by have := lt_of_some ht; simp at this; omega
     subst e
     simp only [List.getElem?_concat_length, Option.some.injEq] at ht
     subst ht
     exact ⟨i0, by rw [← h.len]; simp, s0, hold, fun h => absurd h hb, fun _ => ⟨hg4, hg5⟩⟩
   ·rcases List.mem_append.1 ht with ht | ht
    ·exact h.add t ht hb'
    ·simp only [List.mem_singleton] at ht
     subst ht
     rcases hb' with hb' | hb'
     ·exact absurd hb' hb
     ·rw [hg2] at hb'; cases hb'
   ·rcases h.all u hu' with h3 | ⟨t, h3, h4⟩
    ·exact .inl h3
    ·exact .inr ⟨t, by simp [h3], h4⟩
theorem jnF_ok {a : Objt} (ha : Uniq a.syms) : ∀ {l : List Sym} {l0 : List Sym} {st : Jn}, JnOk a l0 st → Uniq l → (∀ s ∈ l, s.bind ≠ 0 → ∀ t ∈ l0, t.bind ≠ 0 → t.name ≠ s.name) → JnOk a (l0 ++ l) (l.foldl (jnStep a) st) := by
 intro l
 induction l with
 | nil => intro l0 st h _ _; simpa using h
 | cons s l ih =>
  intro l0 st h hu hd
  have := ih (l0 := l0 ++ [s]) (jnStep_ok ha h (hd s (by simp))) hu.2 fun t ht htb u hu' hub => by
   rcases List.mem_append.1 hu' with hu' | hu'
   ·exact hd t (by simp [ht]) htb u hu' hub
   ·simp only [List.mem_singleton] at hu'
    subst hu'
    exact fun e => hu.1 hub t ht htb e.symm
  simpa using this
theorem jn_ok {a b : Objt} (ha : objB a = true) (hb : objB b = true) : JnOk a b.syms (jnF a b.syms) := by
 have := jnF_ok (objB_uniq ha) (l := b.syms) (l0 := []) (st := ⟨a.syms, []⟩) ⟨rfl, Nat.le_refl _, fun i s h => .inr ⟨h, fun _ _ t ht => (by cases ht)⟩, fun j t h => (by simp at h), fun t ht => (by cases ht), fun u hu => .inl hu⟩ (objB_uniq hb) fun _ _ _ t ht => (by cases ht)
 simpa [jnF] using this
end Go.Proofs.YtpgglbnagphgoaaGreat
