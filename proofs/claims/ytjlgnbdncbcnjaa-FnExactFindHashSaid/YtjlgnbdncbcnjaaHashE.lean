/- Hash tables: what is found. Plain Lean. -/
import Derived.Test.YtjlgnbdncbcnjaaHashD
set_option linter.unusedVariables false
set_option linter.unusedSimpArgs false
namespace Go.Proofs.Ytjlgnbdncbcnjaa
open Go Go.RowKit

def restH (t : HashT) (name : ByteArray) (k : Int) : Int × Int := if k < 0 then (-1, 0) else walkH t.first.length (hashOf name % t.first.length) name (t.names.drop k.toNat) k
/-- A place that the walk may stand at. -/
def okH (t : HashT) (name : ByteArray) (k : Int) : Prop := k = -1 ∨ (0 ≤ k ∧ k < t.names.length ∧ ∀ s, t.names[k.toNat]? = some s → hashOf s % t.first.length = hashOf name % t.first.length)
theorem hashB_iff {t : HashT} : hashB t = true ↔ 0 < t.first.length ∧ hashOk t.names t.first.length = true ∧ firstL t.first.length t.names 0 = t.first ∧ nextL t.first.length t.names 0 = t.next := by
  simp only [hashB, Bool.and_eq_true, decide_eq_true_eq]
theorem hashOk_iff {l : List ByteArray} {b : Int} : hashOk l b = true ↔ ((l.length : Int) ≤ 40 ∧ 1 ≤ b ∧ b ≤ 8) ∧ l.all nameB = true ∧ l.Nodup := by
  simp only [hashOk, Bool.and_eq_true, decide_eq_true_eq]
theorem walk_skip {b j : Int} {name : ByteArray} {l : List ByteArray} {k m : Int} (hk : 0 ≤ k) (h : nxt b j l k = m) (hm : 0 ≤ m) : walkH b j name l k = walkH b j name (l.drop (m - k).toNat) m ∧ k ≤ m ∧ m < k + l.length ∧ ∃ s, l[(m - k).toNat]? = some s ∧ hashOf s % b = j := by
  obtain ⟨s, h1, h2, h3, h4⟩ := walkH_some (name := name) hk h hm
  refine ⟨?_, h2, ?_, s, h1, h3⟩
  · rw [h4, drop_get h1]
    simp only [walkH, if_pos h3]
  · have := lt_of_some h1
    omega
theorem rest_of {t : HashT} {name : ByteArray} {k m : Int} (hk : 0 ≤ k) (h : nxt t.first.length (hashOf name % t.first.length) (t.names.drop k.toNat) k = m) : walkH t.first.length (hashOf name % t.first.length) name (t.names.drop k.toNat) k = restH t name m ∧ okH t name m ∧ (0 ≤ m → k ≤ m) := by
  have hb := nxt_bd (b := t.first.length) (j := hashOf name % t.first.length) (l := t.names.drop k.toNat) hk
  rw [h] at hb
  by_cases hm : 0 ≤ m
  · obtain ⟨h1, h2, h3, s, h4, h5⟩ := walk_skip (name := name) hk h hm
    rw [List.drop_drop, show k.toNat + (m - k).toNat = m.toNat by omega] at h1
    rw [List.getElem?_drop, show k.toNat + (m - k).toNat = m.toNat by omega] at h4
    refine ⟨?_, .inr ⟨hm, ?_, fun s' hs' => ?_⟩, fun _ => h2⟩
    · rw [h1, restH, if_neg (by omega)]
    · have := lt_of_some h4
      omega
    · rw [h4] at hs'
      injection hs' with hs'
      rw [← hs']; exact h5
  · have e : m = -1 := by omega
    refine ⟨?_, .inl e, fun h' => absurd h' hm⟩
    rw [walkH_none hk (by rw [h, e]), restH, if_pos (by omega)]
theorem find_first {t : HashT} {name : ByteArray} {m : Int} (h : hashB t = true) (hm : t.first[(hashOf name % t.first.length).toNat]? = some m) : findH t name = restH t name m ∧ okH t name m := by
  obtain ⟨h1, h2, h3, h4⟩ := hashB_iff.1 h
  have n0 := Int.emod_nonneg (hashOf name) (show (t.first.length : Int) ≠ 0 by omega)
  have n1 := Int.emod_lt_of_pos (hashOf name) (show (0 : Int) < t.first.length by omega)
  have e : nxt t.first.length (hashOf name % t.first.length) t.names 0 = m := by
    have := firstL_get (b := t.first.length) (l := t.names) (k := 0) (j := (hashOf name % t.first.length).toNat) (by omega)
    rw [h3, hm, Int.toNat_of_nonneg n0] at this
    injection this with this
    exact this.symm
  have := rest_of (t := t) (name := name) (k := 0) (m := m) (by omega) (by simpa using e)
  refine ⟨?_, this.2.1⟩
  rw [findH, if_pos h]
  simpa using this.1
theorem rest_hit {t : HashT} {name : ByteArray} {k : Int} (h0 : 0 ≤ k) (hs : t.names[k.toNat]? = some name) : restH t name k = (k, 1) := by
  rw [restH, if_neg (by omega), drop_get hs]
  simp [walkH]
theorem rest_next {t : HashT} {name s : ByteArray} {k m : Int} (h : hashB t = true) (ho : okH t name k) (h0 : 0 ≤ k) (hs : t.names[k.toNat]? = some s) (hn : ¬ s = name) (hm : t.next[k.toNat]? = some m) : restH t name k = ((restH t name m).1, (restH t name m).2 + 1) ∧ okH t name m ∧ (0 ≤ m → k < m) := by
  obtain ⟨h1, h2, h3, h4⟩ := hashB_iff.1 h
  have he : hashOf s % t.first.length = hashOf name % t.first.length := by
    rcases ho with e | ⟨_, _, h'⟩
    · omega
    · exact h' s hs
  have e : nxt t.first.length (hashOf name % t.first.length) (t.names.drop (k + 1).toNat) (k + 1) = m := by
    have := nextL_get (b := t.first.length) (k := 0) hs
    rw [h4, hm, he] at this
    injection this with this
    rw [this, show (k + 1).toNat = k.toNat + 1 by omega]
    congr 1
    omega
  have hr := rest_of (t := t) (name := name) (k := k + 1) (m := m) (by omega) e
  refine ⟨?_, hr.2.1, fun hm => by have := hr.2.2 hm; omega⟩
  rw [restH, if_neg (by omega), drop_get hs]
  simp only [walkH, if_pos he, if_neg hn]
  rw [show k.toNat + 1 = (k + 1).toNat by omega, hr.1]
theorem rest_end {t : HashT} {name : ByteArray} {k : Int} (h : k < 0) : restH t name k = (-1, 0) := by rw [restH, if_pos h]
theorem mkHash_of {t : HashT} (h : hashB t = true) : mkHash t.names t.first.length = t := by
  obtain ⟨h1, h2, h3, h4⟩ := hashB_iff.1 h
  rw [mkHash, if_pos h2, h3, h4]
theorem mkHash_yes {l : List ByteArray} {b : Int} (h : hashOk l b = true) : (mkHash l b).names = l ∧ (mkHash l b).first = firstL b l 0 ∧ (mkHash l b).next = nextL b l 0 ∧ (mkHash l b).first.length = b.toNat ∧ (mkHash l b).next.length = l.length ∧ 1 ≤ b ∧ b ≤ 8 := by
  have hb := (hashOk_iff.1 h).1
  rw [mkHash, if_pos h]
  exact ⟨rfl, rfl, rfl, firstL_len _ _ _, nextL_len _ _ _, hb.2.1, hb.2.2⟩
theorem mkHash_no {l : List ByteArray} {b : Int} (h : hashOk l b = false) : mkHash l b = ⟨[], [], []⟩ := by
  rw [mkHash, if_neg (by simp [h])]
theorem mkHash_B {l : List ByteArray} {b : Int} (h : hashOk l b = true) : hashB (mkHash l b) = true := by
  obtain ⟨h1, h2, h3, h4, h5, h6, h7⟩ := mkHash_yes h
  rw [hashB_iff, h4, h1, show ((b.toNat : Nat) : Int) = b by omega]
  exact ⟨by omega, h, h2.symm, h3.symm⟩
theorem walk_found {b j : Int} {name : ByteArray} : ∀ {l : List ByteArray} {k : Int} {i : Nat}, l.Nodup → l[i]? = some name → hashOf name % b = j → (walkH b j name l k).1 = k + i ∧ 1 ≤ (walkH b j name l k).2 ∧ (walkH b j name l k).2 ≤ i + 1 := by
  intro l
  induction l with
  | nil => intro k i _ h; simp at h
  | cons s l ih =>
    intro k i hn h hj
    obtain ⟨n1, n2⟩ := List.nodup_cons.1 hn
    cases i with
    | zero =>
      simp only [List.getElem?_cons_zero, Option.some.injEq] at h
      subst h
      simp [walkH, hj]
    | succ i =>
      simp only [List.getElem?_cons_succ] at h
      have hne : ¬ s = name := fun e => n1 (e ▸ List.mem_of_getElem? h)
      have := ih (k := k + 1) n2 h hj
      simp only [walkH]
      split
      · try rw [if_neg hne]
        simp only
        omega
      · omega
theorem walk_not {b j : Int} {name : ByteArray} : ∀ {l : List ByteArray} {k : Int}, (∀ s ∈ l, s ≠ name) → (walkH b j name l k).1 = -1 ∧ 0 ≤ (walkH b j name l k).2 ∧ (walkH b j name l k).2 ≤ l.length := by
  intro l
  induction l with
  | nil => intro k _; simp [walkH]
  | cons s l ih =>
    intro k h
    have := ih (k := k + 1) fun x hx => h x (List.mem_cons_of_mem _ hx)
    simp only [walkH]
    split
    · rw [if_neg (h s (by simp))]
      simp only [List.length_cons]
      omega
    · simp only [List.length_cons]
      omega
theorem find_found {t : HashT} {name : ByteArray} {i : Int} (h : hashB t = true) (h0 : 0 ≤ i) (hi : t.names[i.toNat]? = some name) : (findH t name).1 = i ∧ 1 ≤ (findH t name).2 ∧ (findH t name).2 ≤ t.names.length := by
  have hd := (hashOk_iff.1 (hashB_iff.1 h).2.1).2.2
  have := walk_found (k := 0) hd hi (rfl : hashOf name % t.first.length = hashOf name % t.first.length)
  have hl := lt_of_some hi
  rw [findH, if_pos h]
  omega
theorem find_not {t : HashT} {name : ByteArray} (h : ∀ s ∈ t.names, s ≠ name) : (findH t name).1 = -1 ∧ 0 ≤ (findH t name).2 ∧ (findH t name).2 ≤ t.names.length := by
  unfold findH
  split
  · exact walk_not h
  · simp
theorem find_bad {t : HashT} {name : ByteArray} (h : hashB t = false) : findH t name = (-1, 0) := by
  rw [findH, if_neg (by simp [h])]
end Go.Proofs.Ytjlgnbdncbcnjaa
