/- Where sections lie: apart, in order, further on from a greater base. Plain Lean. -/
import Derived.Test.YtignicccfjdiiaaLnkD
set_option linter.unusedVariables false
set_option linter.unusedSimpArgs false
namespace Go.Proofs.Ytignicccfjdiiaa
open Go Go.RowKit

theorem plS_ge {c : Int} {l : List Sect} {a : Int} (h : secsOk l) : a ≤ plS c l a := (plS_bd h).1
theorem curAt_mono {l : List Objt} {b c k i j : Int} (h : layOk l b = true) (hi : 0 ≤ i) (hij : i ≤ j) : curAt l b c k i ≤ curAt l b c k j := by
  unfold curAt
  have hs := (sectsAt_ok (lay_all h).1 k).1
  have e : (sectsAt l k).take j.toNat = (sectsAt l k).take i.toNat ++ ((sectsAt l k).take j.toNat).drop i.toNat := by
    have := List.take_append_drop i.toNat ((sectsAt l k).take j.toNat)
    rw [List.take_take, Nat.min_eq_left (by omega)] at this
    exact this.symm
  rw [e, plS_app]
  exact plS_ge fun s hs' => hs s (List.mem_of_mem_take (List.mem_of_mem_drop hs'))
theorem curO_mono {l : List Objt} {b c k q : Int} (h : layOk l b = true) (hk : 0 ≤ k) (hkq : k ≤ q) : curO l b c k ≤ curO l b c q := by
  unfold curO
  have ha := (lay_all h).1
  have e : l.take q.toNat = l.take k.toNat ++ (l.take q.toNat).drop k.toNat := by
    have := List.take_append_drop k.toNat (l.take q.toNat)
    rw [List.take_take, Nat.min_eq_left (by omega)] at this
    exact this.symm
  rw [e, plO_app]
  refine (plO_bd ?_).1
  rw [List.all_eq_true] at *
  exact fun o ho => ha o (List.mem_of_mem_take (List.mem_of_mem_drop ho))
theorem curO_beg {l : List Objt} {b c k : Int} (h : layOk l b = true) (hk : 0 ≤ k) : begK l b c ≤ curO l b c k := by
  have := curO_mono (b := b) (c := c) h (Int.le_refl 0) hk
  rwa [curO_zero] at this
theorem curAt_O {l : List Objt} {b c k i : Int} (h : layOk l b = true) (hi : 0 ≤ i) : curO l b c k ≤ curAt l b c k i := by
  have := curAt_mono (b := b) (c := c) (k := k) h (Int.le_refl 0) hi
  rwa [curAt_zero] at this
theorem curAt_le_end {l : List Objt} {b c k i : Int} (h : layOk l b = true) (hk : 0 ≤ k) (hl : k < l.length) (hi : 0 ≤ i) : curAt l b c k i ≤ curO l b c (k + 1) := by
  by_cases hi' : i ≤ (sectsAt l k).length
  · rw [← curAt_end (b := b) (c := c) hk hl (Int.le_refl _)]
    exact curAt_mono h hi hi'
  · rw [← curAt_end (b := b) (c := c) (i := i) hk hl (by omega)]
    exact Int.le_refl _
theorem atK_step {l : List Objt} {b : Int} (h : layOk l b = true) (n : Nat) : atK l b n ≤ alg (atK l b n) 8 ∧ alg (atK l b n) 8 ≤ atK l b (n + 1) := by
  have h1 := alg_bd (n := atK l b n) al8_8
  have h2 := plO_bd (c := (n : Int) + 1) (a := alg (atK l b n) 8) (lay_all h).1
  simp only [atK]
  omega
theorem atK_mono {l : List Objt} {b : Int} (h : layOk l b = true) : ∀ {n m : Nat}, n ≤ m → atK l b n ≤ atK l b m := by
  intro n m hnm
  induction hnm with
  | refl => exact Int.le_refl _
  | step _ ih => have := atK_step h; rename_i m _; have := this m; exact Int.le_trans ih (Int.le_trans this.1 this.2)
/-- A section's place and the place behind it. -/
def secP (l : List Objt) (b k i : Int) : Int := plc l b k.toNat i.toNat
theorem secP_eq {l : List Objt} {b k i : Int} {s : Sect} (hk : 0 ≤ k) (hl : k < l.length) (hi : 0 ≤ i) (hs : (sectsAt l k)[i.toNat]? = some s) : secP l b k i = alg (curAt l b s.kind k i) s.align ∧ curAt l b s.kind k (i + 1) = secP l b k i + secSize s := by
  have e := plc_cur (b := b) hk hl hs
  exact ⟨e, by rw [curAt_hit hi hs rfl]; unfold secP; rw [e]⟩
theorem secP_in {l : List Objt} {b k i : Int} {s : Sect} (h : layOk l b = true) (hk : 0 ≤ k) (hl : k < l.length) (hi : 0 ≤ i) (hs : (sectsAt l k)[i.toNat]? = some s) : curAt l b s.kind k i ≤ secP l b k i ∧ secP l b k i % s.align = 0 ∧ begK l b s.kind ≤ secP l b k i ∧ secP l b k i + secSize s ≤ atK l b s.kind.toNat ∧ 0 ≤ secSize s ∧ secSize s ≤ 48 ∧ 1 ≤ s.kind ∧ s.kind ≤ 3 ∧ 1 ≤ s.align := by
  obtain ⟨e1, e2⟩ := secP_eq (b := b) hk hl hi hs
  have g := sect_ok h hs
  have a1 := alg_bd (n := curAt l b s.kind k i) g.2.2.1
  have a2 := al8_bd g.2.2.1
  have c1 := curO_beg (b := b) (c := s.kind) h hk
  have c2 := curAt_O (b := b) (c := s.kind) (k := k) h hi
  have c3 := curAt_le_end (b := b) (c := s.kind) (i := i + 1) h hk hl (by omega)
  have c4 := curO_mono (b := b) (c := s.kind) (k := k + 1) (q := l.length) h (by omega) (by omega)
  rw [curO_end (b := b) g.1 (Int.le_refl _)] at c4
  rw [e2] at c3
  refine ⟨by omega, by rw [e1]; exact a1.2.2, by omega, by omega, g.2.2.2.1, g.2.2.2.2, g.1, g.2.1, a2.1⟩
theorem secP_rng {l : List Objt} {b k i : Int} {s : Sect} (h : layOk l b = true) (hk : 0 ≤ k) (hl : k < l.length) (hi : 0 ≤ i) (hs : (sectsAt l k)[i.toNat]? = some s) : b ≤ secP l b k i ∧ secP l b k i + secSize s ≤ atK l b 3 ∧ 0 ≤ secSize s := by
  have g := secP_in h hk hl hi hs
  have g1 := atK_mono h (n := 0) (m := (s.kind - 1).toNat) (by omega)
  have g2 := atK_step h (s.kind - 1).toNat
  have g3 := atK_mono h (n := s.kind.toNat) (m := 3) (by omega)
  have e1 : atK l b 0 = b := rfl
  have e2 : begK l b s.kind = alg (atK l b (s.kind - 1).toNat) 8 := rfl
  omega
/-- Ahead of each other: by kind, object, number. -/
theorem secP_lt {l : List Objt} {b k i q j : Int} {s t : Sect} (h : layOk l b = true) (hk : 0 ≤ k) (hl : k < l.length) (hi : 0 ≤ i) (hs : (sectsAt l k)[i.toNat]? = some s) (hq : 0 ≤ q) (hql : q < l.length) (hj : 0 ≤ j) (ht : (sectsAt l q)[j.toNat]? = some t)
    (hlt : s.kind < t.kind ∨ (s.kind = t.kind ∧ (k < q ∨ (k = q ∧ i < j)))) : secP l b k i + secSize s ≤ secP l b q j := by
  have g1 := secP_in h hk hl hi hs
  have g2 := secP_in h hq hql hj ht
  obtain ⟨_, e2⟩ := secP_eq (b := b) hk hl hi hs
  rcases hlt with hlt | ⟨he, hlt | ⟨rfl, hlt⟩⟩
  · have m1 := atK_mono h (n := s.kind.toNat) (m := (t.kind - 1).toNat) (by omega)
    have m2 := atK_step h (t.kind - 1).toNat
    have : begK l b t.kind = alg (atK l b (t.kind - 1).toNat) 8 := rfl
    omega
  · have m1 := curAt_le_end (b := b) (c := s.kind) (i := i + 1) h hk hl (by omega)
    have m2 := curO_mono (b := b) (c := s.kind) (k := k + 1) (q := q) h (by omega) (by omega)
    have m3 := curAt_O (b := b) (c := s.kind) (k := q) h hj
    rw [← he] at g2
    omega
  · have m1 := curAt_mono (b := b) (c := s.kind) (k := k) (i := i + 1) (j := j) h (by omega) (by omega)
    rw [← he] at g2
    omega
theorem secP_dis {l : List Objt} {b k i q j : Int} {s t : Sect} (h : layOk l b = true) (hk : 0 ≤ k) (hl : k < l.length) (hi : 0 ≤ i) (hs : (sectsAt l k)[i.toNat]? = some s) (hq : 0 ≤ q) (hql : q < l.length) (hj : 0 ≤ j) (ht : (sectsAt l q)[j.toNat]? = some t)
    (hne : k ≠ q ∨ i ≠ j) : secP l b k i + secSize s ≤ secP l b q j ∨ secP l b q j + secSize t ≤ secP l b k i := by
  by_cases h1 : s.kind < t.kind ∨ (s.kind = t.kind ∧ (k < q ∨ (k = q ∧ i < j)))
  · exact .inl (secP_lt h hk hl hi hs hq hql hj ht h1)
  · exact .inr (secP_lt h hq hql hj ht hk hl hi hs (by omega))
/-- What is used ahead of a place in section j of object k: by those ahead. -/
structure Used (l : List Objt) (b k j i : Int) (u : List Bool) : Prop where
  len : u.length = (endPl l b - b).toNat
  old : ∀ p : Nat, u[p]? = some true → ∃ (k' j' : Int) (s' : Sect), 0 ≤ k' ∧ k' < l.length ∧ 0 ≤ j' ∧ (sectsAt l k')[j'.toNat]? = some s' ∧ secP l b k' j' - b ≤ p ∧ p < secP l b k' j' - b + secSize s' ∧ (k' < k ∨ (k' = k ∧ (j' < j ∨ (j' = j ∧ p < secP l b k j - b + i))))
theorem used_first {l : List Objt} {b : Int} (n : Int) (h : layOk l b = true) (hn : n = max 0 (endPl l b - b)) : Used l b 0 0 0 (repl n false) := by
  have := endPl_yes h
  refine ⟨by simp [repl]; omega, fun p hp => ?_⟩
  simp [repl, List.getElem?_replicate] at hp
theorem used_obj {l : List Objt} {b k j : Int} {u : List Bool} (h : Used l b k j 0 u) : Used l b (k + 1) 0 0 u := by
  refine ⟨h.len, fun p hp => ?_⟩
  obtain ⟨k', j', s', h1, h2, h3, h4, h5, h6, h7⟩ := h.old p hp
  exact ⟨k', j', s', h1, h2, h3, h4, h5, h6, by omega⟩
theorem used_sec {l : List Objt} {b k j i : Int} {u : List Bool} (h : Used l b k j i u) : Used l b k (j + 1) 0 u := by
  refine ⟨h.len, fun p hp => ?_⟩
  obtain ⟨k', j', s', h1, h2, h3, h4, h5, h6, h7⟩ := h.old p hp
  exact ⟨k', j', s', h1, h2, h3, h4, h5, h6, by omega⟩
theorem used_free {l : List Objt} {b k j i : Int} {u : List Bool} {s : Sect} {y : Bool} (h : Used l b k j i u) (hb : layOk l b = true) (hk : 0 ≤ k) (hl : k < l.length) (hj : 0 ≤ j) (hs : (sectsAt l k)[j.toNat]? = some s) (hi : 0 ≤ i) (his : i < secSize s) (hy : u[(secP l b k j - b + i).toNat]? = some y) : y = false := by
  cases y with
  | false => rfl
  | true =>
    have r := secP_rng hb hk hl hj hs
    obtain ⟨k', j', s', h1, h2, h3, h4, h5, h6, h7⟩ := h.old _ hy
    by_cases e : k' = k ∧ j' = j
    · obtain ⟨rfl, rfl⟩ := e; omega
    · have := secP_dis hb h1 h2 h3 h4 hk hl hj hs (by omega)
      omega
theorem used_set {l : List Objt} {b k j i : Int} {u : List Bool} {s : Sect} (h : Used l b k j i u) (hb : layOk l b = true) (hk : 0 ≤ k) (hl : k < l.length) (hj : 0 ≤ j) (hs : (sectsAt l k)[j.toNat]? = some s) (hi : 0 ≤ i) (his : i < secSize s) : Used l b k j (i + 1) (u.set (secP l b k j - b + i).toNat true) := by
  have r := secP_rng hb hk hl hj hs
  refine ⟨by rw [List.length_set]; exact h.len, fun p hp => ?_⟩
  by_cases e : (secP l b k j - b + i).toNat = p
  · exact ⟨k, j, s, hk, hl, hj, hs, by omega, by omega, by omega⟩
  · rw [List.getElem?_set_ne e] at hp
    obtain ⟨k', j', s', h1, h2, h3, h4, h5, h6, h7⟩ := h.old p hp
    exact ⟨k', j', s', h1, h2, h3, h4, h5, h6, by omega⟩
/-! A greater base. -/
theorem alg_shift {n a : Int} (h : al8 a) : alg (n + 8) a = alg n a + 8 := by
  unfold alg
  rcases h with rfl | rfl | rfl | rfl <;> omega
theorem plS_shift {c : Int} : ∀ {l : List Sect} {a : Int}, secsOk l → plS c l (a + 8) = plS c l a + 8 := by
  intro l
  induction l with
  | nil => intro a _; rfl
  | cons s l ih =>
    intro a h
    have hs := h s (by simp)
    have hl : secsOk l := fun t ht => h t (List.mem_cons_of_mem _ ht)
    simp only [plS]
    split
    · rw [alg_shift hs.2.2.1, ← ih hl]; congr 1; omega
    · exact ih hl
theorem plO_shift {c : Int} : ∀ {l : List Objt} {a : Int}, l.all objB = true → plO c l (a + 8) = plO c l a + 8 := by
  intro l
  induction l with
  | nil => intro a _; rfl
  | cons o l ih =>
    intro a h
    simp only [List.all_cons, Bool.and_eq_true] at h
    simp only [plO]
    rw [plS_shift (objB_secs h.1), ih h.2]
theorem atK_shift {l : List Objt} {b : Int} (h : l.all objB = true) : ∀ n : Nat, atK l (b + 8) n = atK l b n + 8 := by
  intro n
  induction n with
  | zero => rfl
  | succ n ih => simp only [atK]; rw [ih, alg_shift al8_8, plO_shift h]
theorem plc_shift {l : List Objt} {b : Int} {k i : Nat} {o : Objt} {s : Sect} (h : l.all objB = true) (ho : l[k]? = some o) (hs : o.sects[i]? = some s) : plc l (b + 8) k i = plc l b k i + 8 := by
  have hso := secsOk_get (objB_secs (all_get h ho)) hs
  rw [plc_eq ho hs, plc_eq ho hs]
  have e : begK l (b + 8) s.kind = begK l b s.kind + 8 := by unfold begK; rw [atK_shift h, alg_shift al8_8]
  rw [e, plO_shift (all_take h k), plS_shift (secsOk_take (objB_secs (all_get h ho)) i), alg_shift hso.2.2.1]
theorem syPl_shift {l : List Objt} {b k j m n : Int} {o : Objt} {s : Sym} (ho : l[k.toNat]? = some o) (hs : o.syms[j.toNat]? = some s) (hw : 0 ≤ s.wher) (hb : s.bind = 0) (hn : syPl l b k j = some n) (hm : syPl l (b + 8) k j = some m) : m = n + 8 := by
  have y1 : layOk l b = true ∧ inS l k j = true := by
    refine Classical.byContradiction fun hc => ?_
    rw [syPl, if_neg hc] at hn; cases hn
  have y2 : layOk l (b + 8) = true ∧ inS l k j = true := by
    refine Classical.byContradiction fun hc => ?_
    rw [syPl, if_neg hc] at hm; cases hm
  rw [syPl_yes y1.1 y1.2, layout_yes y1.1, syV_eq ho hs, if_pos hb] at hn
  rw [syPl_yes y2.1 y2.2, layout_yes y2.1, syV_eq ho hs, if_pos hb] at hm
  injection hn with hn
  injection hm with hm
  rw [plV_eq (g := ⟨k, j⟩) ho hs, if_neg (by omega)] at hn hm
  have ha := (lay_all y1.1).1
  have h3 := objB_sym (all_get ha ho) (List.mem_of_getElem? hs)
  rcases h3.2 with h4 | h4 | ⟨h4, h5, h6, t, h7, h8⟩
  · omega
  · omega
  · simp only at hn hm
    rw [places_getD ho h7] at hn hm
    have := plc_shift (b := b) ha ho h7
    omega
/-- The same name means the same place. -/
theorem syPl_same {l : List Objt} {b k j a i m n : Int} {o q : Objt} {s t : Sym} (ho : l[k.toNat]? = some o) (hs : o.syms[j.toNat]? = some s) (hq : l[a.toNat]? = some q) (ht : q.syms[i.toNat]? = some t) (he : t.name = s.name) (h1 : t.bind ≠ 0) (h2 : s.bind ≠ 0) (hn : syPl l b k j = some n) (hm : syPl l b a i = some m) : m = n := by
  have y1 : layOk l b = true ∧ inS l k j = true := by
    refine Classical.byContradiction fun hc => ?_
    rw [syPl, if_neg hc] at hn; cases hn
  have y2 : layOk l b = true ∧ inS l a i = true := by
    refine Classical.byContradiction fun hc => ?_
    rw [syPl, if_neg hc] at hm; cases hm
  rw [syPl_yes y1.1 y1.2, syV_eq ho hs, if_neg h2] at hn
  rw [syPl_yes y2.1 y2.2, syV_eq hq ht, if_neg h1, he] at hm
  cases hf : fnd l s.name with
  | some g =>
    rw [hf] at hn hm
    injection hn with hn
    injection hm with hm
    rw [← hn, ← hm]
  | none =>
    rw [hf] at hn hm
    simp only at hn hm
    split at hn
    · split at hm
      · injection hn with hn; injection hm with hm; omega
      · cases hm
    · cases hn
/-- What a name means is what its symbol means. -/
theorem syPl_fnd {l : List Objt} {b : Int} {n : ByteArray} {g : Given} (h : layOk l b = true) (hf : fnd l n = some g) : syPl l b g.in_ g.at_ = some (plV (layout l b).places l g) := by
  have hg : ∃ o s, 0 ≤ g.in_ ∧ 0 ≤ g.at_ ∧ l[g.in_.toNat]? = some o ∧ o.syms[g.at_.toNat]? = some s ∧ s.name = n ∧ s.bind ≠ 0 := by
    rcases fnd_some hf with ⟨h1, h2, o, s, h3, h4, h5, h6, _⟩ | ⟨h1, h2, o, s, h3, h4, h5, h6, _⟩
    · exact ⟨o, s, h1, h2, h3, h4, h5, by omega⟩
    · exact ⟨o, s, h1, h2, h3, h4, h5, by omega⟩
  obtain ⟨o, s, h1, h2, h3, h4, h5, h6⟩ := hg
  have hi : inS l g.in_ g.at_ = true := inS_iff.2 ⟨h1, by have := lt_of_some h3; omega, h2, by rw [symsAt_eq h3]; have := lt_of_some h4; omega⟩
  rw [syPl_yes h hi, syV_eq h3 h4, if_neg h6, h5, hf]
theorem nmV_get {pl : List (List Int)} {l : List Objt} : ∀ {ns : List ByteArray} {i : Nat} {n : ByteArray}, ns[i]? = some n → (nmV pl l ns)[i]? = some (plV pl l ((fnd l n).getD ⟨0, 0⟩)) := by
  intro ns
  induction ns with
  | nil => intro i n h; simp at h
  | cons a ns ih =>
    intro i n h
    cases i with
    | zero => simp only [List.getElem?_cons_zero, Option.some.injEq] at h; subst h; rfl
    | succ i => simp only [List.getElem?_cons_succ] at h; simp only [nmV, List.getElem?_cons_succ]; exact ih h
theorem nm_all {l : List Objt} {b : Int} {ns : List ByteArray} {i : Nat} {n : ByteArray} (h : nmOk l b ns = true) (hn : ns[i]? = some n) : layOk l b = true ∧ objsB l = true ∧ (fndV l n).isSome = true ∧ fndV l n = fnd l n ∧ syPl l b ((fnd l n).getD ⟨0, 0⟩).in_ ((fnd l n).getD ⟨0, 0⟩).at_ = some (plV (layout l b).places l ((fnd l n).getD ⟨0, 0⟩)) ∧ (nmP l b ns)[i]? = some (plV (layout l b).places l ((fnd l n).getD ⟨0, 0⟩)) ∧ (nmP l b ns).length = ns.length := by
  have h' := h
  simp only [nmOk, nmAll, Bool.and_eq_true] at h'
  have h1 := (layOk_iff.1 h'.1).1
  have h2 := all_get h'.2 hn
  have e : fndV l n = fnd l n := by rw [fndV, if_pos h1]
  refine ⟨h'.1, h1, by rw [e]; exact h2, e, ?_, ?_, ?_⟩
  · cases hf : fnd l n with
    | none => rw [hf] at h2; cases h2
    | some g => exact syPl_fnd h'.1 hf
  · rw [nmP, if_pos h]; exact nmV_get hn
  · rw [nmP, if_pos h, nmV_len]
/-! Kinds, regions. -/
theorem endsK_get {l : List Objt} {b k : Int} {x : List Int} (h : layOk l b = true) (h0 : 0 ≤ k) (hx : (layout l b).ends[k.toNat]? = some x) : x = [begK l b (k + 1), atK l b (k + 1).toNat] ∧ k ≤ 2 ∧ atK l b k.toNat ≤ begK l b (k + 1) ∧ begK l b (k + 1) ≤ atK l b (k + 1).toNat ∧ begK l b (k + 1) % 8 = 0 := by
  rw [layout_yes h] at hx
  simp only [endsK_3] at hx
  have hk : k = 0 ∨ k = 1 ∨ k = 2 := by
    have := lt_of_some hx
    simp at this
    omega
  have st := fun n => atK_step h n
  have md := fun n => alg_bd (n := atK l b n) al8_8
  rcases hk with rfl | rfl | rfl
  · simp at hx
    exact ⟨hx.symm, by omega, (st 0).1, (st 0).2, (md 0).2.2⟩
  · simp at hx
    exact ⟨hx.symm, by omega, (st 1).1, (st 1).2, (md 1).2.2⟩
  · simp at hx
    exact ⟨hx.symm, by omega, (st 2).1, (st 2).2, (md 2).2.2⟩
theorem ends_len {l : List Objt} {b : Int} : (layout l b).ends.length = if layOk l b = true then 3 else 0 := by
  cases h : layOk l b with
  | true => rw [layout_yes h]; rfl
  | false => rw [layout_no h]; rfl
theorem regs_facts (l : List Objt) (b : Int) : (regs (layout l b).ends 0).length ≤ 3 ∧ (∀ (k : Nat) r, (regs (layout l b).ends 0)[k]? = some r → r.run ≠ r.write ∧ r.from_ < r.to ∧ ∀ q, 0 < k → (regs (layout l b).ends 0)[k - 1]? = some q → q.to ≤ r.from_) := by
  cases h : layOk l b with
  | false => rw [layout_no h]; exact ⟨by simp [regs], fun k r hr => by simp [regs] at hr⟩
  | true =>
    refine ⟨by have := regs_len (layout l b).ends 0; rw [ends_len, if_pos h] at this; exact this, ?_⟩
    rw [layout_yes h]
    simp only [endsK_3]
    have s0 := atK_step h 0
    have s1 := atK_step h 1
    have s2 := atK_step h 2
    have e1 : begK l b 1 = alg (atK l b 0) 8 := rfl
    have e2 : begK l b 2 = alg (atK l b 1) 8 := rfl
    have e3 : begK l b 3 = alg (atK l b 2) 8 := rfl
    simp only [Nat.reduceAdd] at s0 s1 s2
    rw [← e1] at s0
    rw [← e2] at s1
    rw [← e3] at s2
    simp only [regs, reg1, List.getD_cons_zero, List.getD_cons_succ]
    intro k r hr
    by_cases c1 : begK l b 1 < atK l b 1 <;> by_cases c2 : begK l b 2 < atK l b 2 <;> by_cases c3 : begK l b 3 < atK l b 3 <;> simp only [c1, c2, c3, if_true, if_false, List.nil_append, List.cons_append, List.append_nil] at hr ⊢ <;> (rcases k with _ | _ | _ | k <;> simp at hr <;> subst hr <;> simp <;> omega)
end Go.Proofs.Ytignicccfjdiiaa
