/- Patches: plain Lean. -/
import Derived.Test.YtdghhckdjbpfbaaImg
set_option linter.unusedVariables false
set_option linter.unusedSimpArgs false
namespace Go.Proofs.Ytdghhckdjbpfbaa
open Go Go.RowKit

/-- A byte behind the last patch's. -/
def lastApp (l : List Patch) (x : Int) : List Patch :=
  match l.getLast? with
  | none => l
  | some p => l.dropLast ++ [⟨p.at_, p.bytes ++ [x]⟩]
def pStep (base : Int) (st : List Patch × Bool) (i x y : Int) : List Patch × Bool :=
  if x = y then (st.1, false) else if st.2 = true then (lastApp st.1 y, true) else (st.1 ++ [⟨base + i, [y]⟩], true)
/-- The patches for the first i places. -/
def pAt (base : Int) (a b : List Int) : Nat → List Patch × Bool
  | 0 => ([], false)
  | i + 1 => pStep base (pAt base a b i) i (a.getD i 0) (b.getD i 0)
def patOk (a b : Img) : Bool := decide (imgOk a ∧ imgOk b ∧ a.base = b.base ∧ a.bytes.length = b.bytes.length)
def pats (a b : Img) : List Patch := if patOk a b = true then (pAt a.base a.bytes b.bytes a.bytes.length).1 else []
theorem pats_no {a b : Img} (h : patOk a b = false) : pats a b = [] := by rw [pats, if_neg (by simp [h])]
theorem pats_yes {a b : Img} {i : Int} (h : patOk a b = true) (hi : (a.bytes.length : Int) ≤ i) (hi' : i ≤ a.bytes.length) : (pAt a.base a.bytes b.bytes i.toNat).1 = pats a b := by
  rw [pats, if_pos h, show i.toNat = a.bytes.length by omega]
theorem patOk_iff {a b : Img} : patOk a b = true ↔ imgOk a ∧ imgOk b ∧ a.base = b.base ∧ a.bytes.length = b.bytes.length := by simp [patOk]
theorem pAt_next {base : Int} {a b : List Int} {i x y : Int} (hi : 0 ≤ i) (ha : a[i.toNat]? = some x) (hb : b[i.toNat]? = some y) : pAt base a b (i + 1).toNat = pStep base (pAt base a b i.toNat) i x y := by
  rw [toNat_succ hi, pAt, getD_some ha, getD_some hb, show ((i.toNat : Nat) : Int) = i by omega]
theorem pAt_same {base : Int} {a b : List Int} {i x : Int} (hi : 0 ≤ i) (ha : a[i.toNat]? = some x) (hb : b[i.toNat]? = some x) : pAt base a b (i + 1).toNat = ((pAt base a b i.toNat).1, false) := by
  rw [pAt_next hi ha hb, pStep, if_pos rfl]
theorem pAt_new {base : Int} {a b : List Int} {i x y : Int} (hi : 0 ≤ i) (ha : a[i.toNat]? = some x) (hb : b[i.toNat]? = some y) (hne : ¬ x = y) (hd : (pAt base a b i.toNat).2 = false) : pAt base a b (i + 1).toNat = ((pAt base a b i.toNat).1 ++ [⟨base + i, [y]⟩], true) := by
  rw [pAt_next hi ha hb, pStep, if_neg hne, if_neg (by simp [hd])]
theorem pAt_more {base : Int} {a b : List Int} {i x y : Int} (hi : 0 ≤ i) (ha : a[i.toNat]? = some x) (hb : b[i.toNat]? = some y) (hne : ¬ x = y) (hd : (pAt base a b i.toNat).2 = true) : pAt base a b (i + 1).toNat = (lastApp (pAt base a b i.toNat).1 y, true) := by
  rw [pAt_next hi ha hb, pStep, if_neg hne, if_pos hd]
theorem pAt_diff {base : Int} {a b : List Int} {i x y : Int} (hi : 0 ≤ i) (ha : a[i.toNat]? = some x) (hb : b[i.toNat]? = some y) : (pAt base a b (i + 1).toNat).2 = decide (¬ x = y) := by
  rw [pAt_next hi ha hb, pStep]
  split
  · simp [*]
  · split <;> simp [*]
theorem lastApp_len (l : List Patch) (x : Int) : (lastApp l x).length = l.length := by
  unfold lastApp
  cases h : l.getLast? with
  | none => rfl
  | some p =>
    have : l ≠ [] := fun e => by subst e; cases h
    simp only [List.length_append, List.length_dropLast, List.length_cons, List.length_nil]
    have : 0 < l.length := List.length_pos_iff.2 this
    omega
theorem pAt_len {base : Int} {a b : List Int} : ∀ i : Nat, (pAt base a b i).1.length ≤ i ∧ ((pAt base a b i).2 = true → 0 < (pAt base a b i).1.length) := by
  intro i
  induction i with
  | zero => exact ⟨Nat.le_refl _, fun h => by cases h⟩
  | succ i ih =>
    simp only [pAt, pStep]
    split
    · exact ⟨by have := ih.1; simp only; omega, fun h => by cases h⟩
    · split
      · rename_i hd
        simp only [lastApp_len]
        exact ⟨by have := ih.1; omega, fun _ => ih.2 hd⟩
      · simp only [List.length_append, List.length_cons, List.length_nil]
        exact ⟨by have := ih.1; omega, fun _ => by omega⟩
/-- The last element by its place. -/
theorem lastApp_set {l : List Patch} {k : Int} {p : Patch} {y : Int} (hk : k = (l.length : Int) - 1) (hk0 : 0 ≤ k) (hp : l[k.toNat]? = some p) : l.set k.toNat ⟨p.at_, p.bytes ++ [y]⟩ = lastApp l y := by
  have hkl : k.toNat = l.length - 1 := by omega
  have hlt : l.length - 1 < l.length := by omega
  have hg : l.getLast? = some p := by rw [List.getLast?_eq_getElem?, ← hkl]; exact hp
  unfold lastApp
  rw [hg, hkl]
  simp only
  have hl : l = l.dropLast ++ [p] := by
    have hne : l ≠ [] := fun e => by subst e; cases hg
    have h1 := List.dropLast_concat_getLast hne
    rw [List.getLast?_eq_some_getLast hne] at hg
    injection hg with hg
    rw [hg] at h1
    exact h1.symm
  conv => lhs; rw [hl]
  have e : (l.dropLast ++ [p]).length - 1 = l.dropLast.length := by simp
  rw [← hl, List.length_dropLast] at e
  conv => lhs; rw [List.set_append_right _ _ (by simp)]
  simp
theorem lastApp_new {l : List Patch} {a y : Int} : (l ++ [(⟨a, []⟩ : Patch)]).set l.length ⟨a, [y]⟩ = l ++ [⟨a, [y]⟩] := by
  rw [List.set_append_right _ _ (Nat.le_refl _)]
  simp

theorem lastApp_mem {l : List Patch} {x : Int} {p : Patch} (h : p ∈ lastApp l x) : p ∈ l ∨ ∃ q ∈ l, p = ⟨q.at_, q.bytes ++ [x]⟩ := by
  unfold lastApp at h
  split at h
  · exact .inl h
  · rename_i q hq
    rcases List.mem_append.1 h with h | h
    · exact .inl ((List.dropLast_sublist l).subset h)
    · simp only [List.mem_singleton] at h
      exact .inr ⟨q, List.mem_of_getLast? hq, h⟩
theorem pAt_bytes {base : Int} {a b : List Int} : ∀ (i : Nat) (p : Patch), p ∈ (pAt base a b i).1 → p.bytes.length ≤ i := by
  intro i
  induction i with
  | zero => intro p h; simp [pAt] at h
  | succ i ih =>
    intro p h
    simp only [pAt, pStep] at h
    split at h
    · have := ih p h; omega
    · split at h
      · rcases lastApp_mem h with h | ⟨q, hq, rfl⟩
        · have := ih p h; omega
        · have := ih q hq; simp; omega
      · rcases List.mem_append.1 h with h | h
        · have := ih p h; omega
        · simp only [List.mem_singleton] at h
          subst h
          simp
/-- The patches just ahead of a byte that differs. -/
def preL (base : Int) (a b : List Int) (i : Int) : List Patch := if (pAt base a b i.toNat).2 = true then (pAt base a b i.toNat).1 else (pAt base a b i.toNat).1 ++ [⟨base + i, []⟩]
theorem preL_ok {base : Int} {a b : List Int} {i x y : Int} (hi : 0 ≤ i) (ha : a[i.toNat]? = some x) (hb : b[i.toNat]? = some y) (hne : ¬ x = y) :
    0 < (preL base a b i).length ∧ (preL base a b i).length ≤ i.toNat + 1 ∧ lastApp (preL base a b i) y = (pAt base a b (i + 1).toNat).1 ∧ (pAt base a b (i + 1).toNat).2 = true := by
  have hl := pAt_len (base := base) (a := a) (b := b) i.toNat
  unfold preL
  cases hd : (pAt base a b i.toNat).2 with
  | true =>
    rw [if_pos rfl, pAt_more hi ha hb hne hd]
    exact ⟨hl.2 hd, by omega, rfl, rfl⟩
  | false =>
    rw [if_neg (by simp), pAt_new hi ha hb hne hd]
    refine ⟨by simp, by simp; omega, ?_, rfl⟩
    simp [lastApp]
theorem preL_more {base : Int} {a b : List Int} {i : Int} (hd : (pAt base a b i.toNat).2 = true) : preL base a b i = (pAt base a b i.toNat).1 := by rw [preL, if_pos hd]
theorem preL_new {base : Int} {a b : List Int} {i : Int} (hd : (pAt base a b i.toNat).2 = false) : preL base a b i = (pAt base a b i.toNat).1 ++ [⟨base + i, []⟩] := by rw [preL, if_neg (by simp [hd])]
theorem preL_diff {base : Int} {a b : List Int} {i y : Int} (hl : a.length = b.length) (hi : 0 ≤ i) (hb : b[i.toNat]? = some y) (hn : ¬ a[i.toNat]? = some y) :
    0 < (preL base a b i).length ∧ (preL base a b i).length ≤ i.toNat + 1 ∧ lastApp (preL base a b i) y = (pAt base a b (i + 1).toNat).1 ∧ (pAt base a b (i + 1).toNat).2 = true := by
  have h1 : i.toNat < a.length := by rw [hl]; exact lt_of_some hb
  have h2 := List.getElem?_eq_getElem h1
  exact preL_ok hi h2 hb fun e => hn (by rw [h2, e])
theorem preL_bytes {base : Int} {a b : List Int} {i : Int} {k : Nat} {p : Patch} (h : (preL base a b i)[k]? = some p) : p.bytes.length ≤ i.toNat := by
  have h := List.mem_of_getElem? h
  unfold preL at h
  split at h
  · exact pAt_bytes _ _ h
  · rcases List.mem_append.1 h with h | h
    · exact pAt_bytes _ _ h
    · simp only [List.mem_singleton] at h
      subst h
      simp
theorem pv_t {base : Int} {a b : List Int} {k u v : Int} (hk : 0 < k) (h1 : a[(k - 1).toNat]? = some u) (h2 : b[(k - 1).toNat]? = some v) (h3 : u ≠ v) : (pAt base a b k.toNat).2 = true := by
  have := pAt_diff (base := base) (i := k - 1) (by omega) h1 h2
  rw [show k - 1 + 1 = k by omega] at this
  rw [this]; simp [h3]
theorem sp_new1 {base : Int} {a b : List Int} {k x y z u v : Int} (hne : ¬ x = y) (hk : 0 < k) (ha : a[k.toNat]? = some x) (hb : b[k.toNat]? = some y) (hz : b[k.toNat]? = some z) (h3 : ¬ u ≠ v) (h1 : a[(k - 1).toNat]? = some u) (h2 : b[(k - 1).toNat]? = some v) : (pAt base a b k.toNat).1 ++ [⟨base + k, [z]⟩] = (pAt base a b (k + 1).toNat).1 := by
  have := pAt_diff (base := base) (i := k - 1) (by omega) h1 h2
  rw [show k - 1 + 1 = k by omega] at this
  have e : y = z := by rw [hb] at hz; injection hz
  rw [pAt_new (by omega) ha hb hne (by rw [this]; simpa using h3), e]
theorem sp_new0 {base : Int} {a b : List Int} {k x y z : Int} (hne : ¬ x = y) (hk : 0 ≤ k) (hk0 : k ≤ 0) (ha : a[k.toNat]? = some x) (hb : b[k.toNat]? = some y) (hz : b[k.toNat]? = some z) : (pAt base a b k.toNat).1 ++ [⟨base + k, [z]⟩] = (pAt base a b (k + 1).toNat).1 := by
  have e : y = z := by rw [hb] at hz; injection hz
  have e0 : k = 0 := by omega
  rw [pAt_new (by omega) ha hb hne (by subst e0; rfl), e]
theorem sp_same {base : Int} {a b : List Int} {k x y : Int} (hxy : x = y) (hk : 0 ≤ k) (ha : a[k.toNat]? = some x) (hb : b[k.toNat]? = some y) : (pAt base a b k.toNat).1 = (pAt base a b (k + 1).toNat).1 := by
  subst hxy
  rw [pAt_same hk ha hb]
theorem ns_ {l : List Int} {k : Nat} {x y : Int} (h1 : l[k]? = some y) (hn : y ≠ x) (h2 : l[k]? = some x) : False := by
  rw [h1] at h2
  injection h2 with h2
  exact hn h2
theorem ex_get {α : Type} {l : List α} {k : Nat} : (∃ y, l[k]? = some y) ↔ k < l.length :=
  ⟨fun ⟨_, h⟩ => lt_of_some h, fun h => ⟨_, List.getElem?_eq_getElem h⟩⟩
theorem hol_put' {L : List Patch} {k : Int} {p : Patch} {y : Int} (hk : k = (L.length : Int) - 1) (hk0 : 0 ≤ k) (hp : L[k.toNat]? = some p) :
    ((L.map fun z => (z, true)).set k.toNat (p, false)).set k.toNat (⟨p.at_, p.bytes ++ [y]⟩, true) = (lastApp L y).map fun z => (z, true) := by
  rw [List.set_set, ← lastApp_set hk hk0 hp, List.map_set]
theorem preL_pos {base : Int} {a b : List Int} {i : Int} (h : (pAt base a b i.toNat).2 = true) : 0 < (preL base a b i).length := by
  rw [preL_more h]
  exact (pAt_len i.toNat).2 h
theorem ns2 {a b : List Int} {k : Nat} {x y z : Int} (hne : ¬ x = y) (ha : a[k]? = some x) (hb : b[k]? = some y) (h1 : b[k]? = some z) (h2 : a[k]? = some z) : False := by
  rw [hb] at h1
  injection h1 with h1
  rw [ha] at h2
  injection h2 with h2
  exact hne (h2.trans h1.symm)
theorem preL_get {base : Int} {a b : List Int} {i : Int} (p : Patch) (y : Int) (h : (preL base a b i)[(((preL base a b i).length : Int) - 1).toNat]? = some p) (h0 : 0 < (preL base a b i).length) :
    ((preL base a b i).map fun z => (z, true)).set (((preL base a b i).length : Int) - 1).toNat (⟨p.at_, p.bytes ++ [y]⟩, true) = (lastApp (preL base a b i) y).map fun z => (z, true) := by
  have := hol_put' (y := y) rfl (by omega) h
  rwa [List.set_set] at this
theorem sp_fin {base : Int} {a b : List Int} {i y : Int} {p q : Patch} (hn : ∀ x, b[i.toNat]? = some x → ¬ a[i.toNat]? = some x) (hl : a.length = b.length) (hi : 0 ≤ i) (hb : b[i.toNat]? = some y) (hp : (preL base a b i)[(((preL base a b i).length : Int) - 1).toNat]? = some p) (hq : p = q) :
    (pAt base a b (i + 1).toNat).1.map (fun z => (z, true)) = ((preL base a b i).map fun z => (z, true)).set (((preL base a b i).length : Int) - 1).toNat (⟨q.at_, p.bytes ++ [y]⟩, true) := by
  obtain ⟨p1, p2, p3, p4⟩ := preL_diff (base := base) hl hi hb (hn _ hb)
  subst hq
  rw [preL_get _ _ hp p1, p3]
/-- A list put back into the last element. -/
theorem hol_put {L : List Patch} {k : Int} {p : Patch} {y : Int} (hk : k = (L.length : Int) - 1) (hk0 : 0 ≤ k) (hp : L[k.toNat]? = some p) :
    ((L.map fun z => (z, true)).set k.toNat (p, false)).set k.toNat (⟨p.at_, p.bytes ++ [y]⟩, true) = (lastApp L y).map fun z => (z, true) := by
  rw [List.set_set, ← lastApp_set hk hk0 hp, List.map_set]
theorem hol_get {L : List Patch} {k : Nat} {p : Patch} {b : Bool} : (L.map fun z => (z, true))[k]? = some (p, b) ↔ L[k]? = some p ∧ b = true := by
  rw [List.getElem?_map, Option.map_eq_some_iff]
  constructor
  · rintro ⟨q, h1, h2⟩
    injection h2 with h2 h3
    exact ⟨h2 ▸ h1, h3.symm⟩
  · rintro ⟨h1, rfl⟩
    exact ⟨p, h1, rfl⟩

/-! What patches make. -/
def putP (out : List Int) (a : Int) (b : List Int) : List Int := out.take a.toNat ++ b ++ out.drop (a.toNat + b.length)
theorem putP_len {out b : List Int} {a : Int} (h0 : 0 ≤ a) (h : a + b.length ≤ out.length) : (putP out a b).length = out.length := by
  simp [putP]; omega
def apB (base : Int) : List Patch → List Int → List Int
  | [], o => o
  | p :: l, o => apB base l (putP o (p.at_ - base) p.bytes)
def apP (m : Img) (l : List Patch) : Img := if patB m l = true then ⟨m.base, apB m.base l m.bytes⟩ else ⟨0, []⟩
theorem apB_app {base : Int} : ∀ {l m : List Patch} {o : List Int}, apB base (l ++ m) o = apB base m (apB base l o) := by
  intro l
  induction l with
  | nil => intro m o; rfl
  | cons p l ih => intro m o; simp only [List.cons_append, apB, ih]
theorem apB_len {base hi : Int} : ∀ {l : List Patch} {o : List Int} {a : Int}, base ≤ a → hi = base + o.length → patsB hi a l = true → (apB base l o).length = o.length := by
  intro l
  induction l with
  | nil => intro o a _ _ _; rfl
  | cons p l ih =>
    intro o a h0 hh h
    simp only [patsB, Bool.and_eq_true, decide_eq_true_eq] at h
    have e : (putP o (p.at_ - base) p.bytes).length = o.length := putP_len (by omega) (by omega)
    simp only [apB]
    rw [ih (a := p.at_ + p.bytes.length + 1) (by omega) (by rw [e]; exact hh) h.2, e]
theorem apB_next {base : Int} {l : List Patch} {o : List Int} {i : Int} {p : Patch} (hi : 0 ≤ i) (h : l[i.toNat]? = some p) : apB base (l.take (i + 1).toNat) o = putP (apB base (l.take i.toNat) o) (p.at_ - base) p.bytes := by
  rw [toNat_succ hi, take_snoc h, apB_app]
  rfl
theorem patsB_mono' {hi : Int} : ∀ {l : List Patch} {a a' : Int}, a' ≤ a → patsB hi a l = true → patsB hi a' l = true := by
  intro l
  cases l with
  | nil => intro a a' _ _; rfl
  | cons p l =>
    intro a a' h h'
    simp only [patsB, Bool.and_eq_true, decide_eq_true_eq] at h' ⊢
    exact ⟨⟨h'.1.1, by omega, h'.1.2.2⟩, h'.2⟩
theorem patsB_take {hi : Int} : ∀ {l : List Patch} {a : Int} (k : Nat), patsB hi a l = true → patsB hi a (l.take k) = true := by
  intro l
  induction l with
  | nil => intro a k h; simpa using h
  | cons p l ih =>
    intro a k h
    cases k with
    | zero => rfl
    | succ k =>
      simp only [patsB, Bool.and_eq_true, decide_eq_true_eq] at h
      simp only [List.take_succ_cons, patsB, Bool.and_eq_true, decide_eq_true_eq]
      exact ⟨h.1, ih k h.2⟩
theorem patsB_get {hi : Int} : ∀ {l : List Patch} {a : Int} {k : Nat} {p : Patch}, patsB hi a l = true → l[k]? = some p → a ≤ p.at_ ∧ p.at_ + p.bytes.length ≤ hi := by
  intro l
  induction l with
  | nil => intro a k p _ h; simp at h
  | cons q l ih =>
    intro a k p h hk
    simp only [patsB, Bool.and_eq_true, decide_eq_true_eq] at h
    cases k with
    | zero =>
      simp only [List.getElem?_cons_zero, Option.some.injEq] at hk
      subst hk
      omega
    | succ k =>
      have := ih h.2 (by simpa using hk)
      omega
/-- What is used of patches that are put in. -/
theorem ap_fact {m : Img} {l : List Patch} {i : Int} {p : Patch} (h : patB m l = true) (hp : l[i.toNat]? = some p) : 0 ≤ p.at_ - m.base ∧ p.at_ - m.base + p.bytes.length ≤ m.bytes.length ∧ m.bytes.length ≤ 2000 ∧ 0 ≤ m.base ∧ m.base ≤ 4096 ∧ (apB m.base (l.take i.toNat) m.bytes).length = m.bytes.length := by
  simp only [patB, Bool.and_eq_true, decide_eq_true_eq] at h
  have h1 := patsB_get h.2 hp
  have h2 := imgOk_bd h.1.1
  have h3 := apB_len (base := m.base) (hi := m.base + m.bytes.length) (o := m.bytes) (Int.le_refl _) rfl (patsB_take i.toNat h.2)
  omega
theorem putP_copy {o b : List Int} {a : Int} (h0 : 0 ≤ a) (h : a + b.length ≤ o.length) : o.take a.toNat ++ b.take (o.length - a.toNat) ++ o.drop (a.toNat + min b.length (o.length - a.toNat)) = putP o a b := by
  unfold putP
  rw [List.take_of_length_le (l := b) (by omega), Nat.min_eq_left (by omega)]
theorem putP_zero {o b : List Int} {a : Int} : putP o a (b.take (0 : Int).toNat) = o := by simp [putP]
theorem putP_all {o b : List Int} {a : Int} {j : Int} (h : (b.length : Int) ≤ j) : putP o a (b.take j.toNat) = putP o a b := by rw [List.take_of_length_le (by omega)]
theorem putP_set {o b : List Int} {a j x : Int} (h0 : 0 ≤ a) (hj : 0 ≤ j) (h : a + b.length ≤ o.length) (hx : b[j.toNat]? = some x) : (putP o a (b.take j.toNat)).set (a + j).toNat x = putP o a (b.take (j + 1).toNat) := by
  have hl := lt_of_some hx
  have e1 : (b.take j.toNat).length = j.toNat := by rw [List.length_take]; omega
  have e2 : (b.take (j + 1).toNat).length = j.toNat + 1 := by rw [List.length_take]; omega
  have e3 : (o.take a.toNat ++ b.take j.toNat).length = (a + j).toNat := by rw [List.length_append, List.length_take, e1]; omega
  unfold putP
  rw [e1, e2, List.set_append_right _ _ (by omega), e3, Nat.sub_self]
  have hd : o.drop (a.toNat + j.toNat) = o[a.toNat + j.toNat]'(by omega) :: o.drop (a.toNat + (j.toNat + 1)) := List.drop_eq_getElem_cons (by omega)
  rw [hd, List.set_cons_zero, toNat_succ hj, take_snoc hx]
  simp
theorem putP_set' {l : List Patch} {i : Nat} {p q d : Patch} {o : List Int} {base j x : Int} (hp : l[i]? = some p) (hx : q.bytes[j.toNat]? = some x) (hq : l[i]? = some q) (hj : 0 ≤ j) (h0 : 0 ≤ p.at_ - base) (h : p.at_ - base + p.bytes.length ≤ o.length) :
    (putP o ((l.getD i d).at_ - base) ((l.getD i d).bytes.take j.toNat)).set (p.at_ - base + j).toNat x = putP o ((l.getD i d).at_ - base) ((l.getD i d).bytes.take (j + 1).toNat) := by
  rw [getD_of hp]
  rw [hp] at hq
  injection hq with hq
  subst hq
  exact putP_set h0 hj h hx
theorem putP_tlen {o b : List Int} {a j : Int} (h0 : 0 ≤ a) (h : a + b.length ≤ o.length) : (putP o a (b.take j.toNat)).length = o.length := by
  refine putP_len h0 ?_
  rw [List.length_take]
  omega
theorem ap_set {m : Img} {l : List Patch} {i j x : Int} {p q d : Patch} (h : patB m l = true) (hp : l[i.toNat]? = some p) (hx : q.bytes[j.toNat]? = some x) (hq : l[i.toNat]? = some q) (hj : 0 ≤ j) :
    (putP (apB m.base (l.take i.toNat) m.bytes) ((l.getD i.toNat d).at_ - m.base) ((l.getD i.toNat d).bytes.take j.toNat)).set (p.at_ - m.base + j).toNat x = putP (apB m.base (l.take i.toNat) m.bytes) ((l.getD i.toNat d).at_ - m.base) ((l.getD i.toNat d).bytes.take (j + 1).toNat) := by
  have := ap_fact h hp
  exact putP_set' hp hx hq hj (by omega) (by omega)
theorem apP_no {m : Img} {l : List Patch} (h : patB m l = false) : apP m l = ⟨0, []⟩ := by rw [apP, if_neg (by simp [h])]
theorem apP_yes {m : Img} {l : List Patch} {i : Int} (h : patB m l = true) (hi : (l.length : Int) ≤ i) : apP m l = ⟨m.base, apB m.base (l.take i.toNat) m.bytes⟩ := by
  rw [apP, if_pos h, List.take_of_length_le (by omega)]
theorem patB_bd {m : Img} {l : List Patch} (h : patB m l = true) : m.bytes.length ≤ 2000 ∧ l.length ≤ 1000 ∧ 0 ≤ m.base ∧ m.base ≤ 4096 := by
  simp only [patB, Bool.and_eq_true, decide_eq_true_eq] at h
  have := imgOk_bd h.1.1
  omega
/-- Where the next patch may begin. -/
def nextAt (a : Int) (l : List Patch) : Int := match l.getLast? with | none => a | some q => q.at_ + q.bytes.length + 1
theorem patsB_snoc {hi : Int} {p : Patch} : ∀ {l : List Patch} {a : Int}, patsB hi a (l ++ [p]) = (patsB hi a l && decide ((p.bytes.length : Int) ≠ 0 ∧ nextAt a l ≤ p.at_ ∧ p.at_ ≤ hi - p.bytes.length)) := by
  intro l
  induction l with
  | nil => intro a; simp [patsB, nextAt]
  | cons q l ih =>
    intro a
    simp only [List.cons_append, patsB, ih, Bool.and_assoc]
    congr 2
    cases l with
    | nil => simp [nextAt]
    | cons r l => simp [nextAt, List.getLast?_cons]
/-- What holds of the patches for the first i places. -/
theorem pAt_many {base : Int} {a b : List Int} : ∀ i : Nat, 2 * (pAt base a b i).1.length ≤ i + 1 ∧ ((pAt base a b i).2 = false → 2 * (pAt base a b i).1.length ≤ i) := by
  intro i
  induction i with
  | zero => exact ⟨by simp [pAt], fun _ => by simp [pAt]⟩
  | succ i ih =>
    simp only [pAt, pStep]
    split
    · simp only
      exact ⟨by omega, fun _ => by omega⟩
    · split
      · simp only [lastApp_len]
        exact ⟨by omega, fun h => by cases h⟩
      · rename_i hd
        have := ih.2 (by simpa using hd)
        simp only [List.length_append, List.length_cons, List.length_nil]
        exact ⟨by omega, fun h => by cases h⟩
theorem pAt_ok {base hi : Int} {a b : List Int} (hl : a.length = b.length) : ∀ i : Nat, i ≤ a.length → base + i ≤ hi → patsB hi base (pAt base a b i).1 = true ∧ apB base (pAt base a b i).1 a = b.take i ++ a.drop i ∧
    ((pAt base a b i).2 = true → ∃ l p, (pAt base a b i).1 = l ++ [p] ∧ p.at_ + p.bytes.length = base + i) ∧ ((pAt base a b i).2 = false → nextAt base (pAt base a b i).1 ≤ base + i) := by
  intro i
  induction i with
  | zero => intro _ _; exact ⟨rfl, by simp [pAt, apB], (fun h => by cases h), fun _ => by simp [pAt, nextAt]⟩
  | succ i ih =>
    intro hi1 hi2
    obtain ⟨h1, h2, h3, h4⟩ := ih (by omega) (by omega)
    have hx : a[i]? = some (a.getD i 0) := by rw [List.getD, List.getElem?_eq_getElem (by omega)]; rfl
    have hy : b[i]? = some (b.getD i 0) := by rw [List.getD, List.getElem?_eq_getElem (by omega)]; rfl
    have ht : b.take (i + 1) = b.take i ++ [b.getD i 0] := take_snoc hy
    have hd : a.drop i = a.getD i 0 :: a.drop (i + 1) := drop_get hx
    have hbl : (b.take i).length = i := by rw [List.length_take]; omega
    simp only [pAt, pStep]
    split
    · rename_i he
      refine ⟨h1, ?_, (fun h => by cases h), fun _ => ?_⟩
      · simp only
        rw [h2, ht, hd, he, List.append_assoc]
        rfl
      · cases hdf : (pAt base a b i).2 with
        | false => have := h4 hdf; simp only; omega
        | true =>
          obtain ⟨l, p, g1, g2⟩ := h3 hdf
          simp only
          rw [g1]
          simp only [nextAt, List.getLast?_append, List.getLast?_singleton, Option.some_or]
          omega
    · rename_i he
      split
      · rename_i hdf
        obtain ⟨l, p, g1, g2⟩ := h3 hdf
        rw [g1] at h1 h2
        have e : lastApp (l ++ [p]) (b.getD i 0) = l ++ [⟨p.at_, p.bytes ++ [b.getD i 0]⟩] := by simp [lastApp]
        simp only
        rw [g1, e]
        rw [patsB_snoc] at h1 ⊢
        simp only [Bool.and_eq_true, decide_eq_true_eq] at h1 ⊢
        rw [apB_app] at h2 ⊢
        simp only [apB] at h2 ⊢
        refine ⟨⟨h1.1, ?_⟩, ?_, fun _ => ⟨l, _, rfl, ?_⟩, fun h => by cases h⟩
        · simp only [List.length_append, List.length_cons, List.length_nil]
          omega
        · generalize apB base l a = o at h2
          have hpl : (p.at_ - base).toNat + p.bytes.length = i := by
            have := h1.2.2.1
            have : base ≤ p.at_ := by
              refine Int.le_trans ?_ this
              unfold nextAt
              cases hg : l.getLast? with
              | none => exact Int.le_refl _
              | some q =>
                simp only
                have hq := List.mem_of_getLast? hg
                have : ∀ {m : List Patch} {x : Int}, patsB hi x m = true → ∀ q ∈ m, x ≤ q.at_ := fun {m} => by
                  induction m with
                  | nil => intro x _ q hq; cases hq
                  | cons r m im =>
                    intro x hx q hq
                    simp only [patsB, Bool.and_eq_true, decide_eq_true_eq] at hx
                    rcases List.mem_cons.1 hq with rfl | hq
                    · exact hx.1.2.1
                    · have := im hx.2 q hq; omega
                have := this h1.1 q hq
                omega
            omega
          unfold putP at h2 ⊢
          have hlen := congrArg List.length h2
          have h5 : o.drop ((p.at_ - base).toNat + p.bytes.length) = a.drop i := by
            have := congrArg (List.drop ((o.take (p.at_ - base).toNat ++ p.bytes).length)) h2
            rw [List.drop_left'  rfl] at this
            have ho : (p.at_ - base).toNat ≤ o.length := by
              rcases Nat.lt_or_ge o.length (p.at_ - base).toNat with hlt | hge
              · exfalso
                have : p.bytes.length ≠ 0 := by omega
                simp only [List.length_append, List.length_take, List.length_drop, hbl] at hlen
                omega
              · exact hge
            rw [show (o.take (p.at_ - base).toNat ++ p.bytes).length = i by simp only [List.length_append, List.length_take]; omega, List.drop_left' hbl] at this
            rw [this]
          have h6 : o.take (p.at_ - base).toNat ++ p.bytes = b.take i := by
            rw [h5] at h2
            exact List.append_cancel_right h2
          have h7 : o.drop ((p.at_ - base).toNat + (p.bytes ++ [b.getD i 0]).length) = a.drop (i + 1) := by
            have : o.drop ((p.at_ - base).toNat + (p.bytes ++ [b.getD i 0]).length) = (o.drop ((p.at_ - base).toNat + p.bytes.length)).drop 1 := by
              rw [List.drop_drop]
              congr 1
              simp
              omega
            rw [this, h5, hd]
            rfl
          rw [h7, ← List.append_assoc, h6, ht]
        · simp only [List.length_append, List.length_cons, List.length_nil]
          omega
      · rename_i hdf
        have hdf : (pAt base a b i).2 = false := by simpa using hdf
        have h5 := h4 hdf
        simp only
        rw [patsB_snoc, apB_app]
        simp only [Bool.and_eq_true, decide_eq_true_eq]
        refine ⟨⟨h1, by simp, h5, by simp only [List.length_cons, List.length_nil]; omega⟩, ?_, fun _ => ⟨_, _, rfl, by simp only [List.length_cons, List.length_nil]; omega⟩, fun h => by cases h⟩
        rw [h2]
        simp only [apB, putP]
        rw [show (base + (i : Int) - base).toNat = i by omega, List.take_left' hbl, List.drop_append, hbl, ht]
        have : i + [b.getD i 0].length - i = 1 := by simp
        rw [this, List.drop_eq_nil_of_le (by simp; omega), hd]
        simp
theorem pats_ok {a b : Img} (h : patOk a b = true) : patB a (pats a b) = true ∧ apP a (pats a b) = b := by
  obtain ⟨h1, h2, h3, h4⟩ := patOk_iff.1 h
  have hb := imgOk_bd h1
  have hk := pAt_ok (base := a.base) (hi := a.base + a.bytes.length) h4 a.bytes.length (Nat.le_refl _) (by omega)
  have hl := (pAt_len (base := a.base) (a := a.bytes) (b := b.bytes) a.bytes.length).1
  have e : pats a b = (pAt a.base a.bytes b.bytes a.bytes.length).1 := by rw [pats, if_pos h]
  have hv : patB a (pats a b) = true := by
    rw [e]
    simp only [patB, Bool.and_eq_true, decide_eq_true_eq]
    have hm := (pAt_many (base := a.base) (a := a.bytes) (b := b.bytes) a.bytes.length).1
    exact ⟨⟨h1, by omega⟩, hk.1⟩
  refine ⟨hv, ?_⟩
  rw [apP, if_pos hv, e, hk.2.1]
  cases b with
  | mk bb bs =>
    simp only at h3 h4 ⊢
    rw [h3]
    congr 1
    rw [List.drop_eq_nil_of_le (Nat.le_refl _), List.append_nil, h4]
    exact List.take_of_length_le (Nat.le_refl _)
end Go.Proofs.Ytdghhckdjbpfbaa
