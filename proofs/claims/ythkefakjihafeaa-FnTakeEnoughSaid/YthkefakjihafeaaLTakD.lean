/- What the laws on taken objects use: plain Lean. -/
import Derived.Test.YthkefakjihafeaaTak
set_option linter.unusedVariables false
set_option linter.unusedSimpArgs false
namespace Go.Proofs.Ythkefakjihafeaa
open Go Go.RowKit

theorem takV_rng {l : List Objt} {arch : List Member} {i : Nat} {k : Int} (h : (takV l arch)[i]? = some k) : 0 ≤ k ∧ k < arch.length ∧ objsB l = true ∧ archB arch = true := by
  have hm := List.mem_of_getElem? h
  cases ho : objsB l with
  | false => rw [takV_no (.inl ho)] at hm; cases hm
  | true =>
    cases ha : archB arch with
    | false => rw [takV_no (.inr ha)] at hm; cases hm
    | true =>
      rw [takV_yes ho ha] at hm
      have := (taken_ok l arch).rng k hm
      exact ⟨this.1, this.2, rfl, rfl⟩
theorem takV_nod {l : List Objt} {arch : List Member} {i j : Int} {a b : Int} (hi : (takV l arch)[i.toNat]? = some a) (hj : (takV l arch)[j.toNat]? = some b) (h0 : 0 ≤ j) (hij : j < i) : b ≠ a := by
  have hr := takV_rng hi
  rw [takV_yes hr.2.2.1 hr.2.2.2] at hi hj
  obtain ⟨h1, h2⟩ := List.getElem?_eq_some_iff.1 hi
  obtain ⟨h3, h4⟩ := List.getElem?_eq_some_iff.1 hj
  have := List.pairwise_iff_getElem.1 (taken_ok l arch).nod j.toNat i.toNat h3 h1 (by omega)
  rw [h2, h4] at this
  exact this
theorem takV_len (l : List Objt) (arch : List Member) : (takV l arch).length ≤ arch.length := by
  unfold takV
  split
  · exact nodup_len (taken_ok l arch).nod (taken_ok l arch).rng
  · simp
theorem takV_fst {l : List Objt} {arch : List Member} {k : Int} {m : Member} (h : (takV l arch)[0]? = some k) (hm : arch[k.toNat]? = some m) : ((namesM l).drop (Int.toNat 0)).any (fun n => decide (n ∈ namesG m.what)) = true := by
  have hr := takV_rng h
  rw [takV_yes hr.2.2.1 hr.2.2.2] at h
  obtain ⟨m', h1, h2⟩ := (taken_ok l arch).fst k (by rw [List.head?_eq_getElem?]; exact h)
  rw [hm] at h1
  injection h1 with h1
  subst h1
  unfold hasM at h2
  rw [List.any_eq_true] at h2 ⊢
  obtain ⟨n, hn, h3⟩ := h2
  refine ⟨n, ?_, decide_eq_true hn⟩
  unfold namesM
  rw [if_pos hr.2.2.1]
  exact of_decide_eq_true h3
def hitO (o g : List ByteArray) (k : Int) : Bool := (o.drop k.toNat).any fun n => decide (n ∈ g)
def hitG (o g : List ByteArray) (k j : Int) : Bool := (match o[k.toNat]? with | some n => decide (n ∈ g.drop j.toNat) | none => false) || hitO o g (k + 1)
theorem hitG_first {o g : List ByteArray} {k : Int} {n : ByteArray} (hk : 0 ≤ k) (h : o[k.toNat]? = some n) (hh : hitO o g k = true) : hitG o g k 0 = true := by
  unfold hitG hitO at *
  rw [drop_get' h hk] at hh
  rw [h]
  simpa using hh
theorem hitG_fst {o g : List ByteArray} {k : Int} (hk : 0 ≤ k) (hl : k < o.length) (hh : hitO o g k = true) : hitG o g k 0 = true := hitG_first hk (List.getElem?_eq_getElem (by omega)) hh
theorem hitG_next {o g : List ByteArray} {k j : Int} {n x : ByteArray} (hj : 0 ≤ j) (h : o[k.toNat]? = some n) (hx : g[j.toNat]? = some x) (hne : n ≠ x) (hh : hitG o g k j = true) : hitG o g k (j + 1) = true := by
  unfold hitG at *
  rw [h] at hh ⊢
  rw [drop_get' hx hj] at hh
  simp only [List.mem_cons, hne, false_or] at hh
  exact hh
theorem hitG_end {o g : List ByteArray} {k j : Int} (hj : (g.length : Int) ≤ j) (hh : hitG o g k j = true) : hitO o g (k + 1) = true := by
  unfold hitG at hh
  rw [drop_end hj] at hh
  split at hh <;> simpa using hh
theorem hitO_end {o g : List ByteArray} {k : Int} (hk : (o.length : Int) ≤ k) : hitO o g k = false := by unfold hitO; rw [drop_end hk]; rfl
/-- Members that are taken, and the others. -/
def tkE (x : List Int) : List Member → Int → List Objt
  | [], _ => []
  | m :: r, k => if k ∈ x then m.what :: tkE x r (k + 1) else tkE x r (k + 1)
def rsE (x : List Int) : List Member → Int → List Member
  | [], _ => []
  | m :: r, k => if k ∈ x then rsE x r (k + 1) else m :: rsE x r (k + 1)
theorem tkE_app {x : List Int} : ∀ {p q : List Member} {k : Int}, tkE x (p ++ q) k = tkE x p k ++ tkE x q (k + p.length) := by
  intro p
  induction p with
  | nil => intro q k; simp [tkE]
  | cons m p ih =>
    intro q k
    simp only [List.cons_append, tkE, ih, List.length_cons]
    rw [show k + 1 + (p.length : Int) = k + ((p.length + 1 : Nat) : Int) by omega]
    split <;> simp
theorem rsE_app {x : List Int} : ∀ {p q : List Member} {k : Int}, rsE x (p ++ q) k = rsE x p k ++ rsE x q (k + p.length) := by
  intro p
  induction p with
  | nil => intro q k; simp [rsE]
  | cons m p ih =>
    intro q k
    simp only [List.cons_append, rsE, ih, List.length_cons]
    rw [show k + 1 + (p.length : Int) = k + ((p.length + 1 : Nat) : Int) by omega]
    split <;> simp
theorem tkE_next {x : List Int} {a : List Member} {k : Int} {m : Member} (hk : 0 ≤ k) (h : a[k.toNat]? = some m) : tkE x (a.take (k + 1).toNat) 0 = if k ∈ x then tkE x (a.take k.toNat) 0 ++ [m.what] else tkE x (a.take k.toNat) 0 := by
  rw [toNat_succ hk, take_snoc h, tkE_app, List.length_take, Nat.min_eq_left (Nat.le_of_lt (lt_of_some h))]
  rw [show (0 : Int) + (k.toNat : Int) = k by omega]
  simp only [tkE]
  split <;> simp
theorem rsE_next {x : List Int} {a : List Member} {k : Int} {m : Member} (hk : 0 ≤ k) (h : a[k.toNat]? = some m) : rsE x (a.take (k + 1).toNat) 0 = if k ∈ x then rsE x (a.take k.toNat) 0 else rsE x (a.take k.toNat) 0 ++ [m] := by
  rw [toNat_succ hk, take_snoc h, rsE_app, List.length_take, Nat.min_eq_left (Nat.le_of_lt (lt_of_some h))]
  rw [show (0 : Int) + (k.toNat : Int) = k by omega]
  simp only [rsE]
  split <;> simp
theorem tkE_len {x : List Int} : ∀ (p : List Member) (k : Int), (tkE x p k).length ≤ p.length ∧ (rsE x p k).length ≤ p.length := by
  intro p
  induction p with
  | nil => intro k; simp [tkE, rsE]
  | cons m p ih =>
    intro k
    have := ih (k + 1)
    simp only [tkE, rsE]
    split <;> simp <;> omega
theorem tkE_tlen {x : List Int} (a : List Member) (k : Int) : (tkE x (a.take k.toNat) 0).length ≤ a.length ∧ (rsE x (a.take k.toNat) 0).length ≤ a.length := by
  have := tkE_len (x := x) (a.take k.toNat) 0
  rw [List.length_take] at this
  omega
theorem mem_tkE {x : List Int} {o : Objt} : ∀ {p : List Member} {k : Int}, o ∈ tkE x p k ↔ ∃ (i : Nat) (m : Member), p[i]? = some m ∧ k + i ∈ x ∧ o = m.what := by
  intro p
  induction p with
  | nil => intro k; simp [tkE]
  | cons m p ih =>
    intro k
    have key : (∃ (i : Nat) (m' : Member), (m :: p)[i]? = some m' ∧ k + i ∈ x ∧ o = m'.what) ↔ (k ∈ x ∧ o = m.what) ∨ ∃ (i : Nat) (m' : Member), p[i]? = some m' ∧ k + 1 + i ∈ x ∧ o = m'.what := by
      constructor
      · rintro ⟨i, m', h1, h2, h3⟩
        cases i with
        | zero =>
          simp only [List.getElem?_cons_zero, Option.some.injEq] at h1
          subst h1
          left; exact ⟨by simpa using h2, h3⟩
        | succ i => right; exact ⟨i, m', by simpa using h1, by rwa [show k + 1 + (i : Int) = k + ((i + 1 : Nat) : Int) by omega], h3⟩
      · rintro (⟨h1, h2⟩ | ⟨i, m', h1, h2, h3⟩)
        · exact ⟨0, m, rfl, by simpa using h1, h2⟩
        · exact ⟨i + 1, m', by simpa using h1, by rwa [show k + ((i + 1 : Nat) : Int) = k + 1 + (i : Int) by omega], h3⟩
    rw [key, ← ih]
    simp only [tkE]
    split
    · rename_i h; simp [h]
    · rename_i h; simp [h]
theorem mem_rsE {x : List Int} {m : Member} : ∀ {p : List Member} {k : Int}, m ∈ rsE x p k → ∃ i : Nat, p[i]? = some m ∧ ¬ k + i ∈ x := by
  intro p
  induction p with
  | nil => intro k h; cases h
  | cons m' p ih =>
    intro k h
    simp only [rsE] at h
    have rc : m ∈ rsE x p (k + 1) → ∃ i : Nat, (m' :: p)[i]? = some m ∧ ¬ k + i ∈ x := fun h => by
      obtain ⟨i, h1, h2⟩ := ih h
      exact ⟨i + 1, by simpa using h1, by rwa [show k + ((i + 1 : Nat) : Int) = k + 1 + (i : Int) by omega]⟩
    split at h
    · exact rc h
    · rename_i hk
      rcases List.mem_cons.1 h with rfl | h
      · exact ⟨0, rfl, by simpa using hk⟩
      · exact rc h
theorem nMs_same {l m : List Objt} (h : ∀ o, o ∈ l ↔ o ∈ m) {n : ByteArray} : n ∈ nMs l ↔ n ∈ nMs m := by
  rw [mem_nMs, mem_nMs, fnd_none, fnd_none]
  simp only [h]
theorem nextM_no {all : List Objt} {out : List Int} : ∀ {l : List Member} {k : Int}, (∀ m ∈ l, hasM all m = false) → nextM all out l k = -1 := by
  intro l
  induction l with
  | nil => intro k _; rfl
  | cons m l ih =>
    intro k h
    simp only [nextM]
    rw [if_neg (by rw [h m (by simp)]; simp)]
    exact ih fun m' hm => h m' (by simp [hm])
theorem tkE_nil {p : List Member} : ∀ {k : Int}, tkE [] p k = [] ∧ rsE [] p k = p := by
  induction p with
  | nil => intro k; exact ⟨rfl, rfl⟩
  | cons m p ih => intro k; simp only [tkE, rsE]; simp [(ih (k := k + 1)).1, (ih (k := k + 1)).2]
theorem taken_nil {l : List Objt} {arch : List Member} (h : nextM l [] arch 0 < 0) : (taken l arch).out = [] := by
  unfold taken
  rw [tk_none h]
/-- What is taken is enough. -/
theorem enough {l : List Objt} {arch : List Member} {k : Int} (hk : (arch.length : Int) ≤ k) : takV (l ++ tkE (takV l arch) (arch.take k.toNat) 0) (rsE (takV l arch) (arch.take k.toNat) 0) = [] := by
  rw [List.take_of_length_le (by omega)]
  cases hv : objsB l && archB arch with
  | false =>
    have e : takV l arch = [] := by unfold takV; rw [hv]; rfl
    rw [e, tkE_nil.1, tkE_nil.2, List.append_nil]
    exact e
  | true =>
    simp only [Bool.and_eq_true] at hv
    have e : takV l arch = (taken l arch).out := takV_yes hv.1 hv.2
    rw [e]
    have ok := taken_ok l arch
    have hs : ∀ o, o ∈ l ++ tkE (taken l arch).out arch 0 ↔ o ∈ (taken l arch).all := fun o => by
      rw [ok.all, List.mem_append, List.mem_append, mem_tkE, List.mem_flatMap]
      refine or_congr_right ?_
      constructor
      · rintro ⟨i, m, h1, h2, h3⟩
        refine ⟨(i : Int), by simpa using h2, ?_⟩
        rw [Int.toNat_natCast, h1, h3]; simp
      · rintro ⟨j, h1, h2⟩
        cases hm : arch[j.toNat]? with
        | none => rw [hm] at h2; simp at h2
        | some m =>
          rw [hm] at h2
          simp only [Option.map_some, Option.toList_some, List.mem_singleton] at h2
          have := (ok.rng j h1).1
          exact ⟨j.toNat, m, hm, by rwa [show (0 : Int) + (j.toNat : Int) = j by omega], h2⟩
    unfold takV
    split
    · refine taken_nil ?_
      rw [nextM_no fun m hm => ?_]
      · omega
      · obtain ⟨i, h1, h2⟩ := mem_rsE hm
        have hend := taken_end l arch
        rcases nextM_spec (all := (taken l arch).all) (out := (taken l arch).out) (l := arch) (k := 0) (by omega) with ⟨_, h3⟩ | ⟨_, _, h3, _⟩
        · rcases h3 i m h1 with h3 | h3
          · exact absurd h3 h2
          · unfold hasM at *
            rw [List.any_eq_false] at *
            intro n hn
            have := h3 n hn
            simp only [decide_eq_true_eq] at *
            rwa [nMs_same hs]
        · omega
    · rfl
/-- All objects, and the members that are left, as one goes on. -/
def EN (a : List Member) (x : List Int) (k : Int) (al : List Objt) (rs : List Member) : Prop := ∃ l, x = takV l a ∧ al = l ++ tkE x (a.take k.toNat) 0 ∧ rs = rsE x (a.take k.toNat) 0 ∧ l.length ≤ 5
theorem EN_zero {l : List Objt} {a : List Member} (h : l.length ≤ 5) : EN a (takV l a) 0 l [] := ⟨l, rfl, by simp [tkE], by simp [rsE], h⟩
theorem EN_yes {a : List Member} {x : List Int} {k : Int} {al : List Objt} {rs : List Member} {m : Member} (h : EN a x k al rs) (hk : 0 ≤ k) (hm : a[k.toNat]? = some m) (hi : inI x k = true) : EN a x (k + 1) (al ++ [m.what]) rs := by
  obtain ⟨l, h1, h2, h3, h4⟩ := h
  have hi := inI_iff.1 hi
  exact ⟨l, h1, by rw [h2, tkE_next hk hm, if_pos hi, List.append_assoc], by rw [h3, rsE_next hk hm, if_pos hi], h4⟩
theorem EN_not {a : List Member} {x : List Int} {k : Int} {al : List Objt} {rs : List Member} {m : Member} (h : EN a x k al rs) (hk : 0 ≤ k) (hm : a[k.toNat]? = some m) (hi : inI x k = false) : EN a x (k + 1) al (rs ++ [m]) := by
  obtain ⟨l, h1, h2, h3, h4⟩ := h
  have hi := inI_no hi
  exact ⟨l, h1, by rw [h2, tkE_next hk hm, if_neg hi], by rw [h3, rsE_next hk hm, if_neg hi], h4⟩
theorem EN_len {a : List Member} {x : List Int} {k : Int} {al : List Objt} {rs : List Member} (h : EN a x k al rs) (ha : a.length ≤ 6) : al.length ≤ 11 ∧ rs.length ≤ 6 ∧ x.length ≤ 6 := by
  obtain ⟨l, h1, h2, h3, h4⟩ := h
  have g := tkE_tlen (x := x) a k
  have g2 := takV_len l a
  rw [← h1] at g2
  rw [h2, h3, List.length_append]
  omega
theorem EN_end {a : List Member} {x : List Int} {k : Int} {al : List Objt} {rs : List Member} (h : EN a x k al rs) (hk : (a.length : Int) ≤ k) : (takV al rs).length = 0 := by
  obtain ⟨l, h1, h2, h3, h4⟩ := h
  rw [h2, h3, h1, enough hk]; rfl
/-- Is a number among the first ones of a list. -/
def inT (x : List Int) (k j : Int) : Bool := inI (x.take j.toNat) k
theorem inT_zero {x : List Int} {k : Int} : inT x k 0 = false := by simp [inT, inI]
theorem inT_next {x : List Int} {k j y : Int} (hj : 0 ≤ j) (h : x[j.toNat]? = some y) : inT x k (j + 1) = (inT x k j || decide (y = k)) := by
  unfold inT inI
  rw [toNat_succ hj, take_snoc h, Bool.eq_iff_iff]
  simp only [List.mem_append, List.mem_singleton, decide_eq_true_eq, Bool.or_eq_true]
  exact ⟨fun h => h.imp id fun e => e.symm, fun h => h.imp id fun e => e.symm⟩
theorem inT_mono {x : List Int} {k j : Int} (hj : 0 ≤ j) (hl : j < x.length) (h : inT x k j = true) : inT x k (j + 1) = true := by
  rw [inT_next hj (List.getElem?_eq_getElem (by omega)), h]; rfl
theorem inT_end {x : List Int} {k j : Int} (h : (x.length : Int) ≤ j) : inT x k j = inI x k := by unfold inT; rw [List.take_of_length_le (by omega)]
end Go.Proofs.Ythkefakjihafeaa
