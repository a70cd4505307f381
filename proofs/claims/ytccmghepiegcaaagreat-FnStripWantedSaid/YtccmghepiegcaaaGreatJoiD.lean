/- Objects with fewer symbols, joined objects: what they are linked to. Plain Lean. -/
import Derived.Test.YtccmghepiegcaaaGreatLnkD
import Derived.Test.YtccmghepiegcaaaGreatUniD
set_option linter.unusedVariables false
set_option linter.unusedSimpArgs false
namespace Go.Proofs.YtccmghepiegcaaaGreat
open Go Go.RowKit

/-! Targets by symbols, not by their numbers. -/
def valS (pl : List (List Int)) (k : Int) (s : Sym) : Int := if s.wher = -2 then s.value else (pl.getD k.toNat []).getD s.wher.toNat 0 + s.value
def fsV (pl : List (List Int)) (p : Sym → Bool) : List Objt → Int → Option Int
  | [], _ => none
  | o :: l, k => match o.syms.find? p with
    | some s => some (valS pl k s)
    | none => fsV pl p l (k + 1)
/-- What a name means. -/
def rvL (pl : List (List Int)) (l : List Objt) (n : ByteArray) : Option Int := (fsV pl (bdS n 1) l 0).or (fsV pl (bdS n 2) l 0)
theorem ixF_find {α : Type} {p : α → Bool} : ∀ {l : List α} {k : Int}, 0 ≤ k → (ixF p l k < 0 ∧ l.find? p = none) ∨ (∃ i : Nat, ixF p l k = k + i ∧ l.find? p = l[i]? ∧ i < l.length) := by
  intro l
  induction l with
  | nil => intro k _; left; exact ⟨by simp [ixF], rfl⟩
  | cons x l ih =>
    intro k hk
    by_cases h : p x = true
    · right; exact ⟨0, by simp [ixF, h], by simp [h], by simp⟩
    · rcases ih (k := k + 1) (by omega) with ⟨h1, h2⟩ | ⟨i, h1, h2, h3⟩
      · left; exact ⟨by simp only [ixF, if_neg h]; exact h1, by simp [h, h2]⟩
      · right; exact ⟨i + 1, by simp only [ixF, if_neg h]; rw [h1]; omega, by simp [h, h2], by simp; omega⟩
theorem fsV_fbO {pl : List (List Int)} {n : ByteArray} {b : Int} {L : List Objt} : ∀ {l : List Objt} {k : Int}, 0 ≤ k → L.drop k.toNat = l → (fbO n b l k).map (plV pl L) = fsV pl (bdS n b) l k := by
  intro l
  induction l with
  | nil => intro k _ _; rfl
  | cons o l ih =>
    intro k hk hd
    have ho : L[k.toNat]? = some o := by
      have := List.getElem?_drop (xs := L) (i := k.toNat) (j := 0)
      rw [hd, Nat.add_zero] at this
      exact this.symm
    have hd' : L.drop (k + 1).toNat = l := by
      rw [toNat_succ hk, ← List.drop_drop, hd]; rfl
    simp only [fbO, fsV]
    rcases ixF_find (p := bdS n b) (l := o.syms) (k := 0) (by omega) with ⟨h1, h2⟩ | ⟨i, h1, h2, h3⟩
    · rw [if_neg (by omega), h2]; exact ih (by omega) hd'
    · rw [if_pos (by omega), h2]
      have e : o.syms[i]? = some o.syms[i] := List.getElem?_eq_getElem h3
      rw [e, h1]
      simp only [Option.map_some, Option.some.injEq]
      exact plV_eq (g := ⟨k, 0 + i⟩) ho (by simp)
theorem rvL_fnd (pl : List (List Int)) (l : List Objt) (n : ByteArray) : (fnd l n).map (plV pl l) = rvL pl l n := by
  have e : ∀ b, (fbO n b l 0).map (plV pl l) = fsV pl (bdS n b) l 0 := fun b => fsV_fbO (L := l) (k := 0) (Int.le_refl 0) rfl
  unfold fnd rvL
  rw [← e, ← e]
  cases fbO n 1 l 0 <;> simp
def tgS (pl : List (List Int)) (l : List Objt) (k : Int) (s : Sym) : Int := if s.bind = 0 then valS pl k s else (rvL pl l s.name).getD 0
theorem syV_tg {pl : List (List Int)} {l : List Objt} {k j : Int} {o : Objt} {s : Sym} (h : l[k.toNat]? = some o) (h' : o.syms[j.toNat]? = some s) : (syV pl l k j).getD 0 = tgS pl l k s := by
  rw [syV_eq h h', tgS, ← rvL_fnd]
  split
  · rw [plV_eq (g := ⟨k, j⟩) h h']; rfl
  · cases fnd l s.name with
    | some g => rfl
    | none => simp only [Option.map_none, Option.getD_none]; split <;> rfl
theorem rvL_none {pl : List (List Int)} {l : List Objt} {n : ByteArray} : fnd l n = none ↔ rvL pl l n = none := by
  rw [← rvL_fnd pl]; cases fnd l n <;> simp
theorem fsV_none {pl : List (List Int)} {p : Sym → Bool} : ∀ {l : List Objt} {k : Int}, fsV pl p l k = none ↔ ∀ o ∈ l, o.syms.find? p = none := by
  intro l
  induction l with
  | nil => intro k; simp [fsV]
  | cons o l ih =>
    intro k
    simp only [fsV, List.forall_mem_cons]
    cases h : o.syms.find? p with
    | some s => simp
    | none => simp [ih]

/-! Linking in steps, by targets. -/
inductive All2 {α β : Type} (R : α → β → Prop) : List α → List β → Prop where
  | nil : All2 R [] []
  | cons {a : α} {b : β} {l : List α} {m : List β} (h : R a b) (t : All2 R l m) : All2 R (a :: l) (b :: m)
/-- Two sections that fill in the same, in their lists of objects. -/
structure SameFill (pl pl' : List (List Int)) (l l' : List Objt) (k k' : Int) (s t : Sect) : Prop where
  bytes : s.bytes = t.bytes
  fix : All2 (fun f g : Fixup => f.at_ = g.at_ ∧ f.kind = g.kind ∧ f.add = g.add ∧ (syV pl l k f.to).getD 0 = (syV pl' l' k' g.to).getD 0) s.fixups t.fixups
theorem fxVal_same {b : List Int} {p t : Int} {f g : Fixup} (h : f.at_ = g.at_ ∧ f.kind = g.kind ∧ f.add = g.add) : fxVal b p f t = fxVal b p g t ∧ fxApp b p f t = fxApp b p g t := by
  obtain ⟨a, k, o, d⟩ := f
  obtain ⟨a', k', o', d'⟩ := g
  obtain ⟨h1, h2, h3⟩ := h
  simp only at h1 h2 h3
  subst h1; subst h2; subst h3
  exact ⟨rfl, rfl⟩
theorem fills_same {pl pl' : List (List Int)} {l l' : List Objt} {k k' p : Int} : ∀ {r r' : List Fixup} {b : List Int}, All2 (fun f g : Fixup => f.at_ = g.at_ ∧ f.kind = g.kind ∧ f.add = g.add ∧ (syV pl l k f.to).getD 0 = (syV pl' l' k' g.to).getD 0) r r' → fills pl l k p r b = fills pl' l' k' p r' b := by
  intro r
  induction r with
  | nil => intro r' b h; cases h; rfl
  | cons f r ih =>
    intro r' b h
    cases h with
    | @cons _ g _ r' h h' =>
      have e := fxVal_same (b := b) (p := p) (t := (syV pl' l' k' g.to).getD 0) ⟨h.1, h.2.1, h.2.2.1⟩
      simp only [fills, h.2.2.2, e.1, e.2, ih h']
theorem lnkS_same {pl pl' : List (List Int)} {l l' : List Objt} {base k k' : Int} : ∀ {r r' : List Sect} {i i' : Int} {out : List Int}, All2 (SameFill pl pl' l l' k k') r r' → 0 ≤ i → 0 ≤ i' → (∀ j : Nat, j < r.length → placeOf pl k (i + j) = placeOf pl' k' (i' + j)) → lnkS pl l base k r i out = lnkS pl' l' base k' r' i' out := by
  intro r
  induction r with
  | nil => intro r' i i' out h _ _ _; cases h; rfl
  | cons s r ih =>
    intro r' i i' out h hi hi' hp
    cases h with
    | cons h h' =>
      have p0 := hp 0 (by simp)
      simp only [Int.natCast_zero, Int.add_zero] at p0
      simp only [lnkS, p0, h.bytes, fills_same h.fix]
      split
      · rfl
      · refine ih h' (by omega) (by omega) fun j hj => ?_
        have := hp (j + 1) (by simp; omega)
        rw [show i + ((j + 1 : Nat) : Int) = i + 1 + j by omega, show i' + ((j + 1 : Nat) : Int) = i' + 1 + j by omega] at this
        exact this
theorem lnkS_app {pl : List (List Int)} {l : List Objt} {base k : Int} : ∀ {r r' : List Sect} {i : Int} {out : List Int}, lnkS pl l base k (r ++ r') i out = (lnkS pl l base k r i out).bind fun out => lnkS pl l base k r' (i + r.length) out := by
  intro r
  induction r with
  | nil => intro r' i out; simp [lnkS]
  | cons s r ih =>
    intro r' i out
    simp only [List.cons_append, lnkS]
    split
    · rfl
    · rw [ih, List.length_cons, show i + 1 + (r.length : Int) = i + ((r.length + 1 : Nat) : Int) by omega]
theorem lnkO_app {pl : List (List Int)} {l : List Objt} {base : Int} : ∀ {r r' : List Objt} {k : Int} {out : List Int}, lnkO pl l base (r ++ r') k out = (lnkO pl l base r k out).bind fun out => lnkO pl l base r' (k + r.length) out := by
  intro r
  induction r with
  | nil => intro r' i out; simp [lnkO]
  | cons s r ih =>
    intro r' i out
    simp only [List.cons_append, lnkO]
    split
    · rfl
    · rw [ih, List.length_cons, show i + 1 + (r.length : Int) = i + ((r.length + 1 : Nat) : Int) by omega]
theorem lnkO_same {pl pl' : List (List Int)} {l l' : List Objt} {base : Int} : ∀ {r : List Objt} {k k' : Int} {out : List Int}, 0 ≤ k → 0 ≤ k' → (∀ (j : Nat) o, r[j]? = some o → All2 (SameFill pl pl' l l' (k + j) (k' + j)) o.sects o.sects ∧ ∀ i : Nat, placeOf pl (k + j) i = placeOf pl' (k' + j) i) → lnkO pl l base r k out = lnkO pl' l' base r k' out := by
  intro r
  induction r with
  | nil => intro k k' out _ _ _; rfl
  | cons o r ih =>
    intro k k' out hk hk' h
    have h0 := h 0 o rfl
    simp only [Int.natCast_zero, Int.add_zero] at h0
    simp only [lnkO]
    rw [lnkS_same (i := 0) (i' := 0) h0.1 (by omega) (by omega) fun j _ => by rw [Int.zero_add]; exact h0.2 j]
    split
    · rfl
    · refine ih (by omega) (by omega) fun j o ho => ?_
      have := h (j + 1) o (by simpa using ho)
      rw [show k + ((j + 1 : Nat) : Int) = k + 1 + j by omega, show k' + ((j + 1 : Nat) : Int) = k' + 1 + j by omega] at this
      exact this
theorem forall2_refl {α : Type} {R : α → α → Prop} : ∀ {l : List α}, (∀ x ∈ l, R x x) → All2 R l l := by
  intro l
  induction l with
  | nil => intro _; exact .nil
  | cons x l ih => intro h; exact .cons (h x (by simp)) (ih fun y hy => h y (by simp [hy]))
theorem forall2_map {α β : Type} {R : α → β → Prop} {f : α → β} : ∀ {l : List α}, (∀ x ∈ l, R x (f x)) → All2 R l (l.map f) := by
  intro l
  induction l with
  | nil => intro _; exact .nil
  | cons x l ih => intro h; exact .cons (h x (by simp)) (ih fun y hy => h y (by simp [hy]))

/-! Sections whose fixups use other numbers. -/
def reF (ns : List Int) (f : Fixup) : Fixup := ⟨f.at_, f.kind, ns.getD f.to.toNat 0, f.add⟩
def reS (ns : List Int) (s : Sect) : Sect := ⟨s.name, s.kind, s.align, s.bytes, s.size, s.fixups.map (reF ns)⟩
theorem plS_re {ns : List Int} {c : Int} : ∀ {l : List Sect} {a : Int}, plS c (l.map (reS ns)) a = plS c l a := by
  intro l
  induction l with
  | nil => intro a; rfl
  | cons s l ih => intro a; simp only [List.map_cons, plS, ih]; rfl
theorem plS_re_take {ns : List Int} {c : Int} {l : List Sect} {a : Int} (i : Nat) : plS c ((l.map (reS ns)).take i) a = plS c (l.take i) a := by
  rw [← List.map_take, plS_re]
/-! Symbols that are kept; the numbers that symbols get. -/
def kpS : List Bool → List Sym → List Sym
  | b :: p, s :: l => if b = true then s :: kpS p l else kpS p l
  | _, _ => []
def kpN : List Bool → Int → List Int
  | [], _ => []
  | b :: p, k => k :: kpN p (if b = true then k + 1 else k)
def keepO (o : Objt) (p : List Bool) : Objt := ⟨o.sects.map (reS (kpN p 0)), kpS p o.syms⟩
theorem kpS_get : ∀ {p : List Bool} {l : List Sym} {k : Int} {j : Nat} {s : Sym}, p[j]? = some true → l[j]? = some s → ∃ m : Nat, (kpN p k)[j]? = some (k + m) ∧ (kpS p l)[m]? = some s := by
  intro p
  induction p with
  | nil => intro l k j s h; simp at h
  | cons b p ih =>
    intro l k j s hp hl
    cases l with
    | nil => simp at hl
    | cons t l =>
      cases j with
      | zero =>
        simp only [List.getElem?_cons_zero, Option.some.injEq] at hp hl
        subst hp; subst hl
        exact ⟨0, by simp [kpN], by simp [kpS]⟩
      | succ j =>
        simp only [List.getElem?_cons_succ] at hp hl
        cases b with
        | true =>
          obtain ⟨m, h1, h2⟩ := ih (k := k + 1) hp hl
          exact ⟨m + 1, by simp only [kpN, if_true, List.getElem?_cons_succ, h1]; congr 1; omega, by simp only [kpS, if_true, List.getElem?_cons_succ]; exact h2⟩
        | false =>
          obtain ⟨m, h1, h2⟩ := ih (k := k) hp hl
          exact ⟨m, by simp only [kpN, Bool.false_eq_true, if_false, List.getElem?_cons_succ]; exact h1, by simp only [kpS, Bool.false_eq_true, if_false]; exact h2⟩
theorem kpS_sub : ∀ {p : List Bool} {l : List Sym}, List.Sublist (kpS p l) l := by
  intro p
  induction p with
  | nil => intro l; cases l <;> exact List.nil_sublist _
  | cons b p ih =>
    intro l
    cases l with
    | nil => exact List.nil_sublist _
    | cons t l =>
      simp only [kpS]
      split
      · exact List.Sublist.cons_cons _ ih
      · exact List.Sublist.cons _ ih
theorem kpS_find {q : Sym → Bool} : ∀ {p : List Bool} {l : List Sym}, p.length = l.length → (∀ (j : Nat) s, l[j]? = some s → q s = true → p[j]? = some true) → (kpS p l).find? q = l.find? q := by
  intro p
  induction p with
  | nil => intro l h _; cases l with
    | nil => rfl
    | cons _ _ => simp at h
  | cons b p ih =>
    intro l h hq
    cases l with
    | nil => rfl
    | cons t l =>
      have hi := ih (l := l) (by simpa using h) fun j s hj hs => by have := hq (j + 1) s (by simpa using hj) hs; simpa using this
      simp only [kpS]
      by_cases ht : q t = true
      · have := hq 0 t rfl ht
        simp only [List.getElem?_cons_zero, Option.some.injEq] at this
        rw [if_pos this]
        simp [ht]
      · split
        · simp [ht, hi]
        · simp [ht, hi]
/-- What is kept is all that gives a name, and all that fixups use. -/
structure Keeps1 (o : Objt) (p : List Bool) : Prop where
  len : p.length = o.syms.length
  giv : ∀ (j : Nat) s, o.syms[j]? = some s → giveS s = true → p[j]? = some true
  use : ∀ s ∈ o.sects, ∀ f ∈ s.fixups, ∃ j : Nat, f.to = j ∧ p[j]? = some true
theorem keep_fs {o : Objt} {p : List Bool} {pl pl' : List (List Int)} {n : ByteArray} {b : Int} (h : Keeps1 o p) (hb : b ≠ 0) (hp : pl = pl') : fsV pl' (bdS n b) [keepO o p] 0 = fsV pl (bdS n b) [o] 0 := by
  subst hp
  simp only [fsV, keepO]
  rw [kpS_find h.len fun j s hj hs => h.giv j s hj ?_]
  simp only [bdS, giveS, decide_eq_true_eq] at *
  exact ⟨hs.2.2, by rw [hs.2.1]; exact hb⟩
theorem keep_rv {o : Objt} {p : List Bool} {pl : List (List Int)} {n : ByteArray} (h : Keeps1 o p) : rvL pl [keepO o p] n = rvL pl [o] n := by
  unfold rvL
  rw [keep_fs h (by omega) rfl, keep_fs h (by omega) rfl]
theorem keep_tg {o : Objt} {p : List Bool} {pl : List (List Int)} {f : Fixup} {s : Sect} (h : Keeps1 o p) (hs : s ∈ o.sects) (hf : f ∈ s.fixups) : (syV pl [o] 0 f.to).getD 0 = (syV pl [keepO o p] 0 (reF (kpN p 0) f).to).getD 0 := by
  obtain ⟨j, hj, hp⟩ := h.use s hs f hf
  have hl : j < o.syms.length := by have := lt_of_some hp; rw [h.len] at this; exact this
  have ht := List.getElem?_eq_getElem hl
  obtain ⟨m, h1, h2⟩ := kpS_get (k := 0) hp ht
  have e : (reF (kpN p 0) f).to = (m : Int) := by
    show (kpN p 0).getD f.to.toNat 0 = m
    rw [hj, Int.toNat_natCast, getD_get h1]; omega
  rw [syV_tg (k := 0) (o := o) (s := o.syms[j]) rfl (by rw [hj, Int.toNat_natCast]; exact ht), e, syV_tg (k := 0) (o := keepO o p) (s := o.syms[j]) rfl (by rw [Int.toNat_natCast]; exact h2)]
  unfold tgS
  rw [keep_rv h]
theorem keep_lay {o : Objt} {p : List Bool} {b : Int} : ∀ n, atK [keepO o p] b n = atK [o] b n := by
  intro n
  induction n with
  | zero => rfl
  | succ n ih =>
    have g : (keepO o p).sects = o.sects.map (reS (kpN p 0)) := rfl
    simp only [atK, ih, plO, g, plS_re]
theorem keep_plc {o : Objt} {p : List Bool} {b : Int} {i : Nat} : plc [keepO o p] b 0 i = plc [o] b 0 i := by
  have e : ∀ n, atK [keepO o p] b n = atK [o] b n := keep_lay
  have g : (keepO o p).sects = o.sects.map (reS (kpN p 0)) := rfl
  simp only [plc, List.getElem?_cons_zero, g, List.getElem?_map]
  cases hs : o.sects[i]? with
  | none => rfl
  | some s => simp only [Option.map_some, List.take_zero, plO, begK, e, reS, plS_re_take]
theorem keep_places {o : Objt} {p : List Bool} {b : Int} : places [keepO o p] b = places [o] b := by
  simp only [places, List.mapIdx_cons, List.mapIdx_nil, keepO]
  congr 1
  refine List.ext_getElem? fun i => ?_
  simp only [List.getElem?_mapIdx, List.getElem?_map]
  cases hs : o.sects[i]? with
  | none => rfl
  | some s => simp only [Option.map_some]; congr 1; exact keep_plc
theorem keep_lnkB {o : Objt} {p : List Bool} {b : Int} (h : Keeps1 o p) : lnkB [keepO o p] b = lnkB [o] b := by
  unfold lnkB
  rw [keep_lay, keep_places]
  simp only [lnkO]
  have e : ∀ out, lnkS (places [o] b) [keepO o p] b 0 (keepO o p).sects 0 out = lnkS (places [o] b) [o] b 0 o.sects 0 out := fun out => by
    symm
    refine lnkS_same ?_ (by omega) (by omega) fun j _ => rfl
    refine forall2_map fun s hs => ⟨rfl, forall2_map fun f hf => ⟨rfl, rfl, rfl, ?_⟩⟩
    exact keep_tg h hs hf
  rw [e]
theorem keep_nTw {o : Objt} {p : List Bool} (h : Keeps1 o p) (ho : objB o = true) (hx : objB (keepO o p) = true) : nTw [keepO o p] = nTw [o] := by
  have e : ∀ n, cntS [keepO o p] n = cntS [o] n := fun n => by
    simp only [cntS, flt, List.flatMap_cons, List.flatMap_nil, List.append_nil]
    rw [cnt_glo (objB_uniq ho), cnt_glo (objB_uniq hx), ← find_bd (objB_uniq ho) (by omega), ← find_bd (objB_uniq hx) (by omega)]
    rw [keepO, kpS_find h.len fun j s hj hs => h.giv j s hj ?_]
    simp only [bdS, giveS, decide_eq_true_eq] at *
    omega
  refine asc_ext (sortU_asc _) (sortU_asc _) fun x => ?_
  show x ∈ nTw [keepO o p] ↔ x ∈ nTw [o]
  rw [mem_nTw, mem_nTw, e]
theorem keep_nMs {o : Objt} {p : List Bool} (h : Keeps1 o p) : nMs [o] = [] → nMs [keepO o p] = [] := by
  intro hm
  refine List.eq_nil_iff_forall_not_mem.2 fun n hn => ?_
  have := mem_nMs.1 hn
  rw [rvL_none (pl := []), keep_rv h, ← rvL_none] at this
  obtain ⟨h1, o', ho', s, hs, h2⟩ := this
  simp only [List.mem_singleton] at ho'
  subst ho'
  have : n ∈ nMs [o] := mem_nMs.2 ⟨h1, o, by simp, s, kpS_sub.subset hs, h2⟩
  rw [hm] at this
  cases this
theorem keep_nMs2 {o : Objt} {p : List Bool} (h : Keeps1 o p) (hk : ∀ (j : Nat) s, o.syms[j]? = some s → s.bind ≠ 0 → p[j]? = some true) : nMs [keepO o p] = nMs [o] := by
  refine asc_ext (sortU_asc _) (sortU_asc _) fun n => ?_
  show n ∈ nMs [keepO o p] ↔ n ∈ nMs [o]
  rw [mem_nMs, mem_nMs, rvL_none (pl := []), keep_rv h, ← rvL_none]
  refine and_congr_right fun _ => ?_
  simp only [List.mem_singleton, exists_eq_left]
  constructor
  · rintro ⟨s, hs, h2⟩; exact ⟨s, kpS_sub.subset hs, h2⟩
  · rintro ⟨s, hs, h2⟩
    obtain ⟨j, hj⟩ := List.getElem?_of_mem hs
    obtain ⟨m, _, h4⟩ := kpS_get (k := 0) (hk j s hj (by omega)) hj
    exact ⟨s, List.mem_of_getElem? h4, h2⟩
/-! Validity of what is kept. -/
theorem symsB_sub {x : List Sect} : ∀ {l m pre pre' : List Sym}, List.Sublist l m → (∀ t ∈ pre, t ∈ pre') → symsB x pre' m = true → symsB x pre l = true := by
  intro l m pre pre' h
  induction h generalizing pre pre' with
  | slnil => intro _ _; rfl
  | cons s _ ih =>
    intro hp hm
    simp only [symsB, Bool.and_eq_true] at hm
    exact ih (fun t ht => by simp [hp t ht]) hm.2
  | cons_cons s _ ih =>
    intro hp hm
    simp only [symsB, Bool.and_eq_true] at hm ⊢
    refine ⟨⟨hm.1.1, ?_⟩, ih (fun t ht => ?_) hm.2⟩
    · have := hm.1.2
      simp only [newSym, decide_eq_true_eq] at this ⊢
      exact this.imp id fun h t ht => h t (hp t ht)
    · rcases List.mem_append.1 ht with ht | ht
      · simp [hp t ht]
      · simp only [List.mem_singleton] at ht; simp [ht]
theorem symB_re {ns : List Int} {s : Sym} {l : List Sect} : symB s (l.map (reS ns)) = symB s l := by
  unfold symB
  rw [List.length_map, List.getElem?_map]
  cases l[s.wher.toNat]? <;> rfl
theorem symsB_re {ns : List Int} {x : List Sect} : ∀ {l pre : List Sym}, symsB (x.map (reS ns)) pre l = symsB x pre l := by
  intro l
  induction l with
  | nil => intro _; rfl
  | cons s l ih => intro pre; simp only [symsB, symB_re, ih]
theorem fixB_re {ns : List Int} {m m' b : Int} : ∀ {l : List Fixup} {e : Int}, (∀ f ∈ l, 0 ≤ (reF ns f).to ∧ (reF ns f).to < m') → fixB m b e l = true → fixB m' b e (l.map (reF ns)) = true := by
  intro l
  induction l with
  | nil => intro e _ _; rfl
  | cons f l ih =>
    intro e h hf
    simp only [List.map_cons, fixB, Bool.and_eq_true, decide_eq_true_eq] at hf ⊢
    have h0 := h f (by simp)
    exact ⟨⟨hf.1.1, h0.1, h0.2, hf.1.2.2.2⟩, ih (fun g hg => h g (by simp [hg])) hf.2⟩
theorem secB_re {ns : List Int} {s : Sect} {m m' : Int} (h : ∀ f ∈ s.fixups, 0 ≤ (reF ns f).to ∧ (reF ns f).to < m') (hs : secB s m = true) : secB (reS ns s) m' = true := by
  unfold secB at *
  simp only [reS, List.length_map, Bool.and_eq_true, List.map_eq_nil_iff] at *
  refine ⟨hs.1, ?_⟩
  have h2 := hs.2
  split
  · rename_i hk; rw [if_pos hk] at h2; exact h2
  · rename_i hk
    rw [if_neg hk] at h2
    simp only [Bool.and_eq_true] at h2 ⊢
    exact ⟨h2.1, fixB_re h h2.2⟩
theorem keep_objB {o : Objt} {p : List Bool} (h : Keeps1 o p) (ho : objB o = true) : objB (keepO o p) = true := by
  simp only [objB, Bool.and_eq_true, decide_eq_true_eq] at ho ⊢
  have hl := (kpS_sub (p := p) (l := o.syms)).length_le
  refine ⟨⟨by simp only [keepO, List.length_map]; omega, ?_⟩, ?_⟩
  · rw [List.all_eq_true] at *
    intro s' hs'
    simp only [keepO, List.mem_map] at hs'
    obtain ⟨s, hs, rfl⟩ := hs'
    refine secB_re (fun f hf => ?_) (ho.1.2 s hs)
    obtain ⟨j, hj, hp⟩ := h.use s hs f hf
    have hjl : j < o.syms.length := by have := lt_of_some hp; rw [h.len] at this; exact this
    obtain ⟨m, h1, h2⟩ := kpS_get (k := 0) hp (List.getElem?_eq_getElem hjl)
    have e : (reF (kpN p 0) f).to = (m : Int) := by
      show (kpN p 0).getD f.to.toNat 0 = m
      rw [hj, Int.toNat_natCast, getD_get h1]; omega
    have := lt_of_some h2
    simp only [keepO]
    omega
  · simp only [keepO, symsB_re]
    exact symsB_sub kpS_sub (fun t ht => ht) ho.2
theorem keep_link {o : Objt} {p : List Bool} {b : Int} (h : Keeps1 o p) (ho : objB o = true) (hm : nMs [keepO o p] = nMs [o]) : link [keepO o p] b = link [o] b := by
  have hx := keep_objB h ho
  have e : layOk [keepO o p] b = layOk [o] b := by
    rw [Bool.eq_iff_iff, layOk_iff, layOk_iff]
    simp [objsB, ho, hx]
  unfold link
  rw [e, keep_nTw h ho hx, hm, keep_lnkB h]
theorem keep_link2 {o : Objt} {p : List Bool} {b : Int} (h : Keeps1 o p) (ho : objB o = true) (hg : (link [o] b).2 = 0) : link [keepO o p] b = link [o] b := by
  refine keep_link h ho ?_
  unfold link at hg
  split at hg
  · simp at hg
  · split at hg
    · simp at hg
    · split at hg
      · simp at hg
      · rename_i h1
        have h1 := Classical.not_not.1 h1
        rw [h1, keep_nMs h h1]
/-! What is stripped. -/
def usedO (o : Objt) (j : Int) : Bool := o.sects.any fun s => s.fixups.any fun f => decide (f.to = j)
def bits (q : Int → Sym → Bool) : List Sym → Int → List Bool
  | [], _ => []
  | s :: l, k => q k s :: bits q l (k + 1)
theorem bits_len {q : Int → Sym → Bool} : ∀ {l : List Sym} {k : Int}, (bits q l k).length = l.length := by
  intro l
  induction l with
  | nil => intro k; rfl
  | cons s l ih => intro k; simp [bits, ih]
theorem bits_get {q : Int → Sym → Bool} : ∀ {l : List Sym} {k : Int} {j : Nat}, (bits q l k)[j]? = (l[j]?).map (q (k + j)) := by
  intro l
  induction l with
  | nil => intro k j; simp [bits]
  | cons s l ih =>
    intro k j
    cases j with
    | zero => simp [bits]
    | succ j => simp only [bits, List.getElem?_cons_succ, ih]; congr 2; omega
def locQ (o : Objt) (j : Int) (s : Sym) : Bool := decide (s.bind ≠ 0) || usedO o j
def wanQ (o : Objt) (j : Int) (s : Sym) : Bool := decide (s.wher ≠ -1) || usedO o j
def stripL (o : Objt) : Objt := if objB o = true then keepO o (bits (locQ o) o.syms 0) else ⟨[], []⟩
def stripW (o : Objt) : Objt := if objB o = true then keepO o (bits (wanQ o) o.syms 0) else ⟨[], []⟩
theorem fixB_to {m b : Int} : ∀ {l : List Fixup} {e : Int}, fixB m b e l = true → ∀ f ∈ l, 0 ≤ f.to ∧ f.to < m := by
  intro l
  induction l with
  | nil => intro e _ f hf; cases hf
  | cons g l ih =>
    intro e h f hf
    simp only [fixB, Bool.and_eq_true, decide_eq_true_eq] at h
    rcases List.mem_cons.1 hf with rfl | hf
    · exact ⟨h.1.2.1, h.1.2.2.1⟩
    · exact ih h.2 f hf
theorem secB_to {s : Sect} {m : Int} (h : secB s m = true) : ∀ f ∈ s.fixups, 0 ≤ f.to ∧ f.to < m := by
  unfold secB at h
  simp only [Bool.and_eq_true] at h
  have h2 := h.2
  split at h2
  · simp only [decide_eq_true_eq] at h2; rw [h2.2.2.2]; intro f hf; cases hf
  · simp only [Bool.and_eq_true] at h2; exact fixB_to h2.2
theorem objB_to {o : Objt} (h : objB o = true) {s : Sect} (hs : s ∈ o.sects) {f : Fixup} (hf : f ∈ s.fixups) : 0 ≤ f.to ∧ f.to < o.syms.length := by
  simp only [objB, Bool.and_eq_true, List.all_eq_true] at h
  exact secB_to (h.1.2 s hs) f hf
theorem bits_keeps {o : Objt} {q : Int → Sym → Bool} (ho : objB o = true) (h1 : ∀ j s, giveS s = true → q j s = true) (h2 : ∀ j s, usedO o j = true → q j s = true) : Keeps1 o (bits q o.syms 0) := by
  refine ⟨bits_len, fun j s hj hg => ?_, fun s hs f hf => ?_⟩
  · rw [bits_get, hj]; simp [h1 _ s hg]
  · have ht := objB_to ho hs hf
    refine ⟨f.to.toNat, by omega, ?_⟩
    rw [bits_get, List.getElem?_eq_getElem (by omega : f.to.toNat < o.syms.length)]
    simp only [Option.map_some, Option.some.injEq]
    refine h2 _ _ ?_
    unfold usedO
    rw [List.any_eq_true]
    exact ⟨s, hs, List.any_eq_true.2 ⟨f, hf, decide_eq_true (by omega)⟩⟩
theorem loc_keeps {o : Objt} (ho : objB o = true) : Keeps1 o (bits (locQ o) o.syms 0) :=
  bits_keeps ho (fun j s h => by simp only [giveS, locQ, decide_eq_true_eq, Bool.or_eq_true] at *; exact .inl h.2) fun j s h => by simp [locQ, h]
theorem wan_keeps {o : Objt} (ho : objB o = true) : Keeps1 o (bits (wanQ o) o.syms 0) :=
  bits_keeps ho (fun j s h => by simp only [giveS, wanQ, decide_eq_true_eq, Bool.or_eq_true] at *; exact .inl h.1) fun j s h => by simp [wanQ, h]
theorem stripL_law {o : Objt} {b : Int} (ho : objB o = true) : objB (stripL o) = true ∧ link [stripL o] b = link [o] b ∧ (stripL o).syms.length ≤ o.syms.length := by
  rw [stripL, if_pos ho]
  have h := loc_keeps ho
  refine ⟨keep_objB h ho, keep_link h ho (keep_nMs2 h fun j s hj hb => ?_), (kpS_sub).length_le⟩
  rw [bits_get, hj]
  simp [locQ, hb]
theorem stripW_law {o : Objt} {b : Int} (ho : objB o = true) : objB (stripW o) = true ∧ ((link [o] b).2 = 0 → link [stripW o] b = link [o] b) := by
  rw [stripW, if_pos ho]
  have h := wan_keeps ho
  exact ⟨keep_objB h ho, keep_link2 h ho⟩
/-! Stripped once is stripped for good. -/
theorem kpS_all : ∀ {p : List Bool} {l : List Sym}, p.length = l.length → (∀ j : Nat, p[j]? = some false → False) → kpS p l = l ∧ ∀ k (j : Nat), j < l.length → (kpN p k)[j]? = some (k + j) := by
  intro p
  induction p with
  | nil => intro l h _; cases l with
    | nil => exact ⟨rfl, fun k j hj => by simp at hj⟩
    | cons _ _ => simp at h
  | cons b p ih =>
    intro l h hp
    cases l with
    | nil => simp at h
    | cons t l =>
      have hb : b = true := by cases b with
        | true => rfl
        | false => exact (hp 0 rfl).elim
      subst hb
      obtain ⟨h1, h2⟩ := ih (l := l) (by simpa using h) fun j hj => hp (j + 1) (by simpa using hj)
      refine ⟨by simp [kpS, h1], fun k j hj => ?_⟩
      cases j with
      | zero => simp [kpN]
      | succ j => simp only [kpN, if_true, List.getElem?_cons_succ]; rw [h2 (k + 1) j (by simpa using hj)]; congr 1; omega
theorem keep_all {o : Objt} {p : List Bool} (ho : objB o = true) (hl : p.length = o.syms.length) (hp : ∀ j : Nat, p[j]? = some false → False) : keepO o p = o := by
  obtain ⟨h1, h2⟩ := kpS_all hl hp
  have e : o.sects.map (reS (kpN p 0)) = o.sects := by
    refine (List.map_congr_left fun s hs => ?_).trans (List.map_id _)
    have : s.fixups.map (reF (kpN p 0)) = s.fixups := by
      refine (List.map_congr_left fun f hf => ?_).trans (List.map_id _)
      have ht := objB_to ho hs hf
      have := h2 0 f.to.toNat (by omega)
      have e : (kpN p 0).getD f.to.toNat 0 = f.to := by rw [getD_get this]; omega
      simp only [reF, e, id]
    simp only [reS, this, id]
  rw [keepO, h1, e]
theorem kpS_mem2 : ∀ {p : List Bool} {l : List Sym} {m : Nat} {s : Sym} (k : Int), (kpS p l)[m]? = some s → ∃ j : Nat, p[j]? = some true ∧ l[j]? = some s ∧ (kpN p k)[j]? = some (k + m) := by
  intro p
  induction p with
  | nil => intro l m s k h; cases l <;> simp [kpS] at h
  | cons b p ih =>
    intro l m s k h
    cases l with
    | nil => simp [kpS] at h
    | cons t l =>
      simp only [kpS] at h
      cases b with
      | true =>
        simp only [if_true] at h
        cases m with
        | zero => exact ⟨0, rfl, by simpa using h, by simp [kpN]⟩
        | succ m =>
          obtain ⟨j, h1, h2, h3⟩ := ih (k + 1) (by simpa using h)
          refine ⟨j + 1, by simpa using h1, by simpa using h2, ?_⟩
          simp only [kpN, if_true, List.getElem?_cons_succ, h3]
          congr 1; omega
      | false =>
        simp only [Bool.false_eq_true, if_false] at h
        obtain ⟨j, h1, h2, h3⟩ := ih k h
        exact ⟨j + 1, by simpa using h1, by simpa using h2, by simp only [kpN, Bool.false_eq_true, if_false, List.getElem?_cons_succ]; exact h3⟩
/-- A symbol that is kept is used as it was. -/
theorem used_keep {o : Objt} {p : List Bool} {j m : Nat} (hn : (kpN p 0)[j]? = some (m : Int)) (h : usedO o j = true) : usedO (keepO o p) m = true := by
  unfold usedO at *
  rw [List.any_eq_true] at *
  obtain ⟨s, hs, h⟩ := h
  rw [List.any_eq_true] at h
  obtain ⟨f, hf, h⟩ := h
  have h := of_decide_eq_true h
  refine ⟨reS (kpN p 0) s, List.mem_map.2 ⟨s, hs, rfl⟩, List.any_eq_true.2 ⟨reF (kpN p 0) f, List.mem_map.2 ⟨f, hf, rfl⟩, decide_eq_true ?_⟩⟩
  show (kpN p 0).getD f.to.toNat 0 = m
  rw [h, Int.toNat_natCast, getD_get hn]
theorem strip_twice {o : Objt} {c : Sym → Bool} (ho : objB o = true) (h : Keeps1 o (bits (fun j s => c s || usedO o j) o.syms 0)) :
    keepO (keepO o (bits (fun j s => c s || usedO o j) o.syms 0)) (bits (fun j s => c s || usedO (keepO o (bits (fun j s => c s || usedO o j) o.syms 0)) j) (kpS (bits (fun j s => c s || usedO o j) o.syms 0) o.syms) 0) = keepO o (bits (fun j s => c s || usedO o j) o.syms 0) := by
  refine keep_all (keep_objB h ho) bits_len fun m hm => ?_
  rw [bits_get] at hm
  cases hs : (kpS (bits (fun j s => c s || usedO o j) o.syms 0) o.syms)[m]? with
  | none => rw [hs] at hm; cases hm
  | some s =>
    rw [hs] at hm
    simp only [Option.map_some, Option.some.injEq, Bool.or_eq_false_iff, Int.zero_add] at hm
    obtain ⟨j, h1, h2, h3⟩ := kpS_mem2 0 hs
    rw [bits_get, h2] at h1
    simp only [Option.map_some, Option.some.injEq, Bool.or_eq_true, Int.zero_add] at h1 h3
    rcases h1 with h1 | h1
    · rw [hm.1] at h1; cases h1
    · have := used_keep h3 h1
      rw [hm.2] at this; cases this
theorem stripL_twice {o : Objt} (ho : objB o = true) : stripL (stripL o) = stripL o := by
  have h := loc_keeps ho
  have hb := keep_objB h ho
  have e : stripL o = keepO o (bits (locQ o) o.syms 0) := by rw [stripL, if_pos ho]
  rw [e, stripL, if_pos hb]
  exact strip_twice (c := fun s => decide (s.bind ≠ 0)) ho h
theorem stripW_twice {o : Objt} (ho : objB o = true) : stripW (stripW o) = stripW o := by
  have h := wan_keeps ho
  have hb := keep_objB h ho
  have e : stripW o = keepO o (bits (wanQ o) o.syms 0) := by rw [stripW, if_pos ho]
  rw [e, stripW, if_pos hb]
  exact strip_twice (c := fun s => decide (s.wher ≠ -1)) ho h
/-! Joined objects. -/
def shS (n : Nat) (s : Sym) : Sym := if 0 ≤ s.wher then ⟨s.name, s.bind, s.wher + n, s.value⟩ else s
def tks (s t : Sym) : Bool := decide ((s.wher = -1 ∧ t.wher ≠ -1) ∨ ((s.wher = -1 ↔ t.wher = -1) ∧ t.bind = 1 ∧ s.bind ≠ 1))
structure Jn where
  syms : List Sym
  nums : List Int
def jnStep (a : Objt) (st : Jn) (s : Sym) : Jn :=
  if s.bind = 0 ∨ globIx s.name a.syms 0 < 0 then ⟨st.syms ++ [shS a.sects.length s], st.nums ++ [(st.syms.length : Int)]⟩
  else if tks ((a.syms[(globIx s.name a.syms 0).toNat]?).getD s) s = true then ⟨st.syms.set (globIx s.name a.syms 0).toNat (shS a.sects.length s), st.nums ++ [globIx s.name a.syms 0]⟩
  else ⟨st.syms, st.nums ++ [globIx s.name a.syms 0]⟩
def jnF (a : Objt) (l : List Sym) : Jn := l.foldl (jnStep a) ⟨a.syms, []⟩
def jnO (a b : Objt) : Objt := ⟨a.sects ++ b.sects.map (reS (jnF a b.syms).nums), (jnF a b.syms).syms⟩
def joinOk (a b : Objt) : Bool := objB a && objB b && decide (nTw [a, b] = []) && objB (jnO a b)
def joinV (a b : Objt) : Objt := if joinOk a b = true then jnO a b else ⟨[], []⟩
theorem shS_nb {n : Nat} {s : Sym} : (shS n s).name = s.name ∧ (shS n s).bind = s.bind ∧ ((shS n s).wher = -1 ↔ s.wher = -1) ∧ ((shS n s).wher = -2 ↔ s.wher = -2) ∧ (shS n s).value = s.value := by
  unfold shS
  split
  · refine ⟨rfl, rfl, ?_, ?_, rfl⟩ <;> simp only <;> omega
  · exact ⟨rfl, rfl, Iff.rfl, Iff.rfl, rfl⟩
theorem glob_glo {n : ByteArray} : ∀ {l : List Sym} {k : Int}, 0 ≤ k → (globIx n l k < 0 ∧ glo l n = none) ∨ (∃ (i : Nat) (s : Sym), globIx n l k = k + i ∧ glo l n = some s ∧ l[i]? = some s ∧ s.bind ≠ 0 ∧ s.name = n) := by
  intro l
  induction l with
  | nil => intro k _; left; exact ⟨by simp [globIx], rfl⟩
  | cons x l ih =>
    intro k hk
    have e : glo (x :: l) n = if x.bind ≠ 0 ∧ x.name = n then some x else glo l n := by
      unfold glo
      rw [List.find?_cons]
      split
      · rename_i h; rw [if_pos (of_decide_eq_true h)]
      · rename_i h; rw [if_neg (of_decide_eq_false h)]
    rw [e]
    simp only [globIx]
    by_cases h : x.bind ≠ 0 ∧ x.name = n
    · right; rw [if_pos h, if_pos h]; exact ⟨0, x, by simp, rfl, rfl, h⟩
    · rw [if_neg h, if_neg h]
      rcases ih (k := k + 1) (by omega) with ⟨h1, h2⟩ | ⟨i, s, h1, h2, h3, h4⟩
      · left; exact ⟨h1, h2⟩
      · right; exact ⟨i + 1, s, by rw [h1]; omega, h2, by simpa using h3, h4⟩
theorem uniq_ix : ∀ {l : List Sym} {i j : Nat} {s : Sym}, Uniq l → l[i]? = some s → l[j]? = some s → s.bind ≠ 0 → i = j := by
  intro l
  induction l with
  | nil => intro i j s _ h; simp at h
  | cons t l ih =>
    intro i j s hu hi hj hb
    cases i with
    | zero =>
      cases j with
      | zero => rfl
      | succ j =>
        simp only [List.getElem?_cons_zero, Option.some.injEq, List.getElem?_cons_succ] at hi hj
        subst hi
        exact absurd rfl (hu.1 hb t (List.mem_of_getElem? hj) hb)
    | succ i =>
      cases j with
      | zero =>
        simp only [List.getElem?_cons_zero, Option.some.injEq, List.getElem?_cons_succ] at hi hj
        subst hj
        exact absurd rfl (hu.1 hb t (List.mem_of_getElem? hi) hb)
      | succ j => rw [ih (i := i) (j := j) (s := s) hu.2 (by simpa using hi) (by simpa using hj) hb]
structure JnOk (a : Objt) (l : List Sym) (st : Jn) : Prop where
  len : st.nums.length = l.length
  big : a.syms.length ≤ st.syms.length
  old : ∀ (i : Nat) s, a.syms[i]? = some s → (∃ t ∈ l, t.bind ≠ 0 ∧ t.name = s.name ∧ s.bind ≠ 0 ∧ tks s t = true ∧ st.syms[i]? = some (shS a.sects.length t)) ∨ (st.syms[i]? = some s ∧ (s.bind ≠ 0 → glo a.syms s.name = some s → ∀ t ∈ l, t.bind ≠ 0 → t.name = s.name → tks s t = false))
  num : ∀ (j : Nat) t, l[j]? = some t → ∃ m : Nat, st.nums[j]? = some (m : Int) ∧ ∃ u, st.syms[m]? = some u ∧ (t.bind = 0 → u = shS a.sects.length t) ∧ (t.bind ≠ 0 → u.bind ≠ 0 ∧ u.name = t.name)
  add : ∀ t ∈ l, (t.bind = 0 ∨ glo a.syms t.name = none) → shS a.sects.length t ∈ st.syms
  all : ∀ u ∈ st.syms, u ∈ a.syms ∨ ∃ t ∈ l, u = shS a.sects.length t
theorem jnStep_ok {a : Objt} {l : List Sym} {st : Jn} {s : Sym} (ha : Uniq a.syms) (h : JnOk a l st) (hu : s.bind ≠ 0 → ∀ t ∈ l, t.bind ≠ 0 → t.name ≠ s.name) : JnOk a (l ++ [s]) (jnStep a st s) := by
  unfold jnStep
  have hg := glob_glo (n := s.name) (l := a.syms) (k := 0) (by omega)
  by_cases h1 : s.bind = 0 ∨ globIx s.name a.syms 0 < 0
  · rw [if_pos h1]
    have hn : s.bind = 0 ∨ glo a.syms s.name = none := by
      rcases h1 with h1 | h1
      · exact .inl h1
      · rcases hg with hg | ⟨i, t, hg, _⟩
        · exact .inr hg.2
        · omega
    refine ⟨by simp [h.len], by simp only [List.length_append]; have := h.big; omega, fun i t ht => ?_, fun j t ht => ?_, fun t ht hb => ?_, fun u hu => ?_⟩
    · have hi := lt_of_some ht
      have hlt : i < st.syms.length := by have := h.big; omega
      simp only [List.getElem?_append_left hlt]
      rcases h.old i t ht with ⟨u, h2, h3⟩ | ⟨h2, h3⟩
      · exact .inl ⟨u, by simp [h2], h3⟩
      · refine .inr ⟨h2, fun hb hgt u hu hub hun => ?_⟩
        rcases List.mem_append.1 hu with hu | hu
        · exact h3 hb hgt u hu hub hun
        · simp only [List.mem_singleton] at hu
          subst hu
          rcases hn with hn | hn
          · exact absurd hn hub
          · rw [hun, hgt] at hn; cases hn
    · by_cases hj : j < l.length
      · rw [List.getElem?_append_left hj] at ht
        obtain ⟨m, h2, u, h3, h4⟩ := h.num j t ht
        refine ⟨m, by simp only [List.getElem?_append_left (by rw [h.len]; exact hj)]; exact h2, u, ?_, h4⟩
        simp only [List.getElem?_append_left (lt_of_some h3), h3]
      · have e : j = l.length := by have := lt_of_some ht; simp at this; omega
        subst e
        simp only [List.getElem?_concat_length, Option.some.injEq] at ht
        subst ht
        refine ⟨st.syms.length, by rw [← h.len]; simp, shS a.sects.length s, by simp, fun _ => rfl, fun hb => ⟨by rw [shS_nb.2.1]; exact hb, shS_nb.1⟩⟩
    · rcases List.mem_append.1 ht with ht | ht
      · simp only [List.mem_append]; exact .inl (h.add t ht hb)
      · simp only [List.mem_singleton] at ht; subst ht; simp
    · rcases List.mem_append.1 hu with hu | hu
      · rcases h.all u hu with h2 | ⟨t, h2, h3⟩
        · exact .inl h2
        · exact .inr ⟨t, by simp [h2], h3⟩
      · simp only [List.mem_singleton] at hu; exact .inr ⟨s, by simp, hu⟩
  · rw [if_neg h1]
    have hb : s.bind ≠ 0 := fun hb => h1 (.inl hb)
    rcases hg with hg | ⟨i0, s0, hg, hg2, hg3, hg4, hg5⟩
    · exact absurd (.inr hg.1) h1
    rw [Int.zero_add] at hg
    rw [hg, Int.toNat_natCast, hg3, Option.getD_some]
    have hi0 := lt_of_some hg3
    have hlt : i0 < st.syms.length := by have := h.big; omega
    have hold : st.syms[i0]? = some s0 := by
      rcases h.old i0 s0 hg3 with ⟨t, h2, h3, h4, _⟩ | ⟨h2, _⟩
      · exact absurd (h4.trans hg5) (hu hb t h2 h3)
      · exact h2
    have hsame : ∀ (i : Nat) t, a.syms[i]? = some t → t.bind ≠ 0 → t.name = s.name → glo a.syms t.name = some t → t = s0 := fun i t _ _ hn hgt => by
      rw [hn, hg2] at hgt; injection hgt with hgt; exact hgt.symm
    by_cases h2 : tks s0 s = true
    · rw [if_pos h2]
      refine ⟨by simp [h.len], by simp only [List.length_set]; exact h.big, fun i t ht => ?_, fun j t ht => ?_, fun t ht hb' => ?_, fun u hu' => ?_⟩
      · by_cases hi : i0 = i
        · subst hi
          rw [hg3] at ht
          injection ht with ht
          subst ht
          exact .inl ⟨s, by simp, hb, hg5.symm, hg4, h2, by simp [hlt]⟩
        · simp only [List.getElem?_set, if_neg hi]
          rcases h.old i t ht with ⟨u, h3, h4⟩ | ⟨h3, h4⟩
          · exact .inl ⟨u, by simp [h3], h4⟩
          · refine .inr ⟨h3, fun hbt hgt u hu' hub hun => ?_⟩
            rcases List.mem_append.1 hu' with hu' | hu'
            · exact h4 hbt hgt u hu' hub hun
            · simp only [List.mem_singleton] at hu'
              subst hu'
              have := hsame i t ht hbt hun.symm hgt
              subst this
              -- the same symbol at two places: the first is meant by glo
              exfalso
              exact hi (uniq_ix ha hg3 ht hbt)
      · have hset : ∀ (m : Nat) u, st.syms[m]? = some u → (t.bind = 0 → u = shS a.sects.length t) → (t.bind ≠ 0 → u.bind ≠ 0 ∧ u.name = t.name) → (m = i0 → t.bind ≠ 0 ∧ t.name = s.name → False) → (m = i0 → t.bind ≠ 0) → ∃ u', (st.syms.set i0 (shS a.sects.length s))[m]? = some u' ∧ (t.bind = 0 → u' = shS a.sects.length t) ∧ (t.bind ≠ 0 → u'.bind ≠ 0 ∧ u'.name = t.name) := fun m u h3 h4 h5 h6 h7 => by
          by_cases hm : i0 = m
          · subst hm
            exfalso
            rw [hold] at h3
            injection h3 with h3
            subst h3
            have h8 := h7 rfl
            exact h6 rfl ⟨h8, ((h5 h8).2).symm.trans hg5⟩
          · exact ⟨u, by rw [List.getElem?_set, if_neg hm]; exact h3, h4, h5⟩
        by_cases hj : j < l.length
        · rw [List.getElem?_append_left hj] at ht
          obtain ⟨m, h3, u, h4, h5, h6⟩ := h.num j t ht
          refine ⟨m, by simp only [List.getElem?_append_left (by rw [h.len]; exact hj)]; exact h3, hset m u h4 h5 h6 (fun _ ⟨hbt, hnt⟩ => hu hb t (List.mem_of_getElem? ht) hbt hnt) (fun hm hbt => ?_)⟩
          subst hm
          have := h5 hbt
          rw [hold] at h4
          injection h4 with h4
          subst h4
          rw [this, shS_nb.2.1] at hg4
          exact hg4 hbt
        · have e : j = l.length := by have := lt_of_some ht; simp at this; omega
          subst e
          simp only [List.getElem?_concat_length, Option.some.injEq] at ht
          subst ht
          exact ⟨i0, by rw [← h.len]; simp, shS a.sects.length s, by simp [hlt], fun _ => rfl, fun _ => ⟨by rw [shS_nb.2.1]; exact hb, shS_nb.1⟩⟩
      · rcases List.mem_append.1 ht with ht | ht
        · obtain ⟨m, hm⟩ := List.getElem?_of_mem (h.add t ht hb')
          refine List.mem_of_getElem? (i := m) ?_
          rw [List.getElem?_set, if_neg, hm]
          intro e
          subst e
          rw [hold] at hm
          injection hm with hm
          rcases hb' with hb' | hb'
          · rw [hm, shS_nb.2.1] at hg4; exact hg4 hb'
          · rw [show t.name = s.name by rw [← hg5, hm, shS_nb.1], hg2] at hb'; cases hb'
        · simp only [List.mem_singleton] at ht
          subst ht
          exact List.mem_of_getElem? (i := i0) (by simp [hlt])
      · rcases List.mem_or_eq_of_mem_set hu' with hu' | hu'
        · rcases h.all u hu' with h3 | ⟨t, h3, h4⟩
          · exact .inl h3
          · exact .inr ⟨t, by simp [h3], h4⟩
        · exact .inr ⟨s, by simp, hu'⟩
    · rw [if_neg h2]
      refine ⟨by simp [h.len], h.big, fun i t ht => ?_, fun j t ht => ?_, fun t ht hb' => ?_, fun u hu' => ?_⟩
      · rcases h.old i t ht with ⟨u, h3, h4⟩ | ⟨h3, h4⟩
        · exact .inl ⟨u, by simp [h3], h4⟩
        · refine .inr ⟨h3, fun hbt hgt u hu' hub hun => ?_⟩
          rcases List.mem_append.1 hu' with hu' | hu'
          · exact h4 hbt hgt u hu' hub hun
          · simp only [List.mem_singleton] at hu'
            subst hu'
            have := hsame i t ht hbt hun.symm hgt
            subst this
            exact Bool.eq_false_iff.2 h2
      · by_cases hj : j < l.length
        · rw [List.getElem?_append_left hj] at ht
          obtain ⟨m, h3, h4⟩ := h.num j t ht
          exact ⟨m, by simp only [List.getElem?_append_left (by rw [h.len]; exact hj)]; exact h3, h4⟩
        · have e : j = l.length := by have := lt_of_some ht; simp at this; omega
          subst e
          simp only [List.getElem?_concat_length, Option.some.injEq] at ht
          subst ht
          exact ⟨i0, by rw [← h.len]; simp, s0, hold, fun h => absurd h hb, fun _ => ⟨hg4, hg5⟩⟩
      · rcases List.mem_append.1 ht with ht | ht
        · exact h.add t ht hb'
        · simp only [List.mem_singleton] at ht
          subst ht
          rcases hb' with hb' | hb'
          · exact absurd hb' hb
          · rw [hg2] at hb'; cases hb'
      · rcases h.all u hu' with h3 | ⟨t, h3, h4⟩
        · exact .inl h3
        · exact .inr ⟨t, by simp [h3], h4⟩
theorem jnF_ok {a : Objt} (ha : Uniq a.syms) : ∀ {l : List Sym} {l0 : List Sym} {st : Jn}, JnOk a l0 st → Uniq l → (∀ s ∈ l, s.bind ≠ 0 → ∀ t ∈ l0, t.bind ≠ 0 → t.name ≠ s.name) → JnOk a (l0 ++ l) (l.foldl (jnStep a) st) := by
  intro l
  induction l with
  | nil => intro l0 st h _ _; simpa using h
  | cons s l ih =>
    intro l0 st h hu hd
    have := ih (l0 := l0 ++ [s]) (jnStep_ok ha h (hd s (by simp))) hu.2 fun t ht htb u hu' hub => by
      rcases List.mem_append.1 hu' with hu' | hu'
      · exact hd t (by simp [ht]) htb u hu' hub
      · simp only [List.mem_singleton] at hu'
        subst hu'
        exact fun e => hu.1 hub t ht htb e.symm
    simpa using this
theorem jn_ok {a b : Objt} (ha : objB a = true) (hb : objB b = true) : JnOk a b.syms (jnF a b.syms) := by
  have := jnF_ok (objB_uniq ha) (l := b.syms) (l0 := []) (st := ⟨a.syms, []⟩) ⟨rfl, Nat.le_refl _, fun i s h => .inr ⟨h, fun _ _ t ht => (by cases ht)⟩, fun j t h => (by simp at h), fun t ht => (by cases ht), fun u hu => .inl hu⟩ (objB_uniq hb) fun _ _ _ t ht => (by cases ht)
  simpa [jnF] using this
end Go.Proofs.YtccmghepiegcaaaGreat
