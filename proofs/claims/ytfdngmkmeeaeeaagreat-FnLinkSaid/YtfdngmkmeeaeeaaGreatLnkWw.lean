/- Bytes of sections in images: plain Lean. -/
import Derived.Test.YtfdngmkmeeaeeaaGreatLnkVw
import Derived.Test.YtfdngmkmeeaeeaaGreatPlcDw
set_option linter.unusedVariables false
set_option linter.unusedSimpArgs false
namespace Go.Proofs.YtfdngmkmeeaeeaaGreat
open Go Go.RowKit

theorem fills_keep {pl : List (List Int)} {l : List Objt} {k p : Int} {t : Int} (h0 : 0 ≤ t) : ∀ {r : List Fixup} {b c : List Int}, fills pl l k p r b = some c → (∀ f ∈ r, t < f.at_ ∨ f.at_ + fixWide f.kind ≤ t) → c[t.toNat]? = b[t.toNat]? := by
 intro r
 induction r with
 | nil => intro b c h _; simp only [fills, Option.some.injEq] at h; rw [h]
 | cons f r ih =>
  intro b c h hf
  simp only [fills] at h
  split at h
  ·rename_i hv
   obtain ⟨v, hv⟩ := Option.isSome_iff_exists.1 hv
   rw [ih h fun g hg => hf g (List.mem_cons_of_mem _ hg)]
   exact fxApp_get hv h0 (hf f (by simp))
  ·cases h
theorem putB_out {out b : List Int} {a : Int} {p : Nat} (h0 : 0 ≤ a) (h : a + b.length ≤ out.length) (hp : (p : Int) < a ∨ a + b.length ≤ p) : (putB out a b)[p]? = out[p]? := by
 unfold putB
 have e : (out.take a.toNat).length = a.toNat := by rw [List.length_take]; omega
 rw [List.append_assoc]
 rcases hp with hp | hp
 ·rw [List.getElem?_append_left (by omega), List.getElem?_take, if_pos (by omega)]
 ·rw [List.getElem?_append_right (by omega), e, List.getElem?_append_right (by omega), List.getElem?_drop]
  congr 1; omega
theorem putB_in {out b : List Int} {a : Int} {i : Nat} (h0 : 0 ≤ a) (h : a + b.length ≤ out.length) (hi : i < b.length) : (putB out a b)[a.toNat + i]? = b[i]? := by
 unfold putB
 have e : (out.take a.toNat).length = a.toNat := by rw [List.length_take]; omega
 rw [List.append_assoc, List.getElem?_append_right (by omega), e, List.getElem?_append_left (by omega)]
 congr 1; omega
structure Ins (pl : List (List Int)) (base : Int) (n : Nat) (k i : Int) (s : Sect) : Prop where
 lo : base ≤ placeOf pl k i
 hi : placeOf pl k i - base + s.bytes.length ≤ n
def Outs (pl : List (List Int)) (base : Int) (p : Nat) (k i : Int) (s : Sect) : Prop := (p : Int) < placeOf pl k i - base ∨ placeOf pl k i - base + s.bytes.length ≤ p
theorem lnkS_keep {pl : List (List Int)} {l : List Objt} {base k : Int} {p : Nat} : ∀ {r : List Sect} {i : Int} {out y : List Int}, lnkS pl l base k r i out = some y → (∀ (j : Nat) s, r[j]? = some s → Ins pl base out.length k (i + j) s) → (∀ (j : Nat) s, r[j]? = some s → Outs pl base p k (i + j) s) → y[p]? = out[p]? ∧ y.length = out.length := by
 intro r
 induction r with
 | nil => intro i out y h _ _; simp only [lnkS, Option.some.injEq] at h; rw [h]; exact ⟨rfl, rfl⟩
 | cons s r ih =>
  intro i out y h hi ho
  rw [lnkS_cons] at h
  cases hf : fills pl l k (placeOf pl k i) s.fixups s.bytes with
  | none => rw [hf] at h; cases h
  | some c =>
   rw [hf] at h
   have hc := fills_len hf
   have i0 := hi 0 s rfl
   have o0 := ho 0 s rfl
   simp only [Int.natCast_zero, Int.add_zero] at i0 o0
   have e := putB_len (out := out) (b := c) (a := placeOf pl k i - base) (by have := i0.lo; omega) (by have := i0.hi; omega)
   have g := ih h (fun j t ht => by
    have := hi (j + 1) t (by simpa using ht)
    rw [e, show i + 1 + (j : Int) = i + ((j + 1 : Nat) : Int) by omega]; exact this) (fun j t ht => by
    have := ho (j + 1) t (by simpa using ht)
    rw [show i + 1 + (j : Int) = i + ((j + 1 : Nat) : Int) by omega]; exact this)
   refine ⟨?_, by rw [g.2, e]⟩
   rw [g.1]
   refine putB_out (by have := i0.lo; omega) (by have := i0.hi; omega) ?_
   rw [hc]; exact o0
theorem lnkS_at {pl : List (List Int)} {l : List Objt} {base k : Int} {t : Nat} {s : Sect} : ∀ {r : List Sect} {i : Int} {j : Nat} {out y : List Int}, lnkS pl l base k r i out = some y → r[j]? = some s → t < s.bytes.length → (∀ (j : Nat) s, r[j]? = some s → Ins pl base out.length k (i + j) s) → (∀ (q : Nat) u, q ≠ j → r[q]? = some u → Outs pl base ((placeOf pl k (i + j) - base).toNat + t) k (i + q) u) → (∃ c, fills pl l k (placeOf pl k (i + j)) s.fixups s.bytes = some c ∧ y[(placeOf pl k (i + j) - base).toNat + t]? = c[t]?) ∧ y.length = out.length := by
 intro r
 induction r with
 | nil => intro i j out y _ hj; simp at hj
 | cons u r ih =>
  intro i j out y h hj ht hi ho
  rw [lnkS_cons] at h
  cases hf : fills pl l k (placeOf pl k i) u.fixups u.bytes with
  | none => rw [hf] at h; cases h
  | some c =>
   rw [hf] at h
   have hc := fills_len hf
   have i0 := hi 0 u rfl
   simp only [Int.natCast_zero, Int.add_zero] at i0
   have e := putB_len (out := out) (b := c) (a := placeOf pl k i - base) (by have := i0.lo; omega) (by have := i0.hi; omega)
   have hi' : ∀ (j : Nat) s, r[j]? = some s → Ins pl base (putB out (placeOf pl k i - base) c).length k (i + 1 + j) s := fun j t ht => by
    have := hi (j + 1) t (by simpa using ht)
    rw [e, show i + 1 + (j : Int) = i + ((j + 1 : Nat) : Int) by omega]; exact this
   cases j with
   | zero =>
    simp only [List.getElem?_cons_zero, Option.some.injEq] at hj
    subst hj
    have hz : i + ((0 : Nat) : Int) = i := by omega
    rw [hz] at ho ⊢
    have g := lnkS_keep (p := (placeOf pl k i - base).toNat + t) h hi' fun q v hv => by
     have := ho (q + 1) v (by omega) (by simpa using hv)
     rw [show i + 1 + (q : Int) = i + ((q + 1 : Nat) : Int) by omega]; exact this
    refine ⟨⟨c, hf, ?_⟩, by rw [g.2, e]⟩
    rw [g.1]
    exact putB_in (by have := i0.lo; omega) (by have := i0.hi; omega) (by omega)
   | succ j =>
    have hz : i + ((j + 1 : Nat) : Int) = i + 1 + (j : Int) := by omega
    rw [hz] at ho ⊢
    have g := ih h (by simpa using hj) ht hi' fun q v hq hv => by
     have := ho (q + 1) v (by omega) (by simpa using hv)
     rw [show i + 1 + (q : Int) = i + ((q + 1 : Nat) : Int) by omega]; exact this
    exact ⟨g.1, by rw [g.2, e]⟩
theorem lnkO_keep {pl : List (List Int)} {l : List Objt} {base : Int} {p : Nat} : ∀ {r : List Objt} {k : Int} {out y : List Int}, lnkO pl l base r k out = some y → (∀ (j : Nat) o, r[j]? = some o → ∀ (i : Nat) s, o.sects[i]? = some s → Ins pl base out.length (k + j) i s) → (∀ (j : Nat) o, r[j]? = some o → ∀ (i : Nat) s, o.sects[i]? = some s → Outs pl base p (k + j) i s) → y[p]? = out[p]? := by
 intro r
 induction r with
 | nil => intro k out y h _ _; simp only [lnkO, Option.some.injEq] at h; rw [h]
 | cons o r ih =>
  intro k out y h hi ho
  rw [lnkO_cons] at h
  cases hf : lnkS pl l base k o.sects 0 out with
  | none => rw [hf] at h; cases h
  | some out' =>
   rw [hf] at h
   have g := lnkS_keep (p := p) hf (fun j s hs => by have := hi 0 o rfl j s hs; simpa using this) (fun j s hs => by have := ho 0 o rfl j s hs; simpa using this)
   rw [← g.1]
   refine ih h (fun j q hq i s hs => ?_) (fun j q hq i s hs => ?_)
   ·have := hi (j + 1) q (by simpa using hq) i s hs
    rw [g.2, show k + 1 + (j : Int) = k + ((j + 1 : Nat) : Int) by omega]; exact this
   ·have := ho (j + 1) q (by simpa using hq) i s hs
    rw [show k + 1 + (j : Int) = k + ((j + 1 : Nat) : Int) by omega]; exact this
theorem lnkO_at {pl : List (List Int)} {l : List Objt} {base : Int} {t i : Nat} {s : Sect} {o : Objt} (hs : o.sects[i]? = some s) (ht : t < s.bytes.length) : ∀ {r : List Objt} {k : Int} {j : Nat} {out y : List Int}, lnkO pl l base r k out = some y → r[j]? = some o → (∀ (j : Nat) o, r[j]? = some o → ∀ (i : Nat) s, o.sects[i]? = some s → Ins pl base out.length (k + j) i s) → (∀ (q : Nat) o', r[q]? = some o' → ∀ (m : Nat) u, o'.sects[m]? = some u → (q ≠ j ∨ m ≠ i) → Outs pl base ((placeOf pl (k + j) i - base).toNat + t) (k + q) m u) → ∃ c, fills pl l (k + j) (placeOf pl (k + j) i) s.fixups s.bytes = some c ∧ y[(placeOf pl (k + j) i - base).toNat + t]? = c[t]? := by
 intro r
 induction r with
 | nil => intro k j out y _ hj; simp at hj
 | cons q r ih =>
  intro k j out y h hj hi ho
  rw [lnkO_cons] at h
  cases hf : lnkS pl l base k q.sects 0 out with
  | none => rw [hf] at h; cases h
  | some out' =>
   rw [hf] at h
   have hi0 : ∀ (j : Nat) s, q.sects[j]? = some s → Ins pl base out.length k (0 + j) s := fun j s hs => by have := hi 0 q rfl j s hs; simpa using this
   cases j with
   | zero =>
    simp only [List.getElem?_cons_zero, Option.some.injEq] at hj
    subst hj
    have hz : k + ((0 : Nat) : Int) = k := by omega
    rw [hz] at ho ⊢
    have g := lnkS_at (t := t) hf hs ht hi0 (fun m u hm hu => by
     have := ho 0 q rfl m u hu (.inr hm)
     simpa using this)
    have hl := g.2
    obtain ⟨c, hc, hy⟩ := g.1
    rw [Int.zero_add] at hc hy
    refine ⟨c, hc, ?_⟩
    rw [← hy]
    refine lnkO_keep h (fun j q' hq i s hs => ?_) (fun j q' hq i s hs => ?_)
    ·have := hi (j + 1) q' (by simpa using hq) i s hs
     rw [hl, show k + 1 + (j : Int) = k + ((j + 1 : Nat) : Int) by omega]; exact this
    ·have := ho (j + 1) q' (by simpa using hq) i s hs (.inl (by omega))
     rw [show k + 1 + (j : Int) = k + ((j + 1 : Nat) : Int) by omega]; exact this
   | succ j =>
    have hz : k + ((j + 1 : Nat) : Int) = k + 1 + (j : Int) := by omega
    rw [hz] at ho ⊢
    have hl : out'.length = out.length := lnkS_len (fun j s hs => by have := hi0 j s hs; exact ⟨this.lo, this.hi⟩) hf
    refine ih h (by simpa using hj) (fun j q' hq i s hs => ?_) (fun m q' hq i' s' hs' hne => ?_)
    ·have := hi (j + 1) q' (by simpa using hq) i s hs
     rw [hl, show k + 1 + (j : Int) = k + ((j + 1 : Nat) : Int) by omega]; exact this
    ·have := ho (m + 1) q' (by simpa using hq) i' s' hs' (by omega)
     rw [show k + 1 + (m : Int) = k + ((m + 1 : Nat) : Int) by omega]; exact this
theorem pl_plc {l : List Objt} {b : Int} {k i : Nat} {o : Objt} {s : Sect} (ho : l[k]? = some o) (hs : o.sects[i]? = some s) : placeOf (places l b) (0 + (k : Int)) i = plc l b k i := by
 have := places_getD (b := b) ho hs
 unfold placeOf
 rw [show (0 + (k : Int)).toNat = k by omega, show ((i : Nat) : Int).toNat = i by omega]
 exact this
theorem byte_at {l : List Objt} {b : Int} {x : List Int} {k j t : Nat} {o : Objt} {s : Sect} (hl : layOk l b = true) (hx : lnkB l b = some x) (ho : l[k]? = some o) (hs : o.sects[j]? = some s) (ht : t < s.bytes.length) (hf : ∀ f ∈ s.fixups, (t : Int) < f.at_ ∨ f.at_ + fixWide f.kind ≤ t) : x[(plc l b k j - b).toNat + t]? = s.bytes[t]? := by
 unfold lnkB at hx
 have hk : k < l.length := lt_of_some ho
 have g := lnkO_at hs ht hx ho (fun q o' hq i s' hs' => by
  have hp := plc_range hl hq hs'
  have hso := secsOk_get (objB_secs (all_get (lay_all hl).1 hq)) hs'
  have := hso.2.2.2.2.2
  have e := pl_plc (b := b) hq hs'
  refine ⟨by rw [e]; omega, by rw [e, List.length_replicate]; omega⟩) (fun q o' hq m u hu hne => by
  have e := pl_plc (b := b) hq hu
  have e2 := pl_plc (b := b) ho hs
  have hql : q < l.length := lt_of_some hq
  have a1 : (sectsAt l (k : Int))[(j : Int).toNat]? = some s := by rw [sectsAt_eq (by simpa using ho)]; simpa using hs
  have a2 : (sectsAt l (q : Int))[(m : Int).toNat]? = some u := by rw [sectsAt_eq (by simpa using hq)]; simpa using hu
  have d := secP_dis (b := b) (k := k) (i := j) (q := q) (j := m) hl (by omega) (by omega) (by omega) a1 (by omega) (by omega) (by omega) a2 (by omega)
  have p1 : secP l b k j = plc l b k j := by simp [secP]
  have p2 : secP l b q m = plc l b q m := by simp [secP]
  have s1 := (secsOk_get (objB_secs (all_get (lay_all hl).1 ho)) hs).2.2.2.2.2
  have s2 := (secsOk_get (objB_secs (all_get (lay_all hl).1 hq)) hu).2.2.2.2.2
  have r1 := plc_range hl ho hs
  unfold Outs
  rw [e, e2]
  omega)
 obtain ⟨c, hc, hy⟩ := g
 rw [pl_plc (b := b) ho hs] at hc hy
 rw [hy]
 have := fills_keep (t := (t : Int)) (by omega) hc hf
 simpa using this
def flB (l : List Fixup) (t : Int) : Bool := l.any fun f => decide (f.at_ ≤ t ∧ t < f.at_ + fixWide f.kind)
theorem flB_no {l : List Fixup} {t : Int} (h : flB l t = false) : ∀ f ∈ l, t < f.at_ ∨ f.at_ + fixWide f.kind ≤ t := by
 intro f hf
 have := List.any_eq_false.1 h f hf
 simp only [decide_eq_true_eq] at this
 omega
theorem flB_next {l : List Fixup} {t n : Int} {f : Fixup} (hn : 0 ≤ n) (h : l[n.toNat]? = some f) : flB (l.take (n + 1).toNat) t = (flB (l.take n.toNat) t || decide (f.at_ ≤ t ∧ t < f.at_ + fixWide f.kind)) := by
 rw [toNat_succ hn, take_snoc h]; simp [flB]
theorem flB_zero {l : List Fixup} {t : Int} : flB (l.take (Int.toNat 0)) t = false := by simp [flB]
theorem flB_end {l : List Fixup} {t n : Int} (h : (l.length : Int) ≤ n) : flB (l.take n.toNat) t = flB l t := by rw [List.take_of_length_le (by omega)]
theorem img_ok {l : List Objt} {b : Int} (h : (link l b).2 = 0) : imgOk (link l b).1 ∧ (link l b).1.base = b ∧ ((link l b).1.bytes.length : Int) = atK l b 3 - b ∧ layOk l b = true ∧ endPl l b = atK l b 3 := by
 obtain ⟨x, hl, _, _, _, he, hx⟩ := link_good h
 have ht := atK_tot hl
 rw [he]
 exact ⟨⟨(layOk_iff.1 hl).2, by simp only; omega⟩, rfl, hx, hl, endPl_yes hl⟩
theorem img_at {l : List Objt} {b k j t v y : Int} {o : Objt} {s : Sect} {r : List Int} (hy : s.bytes[t.toNat]? = some y) (hf : flB s.fixups t = false) (hs : o.sects[j.toNat]? = some s) (ho : l[k.toNat]? = some o) (hv : r[j.toNat]? = some v) (hr : (layout l b).places[k.toNat]? = some r) (h : (link l b).2 = 0) (h0 : 0 ≤ t) : imgByte (link l b).1 (v + t) = y := by
 obtain ⟨x, hl, _, _, hx, he, hxl⟩ := link_good h
 have hi := (img_ok h).1
 rw [layout_yes hl] at hr
 have e3 := ((places_row hr ho).2 _ _ hv).1
 have hlt := lt_of_some hy
 have hp := plc_range hl ho hs
 have hso := (secsOk_get (objB_secs (all_get (lay_all hl).1 ho)) hs).2.2.2.2.2
 have g := byte_at hl hx ho hs hlt (fun f hm => by have := flB_no hf f hm; omega)
 rw [← e3] at g hp
 unfold imgByte
 rw [he] at hi ⊢
 rw [if_pos ⟨hi, by simp only; omega, by simp only; omega⟩]
 simp only
 rw [show (v + t - b).toNat = (v - b).toNat + t.toNat by omega]
 rw [List.getD, g, hy]; rfl
end Go.Proofs.YtfdngmkmeeaeeaaGreat
