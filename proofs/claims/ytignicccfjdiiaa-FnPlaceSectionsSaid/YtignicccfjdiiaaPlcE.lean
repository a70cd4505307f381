/- What the laws on places use, plain Lean. -/
import Derived.Test.YtignicccfjdiiaaPlcD
set_option linter.unusedVariables false
set_option linter.unusedSimpArgs false
namespace Go.Proofs.Ytignicccfjdiiaa
open Go Go.RowKit

theorem plcH {l : List Objt} {b : Int} (h : layOk l b = true) : (layout l b).places.length = l.length ∧ ∀ (k : Int) o, 0 ≤ k → l[k.toNat]? = some o → ∀ r, (layout l b).places[k.toNat]? = some r → r.length = o.sects.length ∧ ∀ (j : Int) s, 0 ≤ j → o.sects[j.toNat]? = some s → ∀ v, r[j.toNat]? = some v →
    v = secP l b k j ∧ v % s.align = 0 ∧ b ≤ v ∧ v + secSize s ≤ endPl l b ∧ 0 ≤ v ∧ v ≤ 100000 ∧ 1 ≤ s.align ∧ 0 ≤ secSize s ∧ secSize s ≤ 48 ∧ 0 ≤ b ∧ endPl l b ≤ 100000 ∧ 1 ≤ s.kind ∧ s.kind ≤ 3 ∧ begK l b s.kind ≤ v ∧ v + secSize s ≤ atK l b s.kind.toNat := by
  have hb := lay_all h
  rw [layout_yes h, endPl_yes h]
  refine ⟨places_len, fun k o hk ho r hr => ?_⟩
  have g := places_row hr ho
  refine ⟨g.1, fun j s hj hs v hv => ?_⟩
  have hl : k < l.length := by have := lt_of_some ho; omega
  have e : v = secP l b k j := (g.2 _ _ hv).1
  have hs' := sectsAt_get (l := l) (k := k) (i := j) hs ho
  have g1 := secP_in h hk hl hj hs'
  have g2 := secP_rng h hk hl hj hs'
  have g3 := atK_bd (b := b) hb.1 hb.2.1 3
  subst e
  exact ⟨rfl, g1.2.1, g2.1, g2.2.1, by omega, by omega, g1.2.2.2.2.2.2.2.2, g1.2.2.2.2.1, g1.2.2.2.2.2.1, hb.2.2.1, by omega, g1.2.2.2.2.2.2.1, g1.2.2.2.2.2.2.2.1, g1.2.2.1, g1.2.2.2.1⟩
theorem plc_r {l : List Objt} {b k : Int} {o : Objt} {r : List Int} (hr : (layout l b).places[k.toNat]? = some r) (ho : l[k.toNat]? = some o) (h : layOk l b = true) (hk : 0 ≤ k) : r.length = o.sects.length ∧ o.sects.length ≤ 8 := ⟨((plcH h).2 k o hk ho r hr).1, sects_len8 h ho⟩
theorem plc_at {l : List Objt} {b k j v : Int} {o : Objt} {r : List Int} {s : Sect} (hv : r[j.toNat]? = some v) (hr : (layout l b).places[k.toNat]? = some r) (ho : l[k.toNat]? = some o) (hs : o.sects[j.toNat]? = some s) (h : layOk l b = true) (hk : 0 ≤ k) (hj : 0 ≤ j) :
    v = secP l b k j ∧ v % s.align = 0 ∧ b ≤ v ∧ v + secSize s ≤ endPl l b ∧ 0 ≤ v ∧ v ≤ 100000 ∧ 1 ≤ s.align ∧ 0 ≤ secSize s ∧ secSize s ≤ 48 ∧ 0 ≤ b ∧ endPl l b ≤ 100000 ∧ 1 ≤ s.kind ∧ s.kind ≤ 3 ∧ begK l b s.kind ≤ v ∧ v + secSize s ≤ atK l b s.kind.toNat := ((plcH h).2 k o hk ho r hr).2 j s hj hs v hv
theorem plc_len {l : List Objt} {b : Int} (h : layOk l b = true) : (layout l b).places.length = l.length := (plcH h).1
theorem plc_no {l : List Objt} {b : Int} (h : layOk l b = false) : (layout l b).places.length = 0 ∧ endPl l b = 0 := by rw [layout_no h, endPl_no h]; exact ⟨rfl, rfl⟩
theorem endP_bd {l : List Objt} {b : Int} (h : layOk l b = true) : b ≤ endPl l b ∧ endPl l b ≤ 100000 ∧ 0 ≤ b := by
  have hb := lay_all h
  rw [endPl_yes h]
  have := atK_bd (b := b) hb.1 hb.2.1 3
  omega
theorem used_free' {l : List Objt} {b k j i v : Int} {u : List Bool} {o : Objt} {s : Sect} {y : Bool} (h : Used l b k j i u) (hb : layOk l b = true) (hk : 0 ≤ k) (ho : l[k.toNat]? = some o) (hj : 0 ≤ j) (hs : o.sects[j.toNat]? = some s) (hi : 0 ≤ i) (his : i < secSize s) (hv : v = secP l b k j) (hy : u[(v - b + i).toNat]? = some y) : y = false := by
  subst hv
  exact used_free h hb hk (by have := lt_of_some ho; omega) hj (sectsAt_get hs ho) hi his hy
theorem used_set' {l : List Objt} {b k j i v : Int} {u : List Bool} {o : Objt} {s : Sect} (h : Used l b k j i u) (hb : layOk l b = true) (hk : 0 ≤ k) (ho : l[k.toNat]? = some o) (hj : 0 ≤ j) (hs : o.sects[j.toNat]? = some s) (hi : 0 ≤ i) (his : i < secSize s) (hv : v = secP l b k j) : Used l b k j (i + 1) (u.set (v - b + i).toNat true) := by
  subst hv
  exact used_set h hb hk (by have := lt_of_some ho; omega) hj (sectsAt_get hs ho) hi his
/-- Kinds' ends, places and the end, of one base. -/
def KE (l : List Objt) (e p : List (List Int)) (a z : Int) : Prop := ∃ b, layOk l b = true ∧ e = (layout l b).ends ∧ p = (layout l b).places ∧ a = atK l b 3 ∧ z = endPl l b
theorem KE_mk {l : List Objt} {b : Int} (h : layOk l b = true) : KE l (layout l b).ends (layout l b).places (atK l b 3) (endPl l b) := ⟨b, h, rfl, rfl, rfl, rfl⟩
theorem KE_8 {l : List Objt} {e p : List (List Int)} {a z : Int} (h : KE l e p a z) (k : Int) : (sectsAt l k).length ≤ 8 ∧ a = z ∧ p.length = l.length ∧ e.length = 3 := by
  obtain ⟨b, h, rfl, rfl, rfl, rfl⟩ := h
  refine ⟨sects8 h, (endPl_yes h).symm, plc_len h, ?_⟩
  rw [layout_yes h]; rfl
theorem KE_at {l : List Objt} {e p : List (List Int)} {a z k : Int} {o : Objt} (h : KE l e p a z) (hk : 0 ≤ k) (ho : l[k.toNat]? = some o) : ∀ r, p[k.toNat]? = some r → r.length = o.sects.length ∧ ∀ (j : Int) s, 0 ≤ j → o.sects[j.toNat]? = some s → ∀ v, r[j.toNat]? = some v →
    1 ≤ s.kind ∧ s.kind ≤ 3 ∧ 0 ≤ v ∧ v ≤ 100000 ∧ 0 ≤ secSize s ∧ secSize s ≤ 48 ∧ ∀ q, e[(s.kind - 1).toNat]? = some q → q.length = 2 ∧ (∀ y, q[0]? = some y → y ≤ v) ∧ ∀ y, q[1]? = some y → v + secSize s ≤ y := by
  obtain ⟨b, h, rfl, rfl, rfl, rfl⟩ := h
  intro r hr
  obtain ⟨h1, h2⟩ := (plcH h).2 k o hk ho r hr
  refine ⟨h1, fun j s hj hs v hv => ?_⟩
  have g := h2 j s hj hs v hv
  refine ⟨by omega, by omega, by omega, by omega, by omega, by omega, fun q hq => ?_⟩
  have e1 := endsK_get (k := s.kind - 1) h (by omega) hq
  rw [Int.sub_add_cancel] at e1
  rw [e1.1]
  refine ⟨rfl, fun y hy => ?_, fun y hy => ?_⟩
  · simp at hy; omega
  · simp at hy; omega
def RG (q : List Region) : Prop := ∃ l b, q = regs (layout l b).ends 0
theorem RG_mk (l : List Objt) (b : Int) : RG (regs (layout l b).ends 0) := ⟨l, b, rfl⟩
theorem RG_at {q : List Region} (h : RG q) : q.length ≤ 3 ∧ ∀ (k : Int) r, 0 ≤ k → q[k.toNat]? = some r → r.run = !r.write ∧ r.from_ < r.to ∧ ∀ t, 0 < k → q[(k - 1).toNat]? = some t → t.to ≤ r.from_ := by
  obtain ⟨l, b, rfl⟩ := h
  obtain ⟨h1, h2⟩ := regs_facts l b
  refine ⟨h1, fun k r hk hr => ?_⟩
  obtain ⟨h3, h4, h5⟩ := h2 _ _ hr
  refine ⟨by cases hw : r.write <;> cases hv : r.run <;> simp_all, h4, fun t ht htt => h5 t (by omega) ?_⟩
  rwa [show (k - 1).toNat = k.toNat - 1 by omega] at htt
/-- A symbol's place is known. -/
def SP (l : List Objt) (b k j n : Int) (s : Sym) : Prop := ∃ o, l[k.toNat]? = some o ∧ o.syms[j.toNat]? = some s ∧ syPl l b k j = some n
theorem SP_mk {l : List Objt} {b k j : Int} {o : Objt} {s : Sym} (h : (syPl l b k j).isSome = true) (ho : l[k.toNat]? = some o) (hs : o.syms[j.toNat]? = some s) : SP l b k j ((syPl l b k j).getD 0) s := by
  refine ⟨o, ho, hs, ?_⟩
  cases hp : syPl l b k j with
  | none => rw [hp] at h; cases h
  | some n => rfl
theorem SP_in {l : List Objt} {b k j : Int} (h : (syPl l b k j).isSome = true) : 0 ≤ k ∧ k < l.length ∧ 0 ≤ j ∧ j < (symsAt l k).length ∧ l.all objB = true := by
  have y : layOk l b = true ∧ inS l k j = true := by
    refine Classical.byContradiction fun hc => ?_
    rw [syPl, if_neg hc] at h; cases h
  have := inS_iff.1 y.2
  exact ⟨this.1, this.2.1, this.2.2.1, this.2.2.2, (lay_all y.1).1⟩
theorem SP_12 {l : List Objt} {b k j n : Int} {s : Sym} (h : SP l b k j n s) (a : Int) : (symsAt l a).length ≤ 12 := by
  obtain ⟨o, _, _, h⟩ := h
  exact symsAt_len (SP_in (by rw [h]; rfl)).2.2.2.2 a
theorem SP_same {l : List Objt} {b k j n a i : Int} {s t : Sym} {q : Objt} (h : SP l b k j n s) (hq : l[a.toNat]? = some q) (ht : q.syms[i.toNat]? = some t) (he : t.name = s.name) (h1 : t.bind ≠ 0) (h2 : s.bind ≠ 0) (hg : (syPl l b a i).isSome = true) : (syPl l b a i).getD 0 = n := by
  obtain ⟨o, ho, hs, hn⟩ := h
  cases hm : syPl l b a i with
  | none => rw [hm] at hg; cases hg
  | some m => exact syPl_same ho hs hq ht he h1 h2 hn hm
theorem SP_up {l : List Objt} {b k j n : Int} {s : Sym} (h : SP l b k j n s) (hw : 0 ≤ s.wher) (hb : s.bind = 0) (hg : (syPl l (b + 8) k j).isSome = true) : (syPl l (b + 8) k j).getD 0 = n + 8 := by
  obtain ⟨o, ho, hs, hn⟩ := h
  cases hm : syPl l (b + 8) k j with
  | none => rw [hm] at hg; cases hg
  | some m => exact syPl_shift ho hs hw hb hn hm
theorem SP_bd {l : List Objt} {b k j n : Int} {s : Sym} (h : SP l b k j n s) : 0 ≤ n ∧ n ≤ 100000 := by
  obtain ⟨o, ho, hs, hn⟩ := h
  have y : layOk l b = true ∧ inS l k j = true := by
    refine Classical.byContradiction fun hc => ?_
    rw [syPl, if_neg hc] at hn; cases hn
  have e : (layout l b).places = places l b := by rw [layout_yes y.1]
  rw [syPl_yes y.1 y.2, e, syV_eq ho hs] at hn
  have ha := (lay_all y.1).1
  have hi := inS_iff.1 y.2
  split at hn
  · rename_i hb
    injection hn with hn
    have h3 := objB_sym (all_get ha ho) (List.mem_of_getElem? hs)
    have hin : In l ⟨k, j⟩ := ⟨⟨hi.1, hi.2.2.1, o, s, ho, hs, by rcases h3.2 with h4 | h4 | h4 <;> omega⟩⟩
    have := plV_bd y.1 hin
    omega
  · split at hn
    · rename_i g hg
      injection hn with hn
      have := plV_bd y.1 (fnd_in hg)
      omega
    · split at hn
      · injection hn with hn; omega
      · cases hn
end Go.Proofs.Ytignicccfjdiiaa
