/- What objects are linked to: plain Lean. -/
import Derived.Test.YtpgglbnagphgoaaGreatLayDS
import Derived.Test.YtpgglbnagphgoaaGreatFixDS
set_option linter.unusedVariables false
set_option linter.unusedSimpArgs false
namespace Go.Proofs.YtpgglbnagphgoaaGreat
open Go Go.RowKit

def symOk (s : Sym) (x : List Sect) : Prop := (s.bind = 0 ∨ s.bind = 1 ∨ s.bind = 2) ∧ ((s.wher = -1 ∧ s.value = 0 ∧ s.bind ≠ 0) ∨ (s.wher = -2 ∧ 0 ≤ s.value ∧ s.value ≤ 60000) ∨ (0 ≤ s.wher ∧ s.wher < x.length ∧ 0 ≤ s.value ∧ ∃ t, x[s.wher.toNat]? = some t ∧ s.value ≤ secSize t))
theorem symB_ok {s : Sym} {x : List Sect} (h : symB s x = true) : symOk s x := by
 simp only [symB, Bool.and_eq_true, decide_eq_true_eq] at h
 obtain ⟨⟨_, h1⟩, h2⟩ := h
 refine ⟨by omega, ?_⟩
 split at h2
 ·simp only [decide_eq_true_eq] at h2
  exact .inl ⟨by assumption, h2⟩
 ·split at h2
  ·simp only [decide_eq_true_eq] at h2
   exact .inr (.inl ⟨by assumption, h2⟩)
  ·simp only [decide_eq_true_eq] at h2
   have hl : s.wher.toNat < x.length := by omega
   rw [List.getElem?_eq_getElem hl] at h2
   exact .inr (.inr ⟨h2.1, by omega, h2.2.2.1, _, List.getElem?_eq_getElem hl, h2.2.2.2⟩)
theorem symsB_all {x : List Sect} : ∀ {l pre : List Sym}, symsB x pre l = true → ∀ s ∈ l, symB s x = true := by
 intro l
 induction l with
 | nil => intro pre _ s hs; cases hs
 | cons s l ih =>
  intro pre h t ht
  simp only [symsB, Bool.and_eq_true] at h
  rcases List.mem_cons.1 ht with rfl | ht
  ·exact h.1.1
  ·exact ih h.2 t ht
theorem objB_sym {o : Objt} {s : Sym} (h : objB o = true) (hs : s ∈ o.syms) : symOk s o.sects := by
 simp only [objB, Bool.and_eq_true] at h
 exact symB_ok (symsB_all h.2 s hs)
def plV (pl : List (List Int)) (l : List Objt) (g : Given) : Int :=
 match l[g.in_.toNat]? with
 | none => 0
 | some o => match o.syms[g.at_.toNat]? with
  | none => 0
  | some s => if s.wher = -2 then s.value else (pl.getD g.in_.toNat []).getD s.wher.toNat 0 + s.value
def syV (pl : List (List Int)) (l : List Objt) (k j : Int) : Option Int :=
 match l[k.toNat]? with
 | none => none
 | some o => match o.syms[j.toNat]? with
  | none => none
  | some s => if s.bind = 0 then some (plV pl l ⟨k, j⟩) else match fnd l s.name with
   | some g => some (plV pl l g)
   | none => if s.bind = 2 then some 0 else none
theorem plV_eq {pl : List (List Int)} {l : List Objt} {g : Given} {o : Objt} {s : Sym} (h : l[g.in_.toNat]? = some o) (h' : o.syms[g.at_.toNat]? = some s) : plV pl l g = if s.wher = -2 then s.value else (pl.getD g.in_.toNat []).getD s.wher.toNat 0 + s.value := by
 simp only [plV, h, h']
theorem syV_eq {pl : List (List Int)} {l : List Objt} {k j : Int} {o : Objt} {s : Sym} (h : l[k.toNat]? = some o) (h' : o.syms[j.toNat]? = some s) : syV pl l k j = if s.bind = 0 then some (plV pl l ⟨k, j⟩) else match fnd l s.name with
   | some g => some (plV pl l g)
   | none => if s.bind = 2 then some 0 else none := by
 simp only [syV, h, h']
structure In (l : List Objt) (g : Given) : Prop where
 it : 0 ≤ g.in_ ∧ 0 ≤ g.at_ ∧ ∃ o s, l[g.in_.toNat]? = some o ∧ o.syms[g.at_.toNat]? = some s ∧ s.wher ≠ -1
theorem GivenAt.in {l : List Objt} {n : ByteArray} {b : Int} {g : Given} (h : GivenAt l n b g) : In l g := by
 obtain ⟨h1, h2, o, s, h3, h4, _, _, h5⟩ := h
 exact ⟨⟨h1, h2, o, s, h3, h4, h5⟩⟩
theorem fnd_in {l : List Objt} {n : ByteArray} {g : Given} (h : fnd l n = some g) : In l g := (fnd_some h).elim GivenAt.in GivenAt.in
theorem plc_range {l : List Objt} {b : Int} {k i : Nat} {o : Objt} {s : Sect} (hv : layOk l b = true) (ho : l[k]? = some o) (hs : o.sects[i]? = some s) : b ≤ plc l b k i ∧ plc l b k i + secSize s ≤ atK l b 3 ∧ plc l b k i ≤ 10000 ∧ atK l b 3 ≤ 10000 ∧ 0 ≤ b ∧ 0 ≤ secSize s ∧ secSize s ≤ 48 := by
 obtain ⟨hv, hb⟩ := layOk_iff.1 hv
 obtain ⟨hv, hl⟩ := objsB_all hv
 have h := plc_bd (b := b) hv hl ho hs
 have hso := secsOk_get (objB_secs (all_get hv ho)) hs
 have h1 := atK_bd (b := b) hv hl (s.kind - 1).toNat
 have h2 := alg_bd (n := atK l b (s.kind - 1).toNat) al8_8
 have hst : ∀ n : Nat, atK l b n ≤ atK l b (n + 1) := fun n => by
  have g1 := alg_bd (n := atK l b n) al8_8
  have g2 := plO_bd (c := (n : Int) + 1) (a := alg (atK l b n) 8) hv
  simp only [atK]
  omega
 have hm : atK l b s.kind.toNat ≤ atK l b 3 := by
  have g1 : atK l b 0 ≤ atK l b 1 := hst 0
  have g2 : atK l b 1 ≤ atK l b 2 := hst 1
  have g3 : atK l b 2 ≤ atK l b 3 := hst 2
  have e : s.kind.toNat = 1 ∨ s.kind.toNat = 2 ∨ s.kind.toNat = 3 := by have := hso.1; have := hso.2.1; omega
  rcases e with e | e | e <;> rw [e] <;> omega
 have h3 := atK_bd (b := b) hv hl 3
 have : begK l b s.kind = alg (atK l b (s.kind - 1).toNat) 8 := rfl
 have := hso.2.2.2
 unfold isBase at hb
 omega
theorem getD_get {α : Type} {l : List α} {k : Nat} {x d : α} (h : l[k]? = some x) : l.getD k d = x := by simp [List.getD, h]
theorem places_getD {l : List Objt} {b : Int} {k i : Nat} {o : Objt} {s : Sect} (ho : l[k]? = some o) (hs : o.sects[i]? = some s) : ((places l b).getD k []).getD i 0 = plc l b k i := by
 have h1 : (places l b)[k]? = some (o.sects.mapIdx fun i' _ => plc l b k i') := by unfold places; rw [List.getElem?_mapIdx, ho]; rfl
 rw [getD_get h1]
 refine getD_get ?_
 rw [List.getElem?_mapIdx, hs]
 rfl
theorem plV_bd {l : List Objt} {b : Int} {g : Given} (hv : layOk l b = true) (h : In l g) : 0 ≤ plV (places l b) l g ∧ plV (places l b) l g ≤ 70000 := by
 obtain ⟨_, _, o, s, ho, hs, hw⟩ := h.it
 rw [plV_eq ho hs]
 have hall := (objsB_all (layOk_iff.1 hv).1).1
 have h1 := objB_sym (all_get hall ho) (List.mem_of_getElem? hs)
 rcases h1.2 with h2 | h2 | ⟨h2, h3, h4, t, h5, h6⟩
 ·exact absurd h2.1 hw
 ·rw [if_pos h2.1]; omega
 ·rw [if_neg (by omega), places_getD ho h5]
  have := plc_range hv ho h5
  omega
def fills (pl : List (List Int)) (l : List Objt) (k : Int) (p : Int) : List Fixup → List Int → Option (List Int)
 | [], b => some b
 | f :: r, b => if (fxVal b p f ((syV pl l k f.to).getD 0)).isSome = true then fills pl l k p r (fxApp b p f ((syV pl l k f.to).getD 0)) else none
def putB (out : List Int) (a : Int) (b : List Int) : List Int := out.take a.toNat ++ b ++ out.drop (a.toNat + b.length)
theorem putB_len {out b : List Int} {a : Int} (h0 : 0 ≤ a) (h : a + b.length ≤ out.length) : (putB out a b).length = out.length := by
 simp [putB]; omega
def placeOf (pl : List (List Int)) (k i : Int) : Int := (pl.getD k.toNat []).getD i.toNat 0
def lnkS (pl : List (List Int)) (l : List Objt) (base k : Int) : List Sect → Int → List Int → Option (List Int)
 | [], _, out => some out
 | s :: r, i, out => match fills pl l k (placeOf pl k i) s.fixups s.bytes with
  | none => none
  | some b => lnkS pl l base k r (i + 1) (putB out (placeOf pl k i - base) b)
def lnkO (pl : List (List Int)) (l : List Objt) (base : Int) : List Objt → Int → List Int → Option (List Int)
 | [], _, out => some out
 | o :: r, k, out => match lnkS pl l base k o.sects 0 out with
  | none => none
  | some out => lnkO pl l base r (k + 1) out
def lnkB (l : List Objt) (b : Int) : Option (List Int) := lnkO (places l b) l b l 0 (List.replicate (atK l b 3 - b).toNat 0)
def link (l : List Objt) (b : Int) : Img × Int :=
 if layOk l b = false then (⟨0, []⟩, -1) else if nTw l ≠ [] then (⟨0, []⟩, 1) else if nMs l ≠ [] then (⟨0, []⟩, 2) else
  match lnkB l b with
  | none => (⟨0, []⟩, 3)
  | some x => (⟨b, x⟩, 0)
/-! What the walks ask, along the code. -/
def isPl (pl : List (List Int)) (l : List Objt) : Prop := ∃ b, layOk l b = true ∧ pl = places l b
theorem isPl_mk {l : List Objt} {b : Int} (h : layOk l b = true) : isPl (layout l b).places l := ⟨b, h, by rw [layout_yes h]⟩
def inS (l : List Objt) (k j : Int) : Bool := decide (0 ≤ k ∧ k < l.length ∧ 0 ≤ j) && decide (j < (symsAt l k).length)
theorem inS_iff {l : List Objt} {k j : Int} : inS l k j = true ↔ 0 ≤ k ∧ k < l.length ∧ 0 ≤ j ∧ j < (symsAt l k).length := by simp [inS, and_assoc]
theorem isPl_all {pl : List (List Int)} {l : List Objt} (h : isPl pl l) : l.all objB = true := by
 obtain ⟨b, h1, _⟩ := h
 exact (lay_all h1).1
theorem plH {pl : List (List Int)} {l : List Objt} {g : Given} (h : isPl pl l) (hg : In l g) : 0 ≤ g.in_ ∧ g.in_ < l.length ∧ 0 ≤ g.at_ ∧ ∀ o, l[g.in_.toNat]? = some o → g.at_ < o.syms.length ∧ ∀ s, o.syms[g.at_.toNat]? = some s → (s.wher = -2 → plV pl l g = s.value) ∧
  (s.wher ≠ -2 → g.in_ < pl.length ∧ 0 ≤ s.wher ∧ ∀ r, pl[g.in_.toNat]? = some r → s.wher < r.length ∧ ∀ y, r[s.wher.toNat]? = some y → plV pl l g = y + s.value ∧ 0 ≤ y + s.value ∧ y + s.value ≤ 100000) := by
 obtain ⟨b, hb, rfl⟩ := h
 have hbd := plV_bd hb hg
 obtain ⟨h1, h2, o, s, ho, hs, hw⟩ := hg.it
 refine ⟨h1, by have := lt_of_some ho; omega, h2, fun o' ho' => ?_⟩
 rw [ho] at ho'
 injection ho' with ho'
 subst ho'
 refine ⟨by have := lt_of_some hs; omega, fun s' hs' => ?_⟩
 rw [hs] at hs'
 injection hs' with hs'
 subst hs'
 have e := plV_eq (pl := places l b) ho hs
 refine ⟨fun hw2 => by rw [e, if_pos hw2], fun hw2 => ?_⟩
 rw [if_neg hw2] at e
 have hall := (lay_all hb).1
 have h3 := objB_sym (all_get hall ho) (List.mem_of_getElem? hs)
 rcases h3.2 with h4 | h4 | ⟨h4, h5, h6, t, h7, h8⟩
 ·exact absurd h4.1 hw
 ·exact absurd h4.1 hw2
 ·refine ⟨by rw [places_len]; have := lt_of_some ho; omega, h4, fun r hr => ?_⟩
  have hrow := places_row hr ho
  refine ⟨by rw [hrow.1]; exact h5, fun y hy => ?_⟩
  have hy2 := (hrow.2 _ _ hy).1
  have e2 : plV (places l b) l g = y + s.value := by rw [e, places_getD ho h7, hy2]
  rw [e2] at hbd
  exact ⟨e2, by omega, by omega⟩
theorem syH {pl : List (List Int)} {l : List Objt} {k j : Int} (h : isPl pl l) (hj : inS l k j = true) : 0 ≤ k ∧ k < l.length ∧ 0 ≤ j ∧ ∀ o, l[k.toNat]? = some o → j < o.syms.length ∧ ∀ s, o.syms[j.toNat]? = some s → (s.bind = 0 → In l ⟨k, j⟩ ∧ syV pl l k j = some (plV pl l ⟨k, j⟩)) ∧
  (s.bind ≠ 0 → ((fnd l s.name).isSome = false → syV pl l k j = if s.bind = 2 then some 0 else none) ∧ ((fnd l s.name).isSome = true → In l ((fnd l s.name).getD ⟨0, 0⟩) ∧ syV pl l k j = some (plV pl l ((fnd l s.name).getD ⟨0, 0⟩)))) := by
 obtain ⟨h1, h2, h3, h4⟩ := inS_iff.1 hj
 refine ⟨h1, h2, h3, fun o ho => ?_⟩
 rw [symsAt_eq ho] at h4
 refine ⟨h4, fun s hs => ?_⟩
 have e := syV_eq (pl := pl) ho hs
 have h5 := objB_sym (all_get (isPl_all h) ho) (List.mem_of_getElem? hs)
 refine ⟨fun hb => ⟨⟨⟨h1, h3, o, s, ho, hs, ?_⟩⟩, by rw [e, if_pos hb]⟩, fun hb => ?_⟩
 ·rcases h5.2 with h6 | h6 | h6 <;> omega
 ·rw [if_neg hb] at e
  cases hf : fnd l s.name with
  | none => rw [hf] at e; exact ⟨fun _ => e, fun hc => (by cases hc)⟩
  | some g => rw [hf] at e; exact ⟨fun hc => (by cases hc), fun _ => ⟨fnd_in hf, e⟩⟩
def syPl (l : List Objt) (b k j : Int) : Option Int := if layOk l b = true ∧ inS l k j = true then syV (layout l b).places l k j else none
theorem syPl_yes {l : List Objt} {b k j : Int} (h : layOk l b = true) (h' : inS l k j = true) : syPl l b k j = syV (layout l b).places l k j := by rw [syPl, if_pos ⟨h, h'⟩]
end Go.Proofs.YtpgglbnagphgoaaGreat
