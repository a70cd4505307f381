/- What linking asks along the code: plain Lean. -/
import Derived.Test.YtpgglbnagphgoaaGreatLnkDS
set_option linter.unusedVariables false
set_option linter.unusedSimpArgs false
namespace Go.Proofs.YtpgglbnagphgoaaGreat
open Go Go.RowKit

structure LG (l : List Objt) (b : Int) : Prop where
 lay : layOk l b = true
 tw : nTw l = []
 ms : nMs l = []
def fixAt (l : List Objt) (k i : Int) : List Fixup := match (sectsAt l k)[i.toNat]? with | some s => s.fixups | none => []
theorem fixAt_eq {l : List Objt} {k i : Int} {s : Sect} (h : (sectsAt l k)[i.toNat]? = some s) : fixAt l k i = s.fixups := by simp [fixAt, h]
structure LO (l : List Objt) (b k : Int) (x : List Int) : Prop where
 len : (x.length : Int) = atK l b 3 - b
 eq : lnkB l b = lnkO (places l b) l b (l.drop k.toNat) k x
structure LS (l : List Objt) (b k i : Int) (x : List Int) : Prop where
 len : (x.length : Int) = atK l b 3 - b
 eq : lnkB l b = (lnkS (places l b) l b k ((sectsAt l k).drop i.toNat) i x).bind fun y => lnkO (places l b) l b (l.drop (k + 1).toNat) (k + 1) y
structure LF (l : List Objt) (b k i j : Int) (bs x : List Int) : Prop where
 len : (x.length : Int) = atK l b 3 - b
 bl : ∃ s, (sectsAt l k)[i.toNat]? = some s ∧ bs.length = s.bytes.length
 eq : lnkB l b = (fills (places l b) l k (placeOf (places l b) k i) ((fixAt l k i).drop j.toNat) bs).bind fun c => (lnkS (places l b) l b k ((sectsAt l k).drop (i + 1).toNat) (i + 1) (putB x (placeOf (places l b) k i - b) c)).bind fun y => lnkO (places l b) l b (l.drop (k + 1).toNat) (k + 1) y
theorem LO_first {l : List Objt} {b : Int} {n : Nat} (h : layOk l b = true) (hn : (n : Int) = atK l b 3 - b) : LO l b 0 (List.replicate n 0) := by
 refine ⟨by simpa using hn, ?_⟩
 unfold lnkB
 rw [show (atK l b 3 - b).toNat = n by omega]; rfl
theorem lnkO_cons {pl : List (List Int)} {l : List Objt} {base k : Int} {o : Objt} {r : List Objt} {x : List Int} : lnkO pl l base (o :: r) k x = (lnkS pl l base k o.sects 0 x).bind fun y => lnkO pl l base r (k + 1) y := by
 simp only [lnkO]; cases lnkS pl l base k o.sects 0 x <;> rfl
theorem lnkS_cons {pl : List (List Int)} {l : List Objt} {base k i : Int} {s : Sect} {r : List Sect} {x : List Int} : lnkS pl l base k (s :: r) i x = (fills pl l k (placeOf pl k i) s.fixups s.bytes).bind fun c => lnkS pl l base k r (i + 1) (putB x (placeOf pl k i - base) c) := by
 simp only [lnkS]; cases fills pl l k (placeOf pl k i) s.fixups s.bytes <;> rfl
theorem LS_first {l : List Objt} {b k : Int} {x : List Int} (h : LO l b k x) (hk : 0 ≤ k) (hl : k < l.length) : LS l b k 0 x := by
 have h' := List.getElem?_eq_getElem (l := l) (i := k.toNat) (by omega)
 refine ⟨h.len, ?_⟩
 rw [h.eq, drop_get' h' hk, lnkO_cons, sectsAt_eq h']; rfl
theorem LS_end {l : List Objt} {b k i : Int} {x : List Int} (h : LS l b k i x) (hi : ((sectsAt l k).length : Int) ≤ i) : LO l b (k + 1) x := by
 refine ⟨h.len, ?_⟩
 rw [h.eq, drop_end hi]; rfl
theorem LF_first {l : List Objt} {b k i : Int} {s : Sect} {x : List Int} (h : LS l b k i x) (hi : 0 ≤ i) (hs : (sectsAt l k)[i.toNat]? = some s) : LF l b k i 0 s.bytes x := by
 refine ⟨h.len, ⟨s, hs, rfl⟩, ?_⟩
 rw [h.eq, drop_get' hs hi, lnkS_cons, fixAt_eq hs, Option.bind_assoc]; rfl
theorem LF_next {l : List Objt} {b k i j : Int} {f : Fixup} {bs x : List Int} (h : LF l b k i j bs x) (hj : 0 ≤ j) (hf : (fixAt l k i)[j.toNat]? = some f) (hv : (fxVal bs (placeOf (places l b) k i) f ((syV (places l b) l k f.to).getD 0)).isSome = true) : LF l b k i (j + 1) (fxApp bs (placeOf (places l b) k i) f ((syV (places l b) l k f.to).getD 0)) x := by
 obtain ⟨s, hs, e⟩ := h.bl
 refine ⟨h.len, ⟨s, hs, by rw [fxApp_len]; exact e⟩, ?_⟩
 rw [h.eq, drop_get' hf hj]
 simp only [fills, if_pos hv]
theorem LF_bad {l : List Objt} {b k i j : Int} {f : Fixup} {bs x : List Int} (hg : LG l b) (h : LF l b k i j bs x) (hj : 0 ≤ j) (hf : (fixAt l k i)[j.toNat]? = some f) (hv : (fxVal bs (placeOf (places l b) k i) f ((syV (places l b) l k f.to).getD 0)).isSome = false) : link l b = (⟨0, []⟩, 3) := by
 have e : lnkB l b = none := by
  rw [h.eq, drop_get' hf hj]
  simp only [fills, hv, Bool.false_eq_true, if_false]
  rfl
 unfold link
 rw [if_neg (by simp [hg.lay]), if_neg (by simp [hg.tw]), if_neg (by simp [hg.ms]), e]
theorem LF_end {l : List Objt} {b k i j : Int} {bs x : List Int} (h : LF l b k i j bs x) (hg : LG l b) (hk : 0 ≤ k) (hl : k < l.length) (hi : 0 ≤ i) (hj : ((fixAt l k i).length : Int) ≤ j) : LS l b k (i + 1) (putB x (placeOf (places l b) k i - b) bs) := by
 obtain ⟨s, hs, e⟩ := h.bl
 have ho := List.getElem?_eq_getElem (l := l) (i := k.toNat) (by omega)
 rw [sectsAt_eq ho] at hs
 have hp := plc_range hg.lay ho hs
 have e2 : placeOf (places l b) k i = plc l b k.toNat i.toNat := places_getD ho hs
 have hso := secsOk_get (objB_secs (all_get (lay_all hg.lay).1 ho)) hs
 have := hso.2.2.2.2.2
 refine ⟨?_, ?_⟩
 ·rw [putB_len (by rw [e2]; omega) (by have := h.len; rw [e2]; omega)]; exact h.len
 ·rw [h.eq, drop_end hj]; rfl
theorem LO_end {l : List Objt} {b k : Int} {x : List Int} (hg : LG l b) (h : LO l b k x) (hk : (l.length : Int) ≤ k) : link l b = (⟨b, x⟩, 0) := by
 have e : lnkB l b = some x := by rw [h.eq, drop_end hk]; rfl
 unfold link
 rw [if_neg (by simp [hg.lay]), if_neg (by simp [hg.tw]), if_neg (by simp [hg.ms]), e]
theorem link_no {l : List Objt} {b : Int} (h : layOk l b = false) : link l b = (⟨0, []⟩, -1) := by simp [link, h]
theorem nil_len {α : Type} {l : List α} : (0 < (l.length : Int)) ↔ l ≠ [] := by cases l <;> simp
theorem link_tw {l : List Objt} {b : Int} (h : layOk l b = true) (h' : 0 < ((nTw l).length : Int)) : link l b = (⟨0, []⟩, 1) := by
 have := nil_len.1 h'
 simp [link, h, this]
theorem link_ms {l : List Objt} {b : Int} (h : layOk l b = true) (h1 : ((nTw l).length : Int) ≤ 0) (h' : 0 < ((nMs l).length : Int)) : link l b = (⟨0, []⟩, 2) := by
 have h2 := nil_len.1 h'
 have h3 : nTw l = [] := List.eq_nil_of_length_eq_zero (by omega)
 simp [link, h, h3, h2]
theorem LG_mk {l : List Objt} {b : Int} (h : layOk l b = true) (h1 : ((nTw l).length : Int) ≤ 0) (h2 : ((nMs l).length : Int) ≤ 0) : LG l b := ⟨h, List.eq_nil_of_length_eq_zero (by omega), List.eq_nil_of_length_eq_zero (by omega)⟩
theorem lnk_pl {l : List Objt} {b k i v : Int} {o : Objt} {s : Sect} {r : List Int} (hg : LG l b) (hr : (layout l b).places[k.toNat]? = some r) (hv : r[i.toNat]? = some v) (ho : l[k.toNat]? = some o) (hs : o.sects[i.toNat]? = some s) : v = placeOf (places l b) k i ∧ b ≤ v ∧ v ≤ 10000 ∧ 0 ≤ b ∧ v - b + s.bytes.length ≤ atK l b 3 - b ∧ atK l b 3 ≤ 10000 ∧ s.bytes.length ≤ 48 ∧ s.fixups.length ≤ 6 := by
 rw [layout_yes hg.lay] at hr
 have hp := plc_range hg.lay ho hs
 have e2 : placeOf (places l b) k i = plc l b k.toNat i.toNat := places_getD ho hs
 have hso := secsOk_get (objB_secs (all_get (lay_all hg.lay).1 ho)) hs
 have e3 := ((places_row hr ho).2 _ _ hv).1
 have h2 := hso.2.2.2.2.2
 have hb := all_get (lay_all hg.lay).1 ho
 have h6 : s.fixups.length ≤ 6 := by
  simp only [objB, Bool.and_eq_true, List.all_eq_true] at hb
  have := hb.1.2 s (List.mem_of_getElem? hs)
  simp only [secB, Bool.and_eq_true] at this
  have := this.2
  split at this
  ·simp only [decide_eq_true_eq] at this; rw [this.2.2.2]; simp
  ·simp only [Bool.and_eq_true, decide_eq_true_eq] at this; omega
 exact ⟨by rw [e3, e2], by omega, by omega, by omega, by omega, by omega, by omega, h6⟩
theorem lnk_pll {l : List Objt} {b : Int} (hg : LG l b) : (layout l b).places.length = l.length := by rw [layout_yes hg.lay]; exact places_len
theorem secB_to' {s : Sect} {m : Int} (h : secB s m = true) : ∀ f ∈ s.fixups, 0 ≤ f.to ∧ f.to < m := by
 unfold secB at h
 simp only [Bool.and_eq_true] at h
 have h2 := h.2
 have key : ∀ {m b : Int} {l : List Fixup} {e : Int}, fixB m b e l = true → ∀ f ∈ l, 0 ≤ f.to ∧ f.to < m := by
  intro m b l
  induction l with
  | nil => intro e _ f hf; cases hf
  | cons g l ih =>
   intro e h f hf
   simp only [fixB, Bool.and_eq_true, decide_eq_true_eq] at h
   rcases List.mem_cons.1 hf with rfl | hf
   ·exact ⟨h.1.2.1, h.1.2.2.1⟩
   ·exact ih h.2 f hf
 split at h2
 ·simp only [decide_eq_true_eq] at h2; rw [h2.2.2.2]; intro f hf; cases hf
 ·simp only [Bool.and_eq_true] at h2; exact key h2.2
theorem lnk_to {l : List Objt} {b k i j : Int} {f : Fixup} (hg : LG l b) (hk : 0 ≤ k) (hl : k < l.length) (hf : (fixAt l k i)[j.toNat]? = some f) : inS l k f.to = true := by
 have ho := List.getElem?_eq_getElem (l := l) (i := k.toNat) (by omega)
 have hb := all_get (lay_all hg.lay).1 ho
 unfold fixAt at hf
 split at hf
 ·rename_i s hs
  rw [sectsAt_eq ho] at hs
  simp only [objB, Bool.and_eq_true, List.all_eq_true] at hb
  have := secB_to' (hb.1.2 s (List.mem_of_getElem? hs)) f (List.mem_of_getElem? hf)
  exact inS_iff.2 ⟨hk, hl, this.1, by rw [symsAt_eq ho]; exact this.2⟩
 ·simp at hf
theorem fixAt_6 {l : List Objt} {b : Int} (hg : LG l b) (k i : Int) : (fixAt l k i).length ≤ 6 := by
 unfold fixAt
 split
 ·rename_i s hs
  unfold sectsAt at hs
  split at hs
  ·rename_i o ho
   have hb := all_get (lay_all hg.lay).1 ho
   simp only [objB, Bool.and_eq_true, List.all_eq_true] at hb
   have := hb.1.2 s (List.mem_of_getElem? hs)
   simp only [secB, Bool.and_eq_true] at this
   have := this.2
   split at this
   ·simp only [decide_eq_true_eq] at this; rw [this.2.2.2]; simp
   ·simp only [Bool.and_eq_true, decide_eq_true_eq] at this; omega
  ·simp at hs
 ·simp
theorem LF_pl {l : List Objt} {b k i j : Int} {bs x : List Int} (hg : LG l b) (h : LF l b k i j bs x) (hk : 0 ≤ k) (hl : k < l.length) : b ≤ placeOf (places l b) k i ∧ placeOf (places l b) k i ≤ 10000 ∧ 0 ≤ b ∧ placeOf (places l b) k i - b + bs.length ≤ x.length ∧ bs.length ≤ 48 ∧ x.length ≤ 10000 := by
 obtain ⟨s, hs, e⟩ := h.bl
 have ho := List.getElem?_eq_getElem (l := l) (i := k.toNat) (by omega)
 rw [sectsAt_eq ho] at hs
 have hp := plc_range hg.lay ho hs
 have e2 : placeOf (places l b) k i = plc l b k.toNat i.toNat := places_getD ho hs
 have hso := secsOk_get (objB_secs (all_get (lay_all hg.lay).1 ho)) hs
 have := hso.2.2.2.2.2
 have := h.len
 rw [e2]
 omega
theorem lay_end {l : List Objt} {b : Int} (h : layOk l b = true) : endV (layout l b) = atK l b 3 ∧ endPl l b = atK l b 3 ∧ b ≤ atK l b 3 ∧ atK l b 3 ≤ 10000 ∧ 0 ≤ b ∧ b ≤ 4096 ∧ l.all objB = true ∧ l.length ≤ 4 ∧ isLay (layout l b) := by
 have hb := lay_all h
 have g := atK_bd (b := b) hb.1 (objsB_all (layOk_iff.1 h).1).2 3
 have h4 := (objsB_all (layOk_iff.1 h).1).2
 have h5 := (layOk_iff.1 h).2
 unfold isBase at h5
 have e1 := endPl_yes (l := l) (b := b) h
 have e2 := endV_lay (l := l) (b := b) h
 exact ⟨by omega, by omega, by omega, by omega, by omega, by omega, hb.1, h4, ⟨l, b, h, rfl⟩⟩
theorem LO_fst {l : List Objt} {b n : Int} (h : layOk l b = true) (hn : n = atK l b 3 - b) : LO l b 0 (repl n 0) := by
 have := lay_end h
 exact LO_first h (by omega)
theorem put_copy {x bs : List Int} {a : Int} {n : Nat} (h0 : 0 ≤ a) (h : a + bs.length ≤ x.length) (hn : (n : Int) = x.length - a) : x.take a.toNat ++ bs.take n ++ x.drop (a.toNat + min bs.length n) = putB x a bs := by
 unfold putB
 rw [List.take_of_length_le (l := bs) (by omega), Nat.min_eq_left (by omega)]
theorem put_end {x bs : List Int} {a : Int} {t : Int} (h : t = bs.length) : fxFill x a.toNat bs t.toNat = putB x a bs := by
 unfold fxFill putB
 rw [h, Int.toNat_natCast, List.take_of_length_le (Nat.le_refl _)]
/-! As the walks ask it. -/
theorem K_sl {l : List Objt} {k : Int} {o : Objt} (h : l[k.toNat]? = some o) : (o.sects.length : Int) = (sectsAt l k).length := by rw [sectsAt_eq h]
theorem K_rl {l : List Objt} {b k i : Int} {r : List Int} (hg : LG l b) (hr : (layout l b).places[k.toNat]? = some r) (hk : 0 ≤ k) (hl : k < l.length) (hi : i < (sectsAt l k).length) : i < r.length := by
 have ho := List.getElem?_eq_getElem (l := l) (i := k.toNat) (by omega)
 rw [layout_yes hg.lay] at hr
 rw [(places_row hr ho).1, ← sectsAt_eq ho]; exact hi
theorem K_pl {l : List Objt} {b k i v : Int} {r : List Int} {s : Sect} (hg : LG l b) (hr : (layout l b).places[k.toNat]? = some r) (hv : r[i.toNat]? = some v) (hk : 0 ≤ k) (hl : k < l.length) (hs : (sectsAt l k)[i.toNat]? = some s) : v = placeOf (places l b) k i := by
 have ho := List.getElem?_eq_getElem (l := l) (i := k.toNat) (by omega)
 rw [sectsAt_eq ho] at hs
 exact (lnk_pl (o := l[k.toNat]) hg hr hv ho hs).1
theorem K_fl {l : List Objt} {k i : Int} {s : Sect} (h : (sectsAt l k)[i.toNat]? = some s) : (s.fixups.length : Int) = (fixAt l k i).length := by rw [fixAt_eq h]
theorem K_plc {l : List Objt} {b : Int} (hg : LG l b) : (layout l b).places = places l b := by rw [layout_yes hg.lay]
theorem K_next {l : List Objt} {b k i j : Int} {f : Fixup} {bs x : List Int} (hg : LG l b) (h : LF l b k i j bs x) (hj : 0 ≤ j) (hf : (fixAt l k i)[j.toNat]? = some f) (hv : (fxVal bs (placeOf (places l b) k i) f ((syV (layout l b).places l k f.to).getD 0)).isSome = true) : LF l b k i (j + 1) (fxApp bs (placeOf (places l b) k i) f ((syV (layout l b).places l k f.to).getD 0)) x := by
 rw [K_plc hg] at *
 exact LF_next h hj hf hv
theorem K_bad {l : List Objt} {b k i j : Int} {f : Fixup} {bs x : List Int} (hg : LG l b) (h : LF l b k i j bs x) (hj : 0 ≤ j) (hf : (fixAt l k i)[j.toNat]? = some f) (hv : (fxVal bs (placeOf (places l b) k i) f ((syV (layout l b).places l k f.to).getD 0)).isSome = false) : link l b = (⟨0, []⟩, 3) := by
 rw [K_plc hg] at hv
 exact LF_bad hg h hj hf hv
theorem K_copy {l : List Objt} {b k i j : Int} {bs x : List Int} (hg : LG l b) (h : LF l b k i j bs x) (hk : 0 ≤ k) (hl : k < l.length) (hi : 0 ≤ i) (hj : ((fixAt l k i).length : Int) ≤ j) : LS l b k (i + 1) (x.take (placeOf (places l b) k i - b).toNat ++ bs.take (x.length - (placeOf (places l b) k i - b).toNat) ++ x.drop ((placeOf (places l b) k i - b).toNat + min bs.length (x.length - (placeOf (places l b) k i - b).toNat))) := by
 have hp := LF_pl hg h hk hl
 rw [put_copy (a := placeOf (places l b) k i - b) (by omega) (by omega) (by omega)]
 exact LF_end h hg hk hl hi hj
theorem K_T {l : List Objt} {b : Int} (h : layOk l b = true) : namesT l = nTw l ∧ namesM l = nMs l := by
 have := (layOk_iff.1 h).1
 exact ⟨by rw [namesT, if_pos this], by rw [namesM, if_pos this]⟩
theorem K_tw {l : List Objt} {b : Int} (h : layOk l b = true) (h' : 0 < ((namesT l).length : Int)) : link l b = (⟨0, []⟩, 1) := link_tw h (by rw [← (K_T h).1]; exact h')
theorem K_ms {l : List Objt} {b : Int} (h : layOk l b = true) (h1 : ((namesT l).length : Int) ≤ 0) (h' : 0 < ((namesM l).length : Int)) : link l b = (⟨0, []⟩, 2) := link_ms h (by rw [← (K_T h).1]; exact h1) (by rw [← (K_T h).2]; exact h')
theorem K_LG {l : List Objt} {b : Int} (h : layOk l b = true) (h1 : ((namesT l).length : Int) ≤ 0) (h2 : ((namesM l).length : Int) ≤ 0) : LG l b := LG_mk h (by rw [← (K_T h).1]; exact h1) (by rw [← (K_T h).2]; exact h2)
theorem K_b48 {l : List Objt} {b : Int} {k i : Nat} {o : Objt} {s : Sect} (hg : LG l b) (ho : l[k]? = some o) (hs : o.sects[i]? = some s) : s.bytes.length ≤ 48 ∧ s.fixups.length ≤ 6 := by
 have hb := all_get (lay_all hg.lay).1 ho
 have hso := secsOk_get (objB_secs hb) hs
 have h2 := hso.2.2.2.2.1
 have h3 := hso.2.2.2.2.2
 refine ⟨by omega, ?_⟩
 simp only [objB, Bool.and_eq_true, List.all_eq_true] at hb
 have := hb.1.2 s (List.mem_of_getElem? hs)
 simp only [secB, Bool.and_eq_true] at this
 have := this.2
 split at this
 ·simp only [decide_eq_true_eq] at this; rw [this.2.2.2]; simp
 ·simp only [Bool.and_eq_true, decide_eq_true_eq] at this; omega
theorem K_sy {l : List Objt} {b k i j : Int} {s : Sect} {f : Fixup} (hg : LG l b) (hk : 0 ≤ k) (hl : k < l.length) (hs : (sectsAt l k)[i.toNat]? = some s) (hf : s.fixups[j.toNat]? = some f) : syPl l b k f.to = syV (places l b) l k f.to := by
 have := lnk_to (j := j) (f := f) hg hk hl (by rw [fixAt_eq hs]; exact hf)
 rw [syPl_yes hg.lay this, K_plc hg]
theorem K_badS {l : List Objt} {b k i j v : Int} {f g : Fixup} {bs x r : List Int} {s : Sect} (hx : (fxVal bs v g ((syPl l b k f.to).getD 0)).isSome = false) (hg : LG l b) (h : LF l b k i j bs x) (hk : 0 ≤ k) (hl : k < l.length) (hj : 0 ≤ j) (hs : (sectsAt l k)[i.toNat]? = some s) (hf : s.fixups[j.toNat]? = some f) (hf' : s.fixups[j.toNat]? = some g) (hr : (layout l b).places[k.toNat]? = some r) (hv : r[i.toNat]? = some v) : link l b = (⟨0, []⟩, 3) := by
 rw [hf] at hf'
 injection hf' with hf'
 subst hf'
 rw [K_pl hg hr hv hk hl hs, K_sy hg hk hl hs hf] at hx
 exact LF_bad hg h hj (by rw [fixAt_eq hs]; exact hf) hx
theorem K_nextS {l : List Objt} {b k i j v : Int} {f g : Fixup} {bs x r : List Int} {s : Sect} (hg : LG l b) (h : LF l b k i j bs x) (hk : 0 ≤ k) (hl : k < l.length) (hj : 0 ≤ j) (hs : (sectsAt l k)[i.toNat]? = some s) (hf : s.fixups[j.toNat]? = some f) (hf' : s.fixups[j.toNat]? = some g) (hr : (layout l b).places[k.toNat]? = some r) (hv : r[i.toNat]? = some v) (hx : (fxVal bs v g ((syPl l b k f.to).getD 0)).isSome = true) : LF l b k i (j + 1) (fxApp bs v g ((syPl l b k f.to).getD 0)) x := by
 rw [hf] at hf'
 injection hf' with hf'
 subst hf'
 rw [K_pl hg hr hv hk hl hs, K_sy hg hk hl hs hf] at hx ⊢
 exact LF_next h hj (by rw [fixAt_eq hs]; exact hf) hx
theorem K_done {l : List Objt} {b k i j : Int} {bs x : List Int} {s : Sect} (h : LF l b k i j bs x) (hs : (sectsAt l k)[i.toNat]? = some s) (hj : 0 ≤ j) (hj' : j ≤ s.fixups.length) (hl : (s.fixups.length : Int) ≤ j) : LF l b k i (fixAt l k i).length bs x := by
 have : ((fixAt l k i).length : Int) = j := by rw [← K_fl hs]; omega
 rw [this]; exact h
theorem K_pll {l : List Objt} {b k : Int} (hg : LG l b) (hl : k < l.length) : k < (layout l b).places.length := by rw [lnk_pll hg]; exact hl
theorem K_two {l : List Objt} {k i : Int} {o q : Objt} (hi : i < o.sects.length) (ho : l[k.toNat]? = some o) (hq : l[k.toNat]? = some q) : i < q.sects.length := by
 rw [ho] at hq
 injection hq with hq
 subst hq; exact hi
theorem K_ge {l : List Objt} {b k i : Int} {o : Objt} {x : List Int} (h : LS l b k i x) (ho : l[k.toNat]? = some o) (hi : (o.sects.length : Int) ≤ i) : LO l b (k + 1) x := LS_end h (sectsAt_ge hi ho)
theorem K_len {l : List Objt} {b k i j t : Int} {bs x : List Int} (hg : LG l b) (h : LF l b k i j bs x) (hk : 0 ≤ k) (hl : k < l.length) (h0 : 0 ≤ t) (ht : t ≤ bs.length) : (fxFill x (placeOf (places l b) k i - b).toNat bs t.toNat).length = x.length := by
 have := LF_pl hg h hk hl
 exact fxFill_len (by omega) (by omega)
def LC (l : List Objt) (b k i t : Int) (bs z : List Int) : Prop := ∃ x, LF l b k i (fixAt l k i).length bs x ∧ z = fxFill x (placeOf (places l b) k i - b).toNat bs t.toNat
theorem LC_first {l : List Objt} {b k i j : Int} {bs x : List Int} {s : Sect} (h : LF l b k i j bs x) (hs : (sectsAt l k)[i.toNat]? = some s) (hj : 0 ≤ j) (hj' : j ≤ s.fixups.length) (hl : (s.fixups.length : Int) ≤ j) : LC l b k i 0 bs x := ⟨x, K_done h hs hj hj' hl, fxFill_zero.symm⟩
theorem LC_end {l : List Objt} {b k i t : Int} {bs z : List Int} (hg : LG l b) (h : LC l b k i t bs z) (hk : 0 ≤ k) (hl : k < l.length) (hi : 0 ≤ i) (ht : t ≤ bs.length) (ht' : (bs.length : Int) ≤ t) : LS l b k (i + 1) z := by
 obtain ⟨x, h, rfl⟩ := h
 rw [put_end (by omega)]
 exact LF_end h hg hk hl hi (Int.le_refl _)
theorem LC_next {l : List Objt} {b k i t v y : Int} {bs z r : List Int} (hg : LG l b) (h : LC l b k i t bs z) (hk : 0 ≤ k) (hl : k < l.length) (h0 : 0 ≤ t) (hr : (layout l b).places[k.toNat]? = some r) (hv : r[i.toNat]? = some v) (hy : bs[t.toNat]? = some y) : LC l b k i (t + 1) bs (z.set (v - b + t).toNat y) := by
 obtain ⟨x, h, rfl⟩ := h
 refine ⟨x, h, ?_⟩
 have hp := LF_pl hg h hk hl
 obtain ⟨s, hs, _⟩ := h.bl
 have := lt_of_some hy
 rw [K_pl hg hr hv hk hl hs]
 exact fxFill_set' (by omega) h0 (by omega) hy
theorem LC_v {l : List Objt} {b k i t v : Int} {bs z r : List Int} (hg : LG l b) (h : LC l b k i t bs z) (hk : 0 ≤ k) (hl : k < l.length) (h0 : 0 ≤ t) (ht : t ≤ bs.length) (hr : (layout l b).places[k.toNat]? = some r) (hv : r[i.toNat]? = some v) : b ≤ v ∧ v ≤ 10000 ∧ 0 ≤ b ∧ v - b + bs.length ≤ z.length ∧ bs.length ≤ 48 ∧ z.length ≤ 10000 := by
 obtain ⟨x, h, rfl⟩ := h
 rw [K_len hg h hk hl h0 ht]
 obtain ⟨s, hs, _⟩ := h.bl
 rw [K_pl hg hr hv hk hl hs]
 exact LF_pl hg h hk hl
theorem LC_b {l : List Objt} {b k i t : Int} {bs z : List Int} (hg : LG l b) (h : LC l b k i t bs z) (hk : 0 ≤ k) (hl : k < l.length) : bs.length ≤ 48 := by
 obtain ⟨x, h, rfl⟩ := h
 have := LF_pl hg h hk hl
 omega
theorem K_v {l : List Objt} {b k i j v : Int} {bs x r : List Int} (hg : LG l b) (h : LF l b k i j bs x) (hk : 0 ≤ k) (hl : k < l.length) (hr : (layout l b).places[k.toNat]? = some r) (hv : r[i.toNat]? = some v) : b ≤ v ∧ v ≤ 10000 ∧ 0 ≤ b ∧ v - b + bs.length ≤ x.length ∧ bs.length ≤ 48 ∧ x.length ≤ 10000 := by
 obtain ⟨s, hs, _⟩ := h.bl
 rw [K_pl hg hr hv hk hl hs]
 exact LF_pl hg h hk hl
end Go.Proofs.YtpgglbnagphgoaaGreat
