/- Joined objects are linked as both are: plain Lean. -/
import Derived.Test.YtpgglbnagphgoaaGreatJoiDS
set_option linter.unusedVariables false
set_option linter.unusedSimpArgs false
namespace Go.Proofs.YtpgglbnagphgoaaGreat
open Go Go.RowKit

structure Jok (a b : Objt) : Prop where
 va : objB a = true
 vb : objB b = true
 tw : nTw [a, b] = []
 x : objB (jnO a b) = true
theorem joinOk_iff {a b : Objt} : joinOk a b = true ↔ Jok a b := by
 unfold joinOk
 simp only [Bool.and_eq_true, decide_eq_true_eq]
 exact ⟨fun h => ⟨h.1.1.1, h.1.1.2, h.1.2, h.2⟩, fun h => ⟨⟨⟨h.va, h.vb⟩, h.tw⟩, h.x⟩⟩
theorem Jok.u {a b : Objt} (h : Jok a b) : Uniq (jnO a b).syms := objB_uniq h.x
theorem Jok.ok {a b : Objt} (h : Jok a b) : JnOk a b.syms (jnF a b.syms) := jn_ok h.va h.vb
def gloJ (n : Nat) : Option Sym → Option Sym → Option Sym
 | none, g => g.map (shS n)
 | some s, none => some s
 | some s, some t => some (if tks s t = true then shS n t else s)
theorem glo_jn {a b : Objt} (h : Jok a b) (n : ByteArray) : glo (jnO a b).syms n = gloJ a.sects.length (glo a.syms n) (glo b.syms n) := by
 have ok := h.ok
 have ua := objB_uniq h.va
 have ub := objB_uniq h.vb
 cases hga : glo a.syms n with
 | none =>
  cases hgb : glo b.syms n with
  | none =>
   refine glo_none.2 fun u hu hub => ?_
   rcases ok.all u hu with h1 | ⟨t, h1, rfl⟩
   ·exact glo_none.1 hga u h1 hub
   ·rw [shS_nb.2.1] at hub
    rw [shS_nb.1]
    exact glo_none.1 hgb t h1 hub
  | some t =>
   obtain ⟨h1, h2, h3⟩ := glo_some hgb
   exact glo_mem h.u (ok.add t h1 (.inr (by rw [h3]; exact hga))) (by rw [shS_nb.2.1]; exact h2) (by rw [shS_nb.1]; exact h3)
 | some s =>
  obtain ⟨h1, h2, h3⟩ := glo_some hga
  obtain ⟨i, hi⟩ := List.getElem?_of_mem h1
  rcases ok.old i s hi with ⟨t, h4, h5, h6, _, h7, h8⟩ | ⟨h4, h5⟩
  ·have e := glo_mem ub h4 h5 (h6.trans h3)
   rw [e]
   simp only [gloJ, h7, if_true]
   exact glo_mem h.u (List.mem_of_getElem? h8) (by rw [shS_nb.2.1]; exact h5) (by rw [shS_nb.1]; exact h6.trans h3)
  ·have e := glo_mem h.u (List.mem_of_getElem? h4) h2 h3
   rw [e]
   cases hgb : glo b.syms n with
   | none => rfl
   | some t =>
    obtain ⟨h6, h7, h8⟩ := glo_some hgb
    have := h5 h2 (by rw [h3]; exact hga) t h6 h7 (h8.trans h3.symm)
    simp [gloJ, this]
/-! The layout. -/
theorem jn_lay {a b : Objt} {r : List Objt} {d : Int} : ∀ n, atK (jnO a b :: r) d n = atK (a :: b :: r) d n := by
 intro n
 induction n with
 | zero => rfl
 | succ n ih =>
  have g : (jnO a b).sects = a.sects ++ b.sects.map (reS (jnF a b.syms).nums) := rfl
  simp only [atK, ih, plO, g, plS_app, plS_re]
theorem jn_beg {a b : Objt} {r : List Objt} {d c : Int} : begK (jnO a b :: r) d c = begK (a :: b :: r) d c := by unfold begK; rw [jn_lay]
theorem jn_plc0 {a b : Objt} {r : List Objt} {d : Int} {i : Nat} (hi : i < a.sects.length) : plc (jnO a b :: r) d 0 i = plc (a :: b :: r) d 0 i := by
 have e : (jnO a b).sects[i]? = a.sects[i]? := by simp only [jnO, List.getElem?_append_left hi]
 have e2 : (jnO a b).sects.take i = a.sects.take i := by simp only [jnO, List.take_append_of_le_length (Nat.le_of_lt hi)]
 simp only [plc, List.getElem?_cons_zero, e, e2, jn_beg, List.take_zero]
theorem jn_plc1 {a b : Objt} {r : List Objt} {d : Int} {i : Nat} : plc (jnO a b :: r) d 0 (a.sects.length + i) = plc (a :: b :: r) d 1 i := by
 have e : (jnO a b).sects[a.sects.length + i]? = (b.sects[i]?).map (reS (jnF a b.syms).nums) := by
  simp only [jnO]
  rw [List.getElem?_append_right (by omega), Nat.add_sub_cancel_left, List.getElem?_map]
 have e2 : (jnO a b).sects.take (a.sects.length + i) = a.sects ++ (b.sects.map (reS (jnF a b.syms).nums)).take i := by
  simp only [jnO]
  rw [List.take_append, List.take_of_length_le (by omega), Nat.add_sub_cancel_left]
 simp only [plc, List.getElem?_cons_zero, List.getElem?_cons_succ, e, e2, jn_beg, List.take_zero]
 cases b.sects[i]? with
 | none => rfl
 | some s => simp only [Option.map_some, reS, plS_app, plS_re_take, List.take_succ_cons, List.take_zero, plO]
theorem jn_plc2 {a b : Objt} {r : List Objt} {d : Int} {k i : Nat} : plc (jnO a b :: r) d (k + 1) i = plc (a :: b :: r) d (k + 2) i := by
 have g : (jnO a b).sects = a.sects ++ b.sects.map (reS (jnF a b.syms).nums) := rfl
 simp only [plc, List.getElem?_cons_succ, jn_beg, List.take_succ_cons, plO, g, plS_app, plS_re]
theorem jn_pl0 {a b : Objt} {r : List Objt} {d : Int} : (places (jnO a b :: r) d).getD 0 [] = (places (a :: b :: r) d).getD 0 [] ++ (places (a :: b :: r) d).getD 1 [] := by
 simp only [places, List.mapIdx_cons, List.getD_cons_zero, List.getD_cons_succ]
 refine List.ext_getElem? fun i => ?_
 by_cases hi : i < a.sects.length
 ·rw [List.getElem?_append_left (by simpa using hi)]
  simp only [List.getElem?_mapIdx]
  have e : (jnO a b).sects[i]? = a.sects[i]? := by simp only [jnO, List.getElem?_append_left hi]
  rw [e, jn_plc0 hi]
 ·rw [List.getElem?_append_right (by simpa using hi)]
  simp only [List.getElem?_mapIdx, List.length_mapIdx]
  obtain ⟨j, rfl⟩ : ∃ j, i = a.sects.length + j := ⟨i - a.sects.length, by omega⟩
  have e : (jnO a b).sects[a.sects.length + j]? = (b.sects[j]?).map (reS (jnF a b.syms).nums) := by
   simp only [jnO]
   rw [List.getElem?_append_right (by omega), Nat.add_sub_cancel_left, List.getElem?_map]
  rw [e, jn_plc1, Nat.add_sub_cancel_left]
  cases b.sects[j]? <;> rfl
theorem jn_pl2 {a b : Objt} {r : List Objt} {d : Int} {k : Nat} : (places (jnO a b :: r) d).getD (k + 1) [] = (places (a :: b :: r) d).getD (k + 2) [] := by
 simp only [places, List.mapIdx_cons, List.getD_cons_succ]
 rw [List.getD_eq_getElem?_getD, List.getD_eq_getElem?_getD, List.getElem?_mapIdx, List.getElem?_mapIdx]
 cases r[k]? with
 | none => rfl
 | some o =>
  simp only [Option.map_some, Option.getD_some]
  exact mapIdx_congr fun i s _ => jn_plc2
theorem getD_app_l {α : Type} {l m : List α} {i : Nat} {x : α} (h : i < l.length) : (l ++ m).getD i x = l.getD i x := by
 rw [List.getD_eq_getElem?_getD, List.getElem?_append_left h, ← List.getD_eq_getElem?_getD]
theorem getD_app_r {α : Type} {l m : List α} {i n : Nat} {x : α} (h : l.length = n) : (l ++ m).getD (n + i) x = m.getD i x := by
 rw [List.getD_eq_getElem?_getD, List.getElem?_append_right (by omega), h, Nat.add_sub_cancel_left, ← List.getD_eq_getElem?_getD]
theorem jn_len0 {a b : Objt} {r : List Objt} {d : Int} : ((places (a :: b :: r) d).getD 0 []).length = a.sects.length := by
 simp [places, List.mapIdx_cons]
theorem jn_at0 {a b : Objt} {r : List Objt} {d : Int} {i : Nat} (hi : i < a.sects.length) : placeOf (places (jnO a b :: r) d) 0 i = placeOf (places (a :: b :: r) d) 0 i := by
 simp only [placeOf, Int.toNat_zero, Int.toNat_natCast, jn_pl0]
 exact getD_app_l (by rw [jn_len0]; exact hi)
theorem jn_at1 {a b : Objt} {r : List Objt} {d : Int} {i : Nat} : placeOf (places (jnO a b :: r) d) 0 ((a.sects.length : Int) + i) = placeOf (places (a :: b :: r) d) 1 i := by
 have e : ((a.sects.length : Int) + i).toNat = a.sects.length + i := by omega
 have e1 : (1 : Int).toNat = 1 := rfl
 simp only [placeOf, Int.toNat_zero, Int.toNat_natCast, e, e1, jn_pl0]
 exact getD_app_r jn_len0
theorem jn_at2 {a b : Objt} {r : List Objt} {d : Int} {k i : Nat} : placeOf (places (jnO a b :: r) d) (1 + k) i = placeOf (places (a :: b :: r) d) (2 + k) i := by
 have e : (1 + (k : Int)).toNat = k + 1 := by omega
 have e2 : (2 + (k : Int)).toNat = k + 2 := by omega
 simp only [placeOf, e, e2, jn_pl2]
/-! What symbols mean. -/
theorem jn_val0 {a b : Objt} {r : List Objt} {d : Int} {s : Sym} (hs : symOk s a.sects) (hw : s.wher ≠ -1) : valS (places (jnO a b :: r) d) 0 s = valS (places (a :: b :: r) d) 0 s := by
 unfold valS
 split
 ·rfl
 ·rename_i h2
  have h3 : 0 ≤ s.wher ∧ s.wher < a.sects.length := by rcases hs.2 with h | h | h <;> omega
  have := jn_at0 (a := a) (b := b) (r := r) (d := d) (i := s.wher.toNat) (by omega)
  have e : ((s.wher.toNat : Nat) : Int) = s.wher := by omega
  rw [e] at this
  unfold placeOf at this
  rw [this]
theorem jn_val1 {a b : Objt} {r : List Objt} {d : Int} {s : Sym} (hs : symOk s b.sects) (hw : s.wher ≠ -1) : valS (places (jnO a b :: r) d) 0 (shS a.sects.length s) = valS (places (a :: b :: r) d) 1 s := by
 unfold valS
 by_cases h2 : s.wher = -2
 ·rw [if_pos h2, if_pos (shS_nb.2.2.2.1.2 h2), shS_nb.2.2.2.2]
 ·rw [if_neg h2, if_neg fun h => h2 (shS_nb.2.2.2.1.1 h), shS_nb.2.2.2.2]
  have h3 : 0 ≤ s.wher := by rcases hs.2 with h | h | h <;> omega
  have e : (shS a.sects.length s).wher = (a.sects.length : Int) + (s.wher.toNat : Int) := by
   unfold shS
   rw [if_pos h3]
   simp only
   omega
  have := jn_at1 (a := a) (b := b) (r := r) (d := d) (i := s.wher.toNat)
  rw [← e] at this
  unfold placeOf at this
  have e3 : ((s.wher.toNat : Nat) : Int).toNat = s.wher.toNat := by omega
  rw [e3] at this
  rw [this]
theorem jn_val2 {a b : Objt} {r : List Objt} {d : Int} {k : Nat} {s : Sym} : valS (places (jnO a b :: r) d) (1 + k) s = valS (places (a :: b :: r) d) (2 + k) s := by
 have e : (1 + (k : Int)).toNat = k + 1 := by omega
 have e2 : (2 + (k : Int)).toNat = k + 2 := by omega
 simp only [valS, e, e2, jn_pl2]
theorem jn_fs2 {a b : Objt} {R : List Objt} {d : Int} {p : Sym → Bool} : ∀ {r : List Objt} {k : Nat}, fsV (places (jnO a b :: R) d) p r (1 + k) = fsV (places (a :: b :: R) d) p r (2 + k) := by
 intro r
 induction r with
 | nil => intro k; rfl
 | cons o r ih =>
  intro k
  simp only [fsV, jn_val2]
  have := ih (k := k + 1)
  rw [show (1 : Int) + ((k + 1 : Nat) : Int) = 1 + k + 1 by omega, show (2 : Int) + ((k + 1 : Nat) : Int) = 2 + k + 1 by omega] at this
  rw [this]
theorem glo_ok {o : Objt} {n : ByteArray} {s : Sym} (h : objB o = true) (hs : glo o.syms n = some s) : symOk s o.sects ∧ s.bind ≠ 0 ∧ s.name = n := ⟨objB_sym h (glo_some hs).1, (glo_some hs).2⟩
def fsG (v : Sym → Int) (n : ByteArray) (b : Int) (g : Option Sym) (e : Option Int) : Option Int := match g.filter (bdS n b) with
 | some s => some (v s)
 | none => e
theorem jn_rv {a b : Objt} {r : List Objt} {d : Int} (h : Jok a b) (n : ByteArray) : rvL (places (jnO a b :: r) d) (jnO a b :: r) n = rvL (places (a :: b :: r) d) (a :: b :: r) n := by
 have ex : ∀ c : Int, c ≠ 0 → fsV (places (jnO a b :: r) d) (bdS n c) (jnO a b :: r) 0 = fsG (valS (places (jnO a b :: r) d) 0) n c (gloJ a.sects.length (glo a.syms n) (glo b.syms n)) (fsV (places (a :: b :: r) d) (bdS n c) r 2) := fun c hc => by
  have := jn_fs2 (a := a) (b := b) (R := r) (d := d) (p := bdS n c) (r := r) (k := 0)
  simp only [Int.natCast_zero, Int.add_zero] at this
  rw [fsV, find_bd h.u hc, glo_jn h, fsG, Int.zero_add, this]
  generalize Option.filter (bdS n c) (gloJ a.sects.length (glo a.syms n) (glo b.syms n)) = g
  cases g <;> rfl
 have el : ∀ c : Int, c ≠ 0 → fsV (places (a :: b :: r) d) (bdS n c) (a :: b :: r) 0 = fsG (valS (places (a :: b :: r) d) 0) n c (glo a.syms n) (fsG (valS (places (a :: b :: r) d) 1) n c (glo b.syms n) (fsV (places (a :: b :: r) d) (bdS n c) r 2)) := fun c hc => by
  rw [fsV, find_bd (objB_uniq h.va) hc, fsV, find_bd (objB_uniq h.vb) hc]; rfl
 have tw : cntB n (symP strongS a.syms) + cntB n (symP strongS b.syms) ≤ 1 := by
  refine Classical.byContradiction fun hc => ?_
  have : n ∈ nTw [a, b] := mem_nTw.2 (by
   simp only [cntS, flt, List.flatMap_cons, List.flatMap_nil, List.append_nil, cntB_app]; omega)
  rw [h.tw] at this; cases this
 rw [cnt_glo (objB_uniq h.va), cnt_glo (objB_uniq h.vb)] at tw
 unfold rvL
 rw [ex 1 (by omega), ex 2 (by omega), el 1 (by omega), el 2 (by omega)]
 generalize fsV (places (a :: b :: r) d) (bdS n 1) r 2 = e1
 generalize fsV (places (a :: b :: r) d) (bdS n 2) r 2 = e2
 cases hga : glo a.syms n with
 | none =>
  cases hgb : glo b.syms n with
  | none => rfl
  | some t =>
   obtain ⟨h1, h2, h3⟩ := glo_ok h.vb hgb
   have hv := fun hw => jn_val1 (a := a) (b := b) (r := r) (d := d) (s := t) h1 hw
   have q := shS_nb (n := a.sects.length) (s := t)
   by_cases hw : t.wher = -1
   ·have f1 : ∀ c, bdS n c t = false := fun c => by simp [bdS, hw]
    have f2 : ∀ c, bdS n c (shS a.sects.length t) = false := fun c => by simp [bdS, q.2.2.1.2 hw]
    simp [fsG, gloJ, Option.filter_some, f1, f2]
   ·have f1 : ∀ c, bdS n c (shS a.sects.length t) = bdS n c t := fun c => by simp only [bdS, q.1, q.2.1, ne_eq, q.2.2.1]
    simp only [fsG, gloJ, Option.map_some, Option.filter_some, Option.filter_none, f1]
    cases hb1 : bdS n 1 t <;> cases hb2 : bdS n 2 t <;> simp [hv hw]
 | some s =>
  obtain ⟨g1, g2, g3⟩ := glo_ok h.va hga
  have hv0 := fun hw => jn_val0 (a := a) (b := b) (r := r) (d := d) (s := s) g1 hw
  cases hgb : glo b.syms n with
  | none =>
   by_cases hw : s.wher = -1
   ·have f1 : ∀ c, bdS n c s = false := fun c => by simp [bdS, hw]
    simp [fsG, gloJ, Option.filter_some, f1]
   ·simp only [fsG, gloJ, Option.filter_some, Option.filter_none]
    cases hb1 : bdS n 1 s <;> cases hb2 : bdS n 2 s <;> simp [hv0 hw]
  | some t =>
   obtain ⟨h1, h2, h3⟩ := glo_ok h.vb hgb
   have hv := fun hw => jn_val1 (a := a) (b := b) (r := r) (d := d) (s := t) h1 hw
   have q := shS_nb (n := a.sects.length) (s := t)
   have f1 : ∀ c, bdS n c (shS a.sects.length t) = bdS n c t := fun c => by simp only [bdS, q.1, q.2.1, ne_eq, q.2.2.1]
   have bs : ∀ c, bdS n c s = decide (s.bind = c ∧ s.wher ≠ -1) := fun c => by simp [bdS, g3]
   have bt : ∀ c, bdS n c t = decide (t.bind = c ∧ t.wher ≠ -1) := fun c => by simp [bdS, h3]
   rw [hga, hgb, Option.filter_some, Option.filter_some, bs, bt] at tw
   have hs3 : s.bind = 1 ∨ s.bind = 2 := by have := g1.1; omega
   have ht3 : t.bind = 1 ∨ t.bind = 2 := by have := h1.1; omega
   simp only [fsG, gloJ]
   unfold tks
   by_cases w1 : s.wher = -1 <;> by_cases w2 : t.wher = -1 <;> rcases hs3 with b1 | b1 <;> rcases ht3 with b2 | b2 <;> simp [w1, w2, b1, b2, bs, bt, f1, Option.filter_some] at tw ⊢ <;> first | done | (rw [hv w2]) | (rw [hv0 w1]) | skip

theorem jn_tg0 {a b : Objt} {r : List Objt} {d : Int} (h : Jok a b) {j : Int} (h0 : 0 ≤ j) (h1 : j < a.syms.length) : (syV (places (jnO a b :: r) d) (jnO a b :: r) 0 j).getD 0 = (syV (places (a :: b :: r) d) (a :: b :: r) 0 j).getD 0 := by
 have hs := List.getElem?_eq_getElem (l := a.syms) (i := j.toNat) (by omega)
 have so := objB_sym h.va (List.mem_of_getElem? hs)
 rw [syV_tg (l := a :: b :: r) (k := 0) (o := a) rfl hs]
 generalize a.syms[j.toNat] = s at hs so
 rcases h.ok.old _ s hs with ⟨t, h2, h3, h4, h5, _, h6⟩ | ⟨h2, _⟩
 ·rw [syV_tg (l := jnO a b :: r) (k := 0) (o := jnO a b) rfl h6, tgS, tgS, if_neg (by rw [shS_nb.2.1]; exact h3), if_neg h5, shS_nb.1, h4, jn_rv h]
 ·rw [syV_tg (l := jnO a b :: r) (k := 0) (o := jnO a b) rfl h2, tgS, tgS, jn_rv h]
  split
  ·rename_i hb
   exact jn_val0 so (by rcases so.2 with g | g | g <;> omega)
  ·rfl
theorem jn_tg1 {a b : Objt} {r : List Objt} {d : Int} (h : Jok a b) {f : Fixup} (h0 : 0 ≤ f.to) (h1 : f.to < b.syms.length) : (syV (places (jnO a b :: r) d) (jnO a b :: r) 0 (reF (jnF a b.syms).nums f).to).getD 0 = (syV (places (a :: b :: r) d) (a :: b :: r) 1 f.to).getD 0 := by
 have hs := List.getElem?_eq_getElem (l := b.syms) (i := f.to.toNat) (by omega)
 have so := objB_sym h.vb (List.mem_of_getElem? hs)
 rw [syV_tg (l := a :: b :: r) (k := 1) (o := b) rfl hs]
 generalize b.syms[f.to.toNat] = t at hs so
 obtain ⟨m, h2, u, h3, h4, h5⟩ := h.ok.num _ t hs
 have e : (reF (jnF a b.syms).nums f).to = (m : Int) := getD_get h2
 rw [e, syV_tg (l := jnO a b :: r) (k := 0) (j := (m : Int)) (o := jnO a b) (s := u) rfl (by rw [Int.toNat_natCast]; exact h3), tgS, tgS, jn_rv h]
 by_cases hb : t.bind = 0
 ·rw [h4 hb, shS_nb.2.1, if_pos hb, if_pos hb]
  exact jn_val1 so (by rcases so.2 with g | g | g <;> omega)
 ·rw [if_neg (h5 hb).1, if_neg hb, (h5 hb).2]
theorem jn_tg2 {a b : Objt} {r : List Objt} {d : Int} (h : Jok a b) {o : Objt} {k : Nat} (ho : r[k]? = some o) {j : Int} (h0 : 0 ≤ j) (h1 : j < o.syms.length) : (syV (places (jnO a b :: r) d) (jnO a b :: r) (1 + k) j).getD 0 = (syV (places (a :: b :: r) d) (a :: b :: r) (2 + k) j).getD 0 := by
 have hs := List.getElem?_eq_getElem (l := o.syms) (i := j.toNat) (by omega)
 have e1 : (1 + (k : Int)).toNat = k + 1 := by omega
 have e2 : (2 + (k : Int)).toNat = k + 2 := by omega
 rw [syV_tg (l := jnO a b :: r) (o := o) (by rw [e1]; simpa using ho) hs, syV_tg (l := a :: b :: r) (o := o) (by rw [e2]; simpa using ho) hs, tgS, tgS, jn_rv h, jn_val2]
theorem jn_lnkB {a b : Objt} {r : List Objt} {d : Int} (h : Jok a b) (hr : r.all objB = true) : lnkB (jnO a b :: r) d = lnkB (a :: b :: r) d := by
 unfold lnkB
 rw [jn_lay]
 simp only [lnkO]
 generalize List.replicate (atK (a :: b :: r) d 3 - d).toNat (0 : Int) = out
 have ex : (jnO a b).sects = a.sects ++ b.sects.map (reS (jnF a b.syms).nums) := rfl
 rw [ex, lnkS_app]
 have e0 : lnkS (places (jnO a b :: r) d) (jnO a b :: r) d 0 a.sects 0 out = lnkS (places (a :: b :: r) d) (a :: b :: r) d 0 a.sects 0 out := by
  refine lnkS_same (forall2_refl fun s hs => ⟨rfl, forall2_refl fun f hf => ⟨rfl, rfl, rfl, ?_⟩⟩) (by omega) (by omega) fun j hj => ?_
  ·have := objB_to h.va hs hf; exact jn_tg0 h this.1 this.2
  ·rw [Int.zero_add]; exact jn_at0 hj
 rw [e0]
 cases lnkS (places (a :: b :: r) d) (a :: b :: r) d 0 a.sects 0 out with
 | none => rfl
 | some out =>
  simp only [Option.bind_some, Int.zero_add]
  have e1 : lnkS (places (jnO a b :: r) d) (jnO a b :: r) d 0 (b.sects.map (reS (jnF a b.syms).nums)) a.sects.length out = lnkS (places (a :: b :: r) d) (a :: b :: r) d 1 b.sects 0 out := by
   symm
   refine lnkS_same (forall2_map fun s hs => ⟨rfl, forall2_map fun f hf => ⟨rfl, rfl, rfl, ?_⟩⟩) (by omega) (by omega) fun j hj => ?_
   ·have := objB_to h.vb hs hf; exact (jn_tg1 h this.1 this.2).symm
   ·rw [Int.zero_add]; exact jn_at1.symm
  rw [e1]
  cases lnkS (places (a :: b :: r) d) (a :: b :: r) d 1 b.sects 0 out with
  | none => rfl
  | some out =>
   simp only
   refine lnkO_same (k := 1) (k' := 1 + 1) (by omega) (by omega) fun j o ho => ⟨forall2_refl fun s hs => ⟨rfl, forall2_refl fun f hf => ⟨rfl, rfl, rfl, ?_⟩⟩, fun i => jn_at2⟩
   have := objB_to (all_get hr ho) hs hf
   exact jn_tg2 h ho this.1 this.2
theorem jn_nTw {a b : Objt} {r : List Objt} (h : Jok a b) : nTw (jnO a b :: r) = nTw (a :: b :: r) := by
 have e : ∀ n, cntS (jnO a b :: r) n = cntS (a :: b :: r) n := fun n => by
  have tw : cntB n (symP strongS a.syms) + cntB n (symP strongS b.syms) ≤ 1 := by
   refine Classical.byContradiction fun hc => ?_
   have : n ∈ nTw [a, b] := mem_nTw.2 (by
    simp only [cntS, flt, List.flatMap_cons, List.flatMap_nil, List.append_nil, cntB_app]; omega)
   rw [h.tw] at this; cases this
  simp only [cntS, flt, List.flatMap_cons, cntB_app]
  rw [cnt_glo (objB_uniq h.va), cnt_glo (objB_uniq h.vb)] at tw ⊢
  rw [cnt_glo h.u, glo_jn h, ← Int.add_assoc]
  congr 1
  cases hga : glo a.syms n with
  | none =>
   cases hgb : glo b.syms n with
   | none => rfl
   | some t =>
    have q := shS_nb (n := a.sects.length) (s := t)
    have f1 : bdS n 1 (shS a.sects.length t) = bdS n 1 t := by simp only [bdS, q.1, q.2.1, ne_eq, q.2.2.1]
    simp only [gloJ, Option.map_some, Option.filter_some, f1, Option.filter_none]
    by_cases hb : bdS n 1 t = true <;> simp [hb]
  | some s =>
   obtain ⟨g1, g2, g3⟩ := glo_ok h.va hga
   cases hgb : glo b.syms n with
   | none => simp [gloJ]
   | some t =>
    obtain ⟨h1, h2, h3⟩ := glo_ok h.vb hgb
    have q := shS_nb (n := a.sects.length) (s := t)
    have f1 : bdS n 1 (shS a.sects.length t) = bdS n 1 t := by simp only [bdS, q.1, q.2.1, ne_eq, q.2.2.1]
    have bs : bdS n 1 s = decide (s.bind = 1 ∧ s.wher ≠ -1) := by simp [bdS, g3]
    have bt : bdS n 1 t = decide (t.bind = 1 ∧ t.wher ≠ -1) := by simp [bdS, h3]
    rw [hga, hgb, Option.filter_some, Option.filter_some, bs, bt] at tw
    have hs3 : s.bind = 1 ∨ s.bind = 2 := by have := g1.1; omega
    have ht3 : t.bind = 1 ∨ t.bind = 2 := by have := h1.1; omega
    simp only [gloJ]
    unfold tks
    by_cases w1 : s.wher = -1 <;> by_cases w2 : t.wher = -1 <;> rcases hs3 with b1 | b1 <;> rcases ht3 with b2 | b2 <;> simp [w1, w2, b1, b2, bs, bt, f1, Option.filter_some] at tw ⊢
 refine asc_ext (sortU_asc _) (sortU_asc _) fun x => ?_
 show x ∈ nTw (jnO a b :: r) ↔ x ∈ nTw (a :: b :: r)
 rw [mem_nTw, mem_nTw, e]
theorem jn_fnd {a b : Objt} {r : List Objt} (h : Jok a b) (n : ByteArray) : fnd (jnO a b :: r) n = none ↔ fnd (a :: b :: r) n = none := by
 rw [rvL_none (pl := places (jnO a b :: r) 0), jn_rv h, ← rvL_none]
theorem jn_nMs {a b : Objt} {r : List Objt} (h : Jok a b) : nMs (jnO a b :: r) = nMs (a :: b :: r) := by
 refine asc_ext (sortU_asc _) (sortU_asc _) fun n => ?_
 show n ∈ nMs (jnO a b :: r) ↔ n ∈ nMs (a :: b :: r)
 rw [mem_nMs, mem_nMs, jn_fnd h]
 refine and_congr_right fun hf => ?_
 have hno := fnd_none.1 hf
 have key : (∃ s ∈ (jnO a b).syms, s.name = n ∧ s.bind = 1 ∧ s.wher = -1) ↔ (∃ s ∈ a.syms, s.name = n ∧ s.bind = 1 ∧ s.wher = -1) ∨ ∃ s ∈ b.syms, s.name = n ∧ s.bind = 1 ∧ s.wher = -1 := by
  constructor
  ·rintro ⟨s, hs, h1, h2, h3⟩
   rcases h.ok.all s hs with h4 | ⟨t, h4, rfl⟩
   ·exact .inl ⟨s, h4, h1, h2, h3⟩
   ·rw [shS_nb.1] at h1
    rw [shS_nb.2.1] at h2
    exact .inr ⟨t, h4, h1, h2, shS_nb.2.2.1.1 h3⟩
  ·have gl : ∀ o ∈ (a :: b :: r), objB o = true → ∀ s, glo o.syms n = some s → s.wher = -1 := fun o ho hob s hs => by
    obtain ⟨g1, g2, g3⟩ := glo_ok hob hs
    refine Classical.byContradiction fun hc => ?_
    have := hno o ho s (glo_some hs).1
    have hb := g1.1
    simp only [bdS, decide_eq_false_iff_not] at this
    rcases hb with hb | hb | hb
    ·exact g2 hb
    ·exact this.1 ⟨g3, hb, hc⟩
    ·exact this.2 ⟨g3, hb, hc⟩
   have fin : ∀ u, glo (jnO a b).syms n = some u → u.bind = 1 → u.wher = -1 → ∃ s ∈ (jnO a b).syms, s.name = n ∧ s.bind = 1 ∧ s.wher = -1 := fun u hu h1 h2 => ⟨u, (glo_some hu).1, (glo_some hu).2.2, h1, h2⟩
   have gj := glo_jn h n
   rintro (⟨s, hs, h1, h2, h3⟩ | ⟨t, ht, h1, h2, h3⟩)
   ·have hga := glo_mem (objB_uniq h.va) hs (by omega) h1
    rw [hga] at gj
    cases hgb : glo b.syms n with
    | none => rw [hgb] at gj; exact fin s gj h2 h3
    | some t =>
     have := gl b (by simp) h.vb t hgb
     have e : tks s t = false := by simp [tks, h3, this, h2]
     rw [hgb] at gj
     simp only [gloJ, e, Bool.false_eq_true, if_false] at gj
     exact fin s gj h2 h3
   ·have hgb := glo_mem (objB_uniq h.vb) ht (by omega) h1
    rw [hgb] at gj
    have q := shS_nb (n := a.sects.length) (s := t)
    cases hga : glo a.syms n with
    | none => rw [hga] at gj; exact fin _ gj (q.2.1.trans h2) (q.2.2.1.2 h3)
    | some s =>
     have w := gl a (by simp) h.va s hga
     rw [hga] at gj
     simp only [gloJ] at gj
     by_cases hb : s.bind = 1
     ·have e : tks s t = false := by simp [tks, h3, w, hb]
      rw [e] at gj
      simp only [Bool.false_eq_true, if_false] at gj
      exact fin s gj hb w
     ·have e : tks s t = true := by simp [tks, h3, w, hb, h2]
      rw [e] at gj
      simp only [if_true] at gj
      exact fin _ gj (q.2.1.trans h2) (q.2.2.1.2 h3)
 simp only [List.mem_cons, or_and_right, exists_or, exists_eq_left, key, or_assoc]
theorem jn_link {a b : Objt} {r : List Objt} {d : Int} (h : joinOk a b = true) (hl : objsB (a :: b :: r) = true) : link (jnO a b :: r) d = link (a :: b :: r) d := by
 have h := joinOk_iff.1 h
 obtain ⟨h1, h2⟩ := objsB_all hl
 simp only [List.all_cons, Bool.and_eq_true, List.length_cons] at h1 h2
 have hx : objsB (jnO a b :: r) = true := by
  simp [objsB, h.x, h1.2.2]; omega
 have e : layOk (jnO a b :: r) d = layOk (a :: b :: r) d := by
  rw [Bool.eq_iff_iff, layOk_iff, layOk_iff, hl, hx]
 unfold link
 rw [e, jn_nTw h, jn_nMs h, jn_lnkB h h1.2.2]
theorem joinOk_objsB {a b : Objt} {r : List Objt} (h : joinOk a b = true) (hl : objsB (a :: b :: r) = true) : objsB (jnO a b :: r) = true := by
 have h := joinOk_iff.1 h
 obtain ⟨h1, h2⟩ := objsB_all hl
 simp only [List.all_cons, Bool.and_eq_true, List.length_cons] at h1 h2
 simp [objsB, h.x, h1.2.2]; omega
theorem jn_given {a b : Objt} (h : joinOk a b = true) {n : ByteArray} (hn : n ∈ namesG (jnO a b)) : (fnd [a, b] n).isSome = true := by
 have h := joinOk_iff.1 h
 cases hf : fnd [a, b] n with
 | some g => rfl
 | none =>
  have h0 := fnd_none.1 ((jn_fnd (r := []) h n).2 hf)
  rw [namesG, if_pos h.x, mem_sortU, mem_symP] at hn
  obtain ⟨s, hs, h1, h2⟩ := hn
  have := h0 _ (by simp) s hs
  have hb := (objB_sym h.x hs).1
  simp only [giveS, decide_eq_true_eq] at h1
  simp only [bdS, decide_eq_false_iff_not] at this
  rcases hb with hb | hb | hb
  ·exact absurd hb h1.2
  ·exact absurd ⟨h2, hb, h1.1⟩ this.1
  ·exact absurd ⟨h2, hb, h1.1⟩ this.2
/-! All are joined. -/
def joinR : List Objt → Objt → Option Objt
 | [], x => some x
 | o :: l, x => if joinOk x o = true then joinR l (jnO x o) else none
def joinA (l : List Objt) : Option Objt := if objsB l = true then (match l with | [] => none | o :: l => joinR l o) else none
theorem joinR_link {d : Int} : ∀ {l : List Objt} {x y : Objt}, joinR l x = some y → objsB (x :: l) = true → link [y] d = link (x :: l) d := by
 intro l
 induction l with
 | nil => intro x y h _; simp only [joinR, Option.some.injEq] at h; subst h; rfl
 | cons o l ih =>
  intro x y h hl
  simp only [joinR] at h
  split at h
  ·rename_i hj
   rw [ih h (joinOk_objsB hj hl), jn_link hj hl]
  ·cases h
theorem joinA_link {l : List Objt} {y : Objt} {d : Int} (h : joinA l = some y) : link [y] d = link l d := by
 unfold joinA at h
 split at h
 ·rename_i hl
  cases l with
  | nil => cases h
  | cons o l => exact joinR_link h hl
 ·cases h
/-! With an object without anything. -/
end Go.Proofs.YtpgglbnagphgoaaGreat
