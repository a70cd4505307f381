/- Sections that are reached, and sections that are kept: plain Lean. -/
import Derived.Test.YtpgglbnagphgoaaJoiDK
import Derived.Test.YtpgglbnagphgoaaLnkLK
import Derived.Test.YtpgglbnagphgoaaResTK
import Derived.Test.YtpgglbnagphgoaaInIK
set_option linter.unusedVariables false
set_option linter.unusedSimpArgs false
namespace Go.Proofs.Ytpgglbnagphgoaa
open Go Go.RowKit

def hitN (names : List ByteArray) (s : Sym) : Bool := decide (s.bind ≠ 0 ∧ 0 ≤ s.wher ∧ s.name ∈ names)
def stN (names : List ByteArray) (b : List Bool) (s : Sym) : List Bool := if hitN names s = true then b.set s.wher.toNat true else b
def qN (names : List ByteArray) (l : List Sym) (b : List Bool) : List Bool := l.foldl (stN names) b
def whO (o : Objt) (j : Int) : Int := match o.syms[j.toNat]? with | some s => s.wher | none => -1
def stF (o : Objt) (k : Int) (b : List Bool) (f : Fixup) : List Bool := if b[k.toNat]? = some true ∧ 0 ≤ whO o f.to then b.set (whO o f.to).toNat true else b
def fixO (o : Objt) (k : Int) : List Fixup := match o.sects[k.toNat]? with | some s => s.fixups | none => []
def qJ (o : Objt) (k : Int) (b : List Bool) (j : Int) : List Bool := ((fixO o k).take j.toNat).foldl (stF o k) b
def qK' (o : Objt) (b : List Bool) : Nat → List Bool
 | 0 => b
 | k + 1 => (fixO o k).foldl (stF o k) (qK' o b k)
def qK (o : Objt) (b : List Bool) (k : Int) : List Bool := qK' o b k.toNat
def qT' (o : Objt) (b : List Bool) : Nat → List Bool
 | 0 => b
 | t + 1 => qK' o (qT' o b t) o.sects.length
def qT (o : Objt) (b : List Bool) (t : Int) : List Bool := qT' o b t.toNat
def tru : List Bool → Int → List Int
 | [], _ => []
 | b :: l, k => if b = true then k :: tru l (k + 1) else tru l (k + 1)
def r0 (o : Objt) (names : List ByteArray) : List Bool := qN names o.syms (List.replicate o.sects.length false)
def rchB (o : Objt) (names : List ByteArray) : List Bool := qT o (r0 o names) o.sects.length
def rch (o : Objt) (names : List ByteArray) : List Int := if objB o = true then tru (rchB o names) 0 else []
theorem rch_no {o : Objt} {n : List ByteArray} (h : objB o = false) : rch o n = [] := by rw [rch, if_neg (by simp [h])]
theorem rch_yes {o : Objt} {n : List ByteArray} (h : objB o = true) : rch o n = tru (rchB o n) 0 := by rw [rch, if_pos h]
theorem stN_len {n : List ByteArray} {b : List Bool} {s : Sym} : (stN n b s).length = b.length := by unfold stN; split <;> simp
theorem qN_len {n : List ByteArray} : ∀ {l : List Sym} {b : List Bool}, (qN n l b).length = b.length := by
 intro l
 induction l with
 | nil => intro b; rfl
 | cons s l ih => intro b; simp only [qN, List.foldl_cons] at *; rw [ih, stN_len]
theorem stF_len {o : Objt} {k : Int} {b : List Bool} {f : Fixup} : (stF o k b f).length = b.length := by unfold stF; split <;> simp
theorem foldF_len {o : Objt} {k : Int} : ∀ {l : List Fixup} {b : List Bool}, (l.foldl (stF o k) b).length = b.length := by
 intro l
 induction l with
 | nil => intro b; rfl
 | cons f l ih => intro b; simp only [List.foldl_cons]; rw [ih, stF_len]
theorem qJ_len {o : Objt} {k j : Int} {b : List Bool} : (qJ o k b j).length = b.length := foldF_len
theorem qK'_len {o : Objt} {b : List Bool} : ∀ k, (qK' o b k).length = b.length := by
 intro k
 induction k with
 | zero => rfl
 | succ k ih => simp only [qK']; rw [foldF_len, ih]
theorem qK_len {o : Objt} {b : List Bool} {k : Int} : (qK o b k).length = b.length := qK'_len _
theorem qT'_len {o : Objt} {b : List Bool} : ∀ t, (qT' o b t).length = b.length := by
 intro t
 induction t with
 | zero => rfl
 | succ t ih => simp only [qT']; rw [qK'_len, ih]
theorem qT_len {o : Objt} {b : List Bool} {t : Int} : (qT o b t).length = b.length := qT'_len _
theorem r0_len {o : Objt} {n : List ByteArray} : (r0 o n).length = o.sects.length := by rw [r0, qN_len]; simp
theorem rchB_len {o : Objt} {n : List ByteArray} : (rchB o n).length = o.sects.length := by rw [rchB, qT_len, r0_len]
theorem qN_next {n : List ByteArray} {l : List Sym} {b : List Bool} {k : Int} {s : Sym} (hk : 0 ≤ k) (h : l[k.toNat]? = some s) : qN n (l.take (k + 1).toNat) b = stN n (qN n (l.take k.toNat) b) s := by
 rw [toNat_succ hk, take_snoc h, qN, List.foldl_append]; rfl
theorem qN_yes {n : List ByteArray} {l : List Sym} {b : List Bool} {k : Int} {s : Sym} (hk : 0 ≤ k) (h : l[k.toNat]? = some s) (h1 : ¬ s.bind = 0) (h2 : 0 ≤ s.wher) (h3 : inB n s.name = true) : (qN n (l.take k.toNat) b).set s.wher.toNat true = qN n (l.take (k + 1).toNat) b := by
 rw [qN_next hk h, stN, if_pos (by simp only [hitN, decide_eq_true_eq]; exact ⟨h1, h2, of_decide_eq_true h3⟩)]
theorem qN_no {n : List ByteArray} {l : List Sym} {b : List Bool} {k : Int} {s : Sym} (hk : 0 ≤ k) (h : l[k.toNat]? = some s) (h1 : s.bind = 0 ∨ s.wher < 0 ∨ inB n s.name = false) : qN n (l.take k.toNat) b = qN n (l.take (k + 1).toNat) b := by
 rw [qN_next hk h, stN, if_neg]
 simp only [hitN, decide_eq_true_eq]
 rintro ⟨h2, h3, h4⟩
 rcases h1 with h1 | h1 | h1
 ·exact h2 h1
 ·omega
 ·rw [inB_iff.2 h4] at h1; cases h1
theorem qN_end {n : List ByteArray} {o : Objt} {k : Int} (h : (o.syms.length : Int) ≤ k) : qN n (o.syms.take k.toNat) (List.replicate o.sects.length false) = r0 o n := by
 rw [List.take_of_length_le (by omega)]; rfl
def qM (names : List ByteArray) (b : List Bool) (s : Sym) (j : Int) : List Bool := stN (names.take j.toNat) b s
theorem qM_0 {n : List ByteArray} {b : List Bool} {s : Sym} : b = qM n b s 0 := by
 unfold qM stN; rw [if_neg]; simp [hitN]
theorem qM_end {n : List ByteArray} {b : List Bool} {s : Sym} {j : Int} (h : (n.length : Int) ≤ j) : qM n b s j = stN n b s := by
 unfold qM; rw [List.take_of_length_le (by omega)]
theorem qM_len {n : List ByteArray} {b : List Bool} {s : Sym} {j : Int} : (qM n b s j).length = b.length := stN_len
theorem qM_yes {n : List ByteArray} {b : List Bool} {s : Sym} {j : Int} {x : ByteArray} (hj : 0 ≤ j) (hx : n[j.toNat]? = some x) (h : s.name = x) (h1 : ¬ s.bind = 0) (h2 : 0 ≤ s.wher) : (qM n b s j).set s.wher.toNat true = qM n b s (j + 1) := by
 have e : hitN (n.take (j + 1).toNat) s = true := by
  simp only [hitN, decide_eq_true_eq]
  rw [toNat_succ hj, take_snoc hx]
  exact ⟨h1, h2, by rw [h]; simp⟩
 unfold qM stN
 rw [if_pos e]
 split
 ·rw [List.set_set]
 ·rfl
theorem qM_no {n : List ByteArray} {b : List Bool} {s : Sym} {j : Int} {x : ByteArray} (hj : 0 ≤ j) (hx : n[j.toNat]? = some x) (h : ¬ s.name = x ∨ s.bind = 0 ∨ s.wher < 0) : qM n b s j = qM n b s (j + 1) := by
 have e : hitN (n.take (j + 1).toNat) s = hitN (n.take j.toNat) s := by
  unfold hitN
  rw [toNat_succ hj, take_snoc hx]
  refine decide_eq_decide.2 ⟨fun ⟨a, b, c⟩ => ⟨a, b, ?_⟩, fun ⟨a, b, c⟩ => ⟨a, b, by simp [c]⟩⟩
  rcases h with h | h | h
  ·rcases List.mem_append.1 c with c | c
   ·exact c
   ·exact absurd (List.mem_singleton.1 c) h
  ·exact absurd h a
  ·omega
 unfold qM stN
 rw [e]
theorem qM_done {n : List ByteArray} {l : List Sym} {b : List Bool} {k j : Int} {s : Sym} (hk : 0 ≤ k) (h : l[k.toNat]? = some s) (hj : (n.length : Int) ≤ j) : qM n (qN n (l.take k.toNat) b) s j = qN n (l.take (k + 1).toNat) b := by
 rw [qN_next hk h, qM_end hj]
theorem whO_eq {o : Objt} {j : Int} {s : Sym} (h : o.syms[j.toNat]? = some s) : whO o j = s.wher := by simp [whO, h]
theorem fixO_eq {o : Objt} {k : Int} {s : Sect} (h : o.sects[k.toNat]? = some s) : fixO o k = s.fixups := by simp [fixO, h]
theorem qJ_next {o : Objt} {k j : Int} {b : List Bool} {f : Fixup} (hj : 0 ≤ j) (h : (fixO o k)[j.toNat]? = some f) : qJ o k b (j + 1) = stF o k (qJ o k b j) f := by
 unfold qJ
 rw [toNat_succ hj, take_snoc h, List.foldl_append]; rfl
theorem qJ_yes {o : Objt} {k j : Int} {b : List Bool} {f : Fixup} {s : Sym} (hj : 0 ≤ j) (h : (fixO o k)[j.toNat]? = some f) (hs : o.syms[f.to.toNat]? = some s) (hb : (qJ o k b j)[k.toNat]? = some true) (hw : 0 ≤ s.wher) : (qJ o k b j).set s.wher.toNat true = qJ o k b (j + 1) := by
 rw [qJ_next hj h, stF, whO_eq hs, if_pos ⟨hb, hw⟩]
theorem qJ_no {o : Objt} {k j : Int} {b : List Bool} {f : Fixup} {s : Sym} (hj : 0 ≤ j) (h : (fixO o k)[j.toNat]? = some f) (hs : o.syms[f.to.toNat]? = some s) (hw : s.wher < 0) : qJ o k b j = qJ o k b (j + 1) := by
 rw [qJ_next hj h, stF, whO_eq hs, if_neg (by omega)]
theorem qJ_off {o : Objt} {k j : Int} {b : List Bool} {f : Fixup} (hj : 0 ≤ j) (h : (fixO o k)[j.toNat]? = some f) (hb : (qJ o k b j)[k.toNat]? = some false) : qJ o k b j = qJ o k b (j + 1) := by
 rw [qJ_next hj h, stF, if_neg (by rw [hb]; simp)]
theorem fold_off {o : Objt} {k : Int} : ∀ {l : List Fixup} {b : List Bool}, b[k.toNat]? = some false → l.foldl (stF o k) b = b := by
 intro l
 induction l with
 | nil => intro b _; rfl
 | cons f l ih =>
  intro b h
  have : stF o k b f = b := by rw [stF, if_neg (by rw [h]; simp)]
  simp only [List.foldl_cons]
  rw [this]; exact ih h
theorem qK_next {o : Objt} {k : Int} {b : List Bool} (hk : 0 ≤ k) : qK o b (k + 1) = (fixO o k).foldl (stF o k) (qK o b k) := by
 unfold qK
 rw [toNat_succ hk, qK', show ((k.toNat : Nat) : Int) = k by omega]
theorem qK_off {o : Objt} {k j : Int} {b : List Bool} (hk : 0 ≤ k) (hj : 0 ≤ j) (hb : (qJ o k (qK o b k) j)[k.toNat]? = some false) : qJ o k (qK o b k) j = qK o b (k + 1) := by
 rw [qK_next hk]
 have e := List.foldl_append (f := stF o k) (b := qK o b k) (l := (fixO o k).take j.toNat) (l' := (fixO o k).drop j.toNat)
 rw [List.take_append_drop] at e
 rw [e]
 exact (fold_off hb).symm
theorem qK_done {o : Objt} {k j : Int} {b : List Bool} (hk : 0 ≤ k) (h : ((fixO o k).length : Int) ≤ j) : qJ o k (qK o b k) j = qK o b (k + 1) := by
 rw [qK_next hk, qJ, List.take_of_length_le (by omega)]
theorem qT_done {o : Objt} {k t : Int} {b : List Bool} (ht : 0 ≤ t) (h : (o.sects.length : Int) ≤ k) (h' : k ≤ o.sects.length) : qK o (qT o b t) k = qT o b (t + 1) := by
 unfold qK qT
 rw [toNat_succ ht, qT', show k.toNat = o.sects.length by omega]
theorem qT_end {o : Objt} {t : Int} {n : List ByteArray} (h : (o.sects.length : Int) ≤ t) (h' : t ≤ o.sects.length) : qT o (r0 o n) t = rchB o n := by
 rw [rchB, show t = o.sects.length by omega]
theorem tru_app : ∀ {l : List Bool} {b : Bool} {k : Int}, tru (l ++ [b]) k = tru l k ++ (if b = true then [k + l.length] else []) := by
 intro l
 induction l with
 | nil => intro b k; simp [tru]
 | cons a l ih =>
  intro b k
  simp only [List.cons_append, tru, ih, List.length_cons]
  have e : k + 1 + (l.length : Int) = k + ((l.length + 1 : Nat) : Int) := by omega
  rw [e]
  split <;> simp
theorem tru_yes {l : List Bool} {i : Int} (hi : 0 ≤ i) (h : l[i.toNat]? = some true) : tru (l.take i.toNat) 0 ++ [i] = tru (l.take (i + 1).toNat) 0 := by
 have := lt_of_some h
 rw [toNat_succ hi, take_snoc h, tru_app, if_pos rfl, List.length_take, Int.zero_add]
 congr 2; omega
theorem tru_no {l : List Bool} {i : Int} (hi : 0 ≤ i) (h : l[i.toNat]? = some false) : tru (l.take i.toNat) 0 = tru (l.take (i + 1).toNat) 0 := by
 rw [toNat_succ hi, take_snoc h, tru_app]; simp
theorem tru_end {l : List Bool} {i : Int} (h : (l.length : Int) ≤ i) : tru (l.take i.toNat) 0 = tru l 0 := by rw [List.take_of_length_le (by omega)]
theorem tru_len : ∀ {l : List Bool} {k : Int}, (tru l k).length ≤ l.length := by
 intro l
 induction l with
 | nil => intro k; simp [tru]
 | cons b l ih => intro k; simp only [tru]; split <;> simp <;> have := ih (k := k + 1) <;> omega
/-! Sections that are kept. -/
def kqS (l : List Int) (s : Sym) : Bool := decide (s.wher < 0) || inI l s.wher
def kSl (l : List Int) : List Sect → Int → List Sect
 | [], _ => []
 | s :: r, k => if inI l k = true then s :: kSl l r (k + 1) else kSl l r (k + 1)
def kNu (l : List Int) (r : List Sect) : List Int := (List.range r.length).map fun j => ((kSl l (r.take j) 0).length : Int)
def kP (o : Objt) (l : List Int) : List Bool := bits (fun _ s => kqS l s) o.syms 0
def kfx (o : Objt) (l : List Int) (f : Fixup) : Bool := match o.syms[f.to.toNat]? with | some s => kqS l s | none => true
def kAll (o : Objt) (l : List Int) (s : Sect) : Bool := s.fixups.all (kfx o l)
def keeOk (o : Objt) (l : List Int) : Bool := objB o && (kSl l o.sects 0).all (kAll o l)
def mvS (ns : List Int) (s : Sym) : Sym := if 0 ≤ s.wher then ⟨s.name, s.bind, ns.getD s.wher.toNat 0, s.value⟩ else s
def keeO (o : Objt) (l : List Int) : Objt := ⟨(kSl l o.sects 0).map (reS (kpN (kP o l) 0)), (kpS (kP o l) o.syms).map (mvS (kNu l o.sects))⟩
def keeV (o : Objt) (l : List Int) : Objt := if keeOk o l = true then keeO o l else ⟨[], []⟩
theorem kSl_sub {l : List Int} : ∀ {r : List Sect} {k : Int}, List.Sublist (kSl l r k) r := by
 intro r
 induction r with
 | nil => intro k; exact .slnil
 | cons s r ih =>
  intro k
  simp only [kSl]
  split
  ·exact .cons_cons _ ih
  ·exact .cons _ ih
theorem plS_sub {c : Int} {l m : List Sect} (h : List.Sublist l m) : ∀ {a : Int}, secsOk m → plS c l a ≤ plS c m a := by
 induction h with
 | slnil => intro a _; exact Int.le_refl _
 | @cons l m s h ih =>
  intro a hm
  simp only [plS]
  have hm' : secsOk m := fun t ht => hm t (List.mem_cons_of_mem _ ht)
  refine Int.le_trans (ih hm') (plS_mono hm' ?_)
  split
  ·have hs := hm s (by simp)
   have := alg_bd (n := a) hs.2.2.1
   have := hs.2.2.2
   omega
  ·exact Int.le_refl _
 | @cons_cons l m s h ih =>
  intro a hm
  simp only [plS]
  exact ih fun t ht => hm t (List.mem_cons_of_mem _ ht)
theorem atK_kee {o : Objt} {l : List Int} {b : Int} (ho : objB o = true) : ∀ n, atK [keeO o l] b n ≤ atK [o] b n := by
 intro n
 induction n with
 | zero => exact Int.le_refl _
 | succ n ih =>
  simp only [atK, plO]
  show plS _ ((kSl l o.sects 0).map _) _ ≤ _
  rw [plS_re]
  refine Int.le_trans (plS_sub kSl_sub (objB_secs ho)) (plS_mono (objB_secs ho) (alg_mono al8_8 ih))
theorem kee_link {o : Objt} {l : List Int} {b : Int} (h1 : (link [o] b).2 = 0) (h2 : (link [keeV o l] b).2 = 0) (hk : keeOk o l = true) : (link [keeV o l] b).1.bytes.length ≤ (link [o] b).1.bytes.length := by
 obtain ⟨x, _, _, _, _, e, hx⟩ := link_good h1
 obtain ⟨y, _, _, _, _, e', hy⟩ := link_good h2
 have ho : objB o = true := by simp only [keeOk, Bool.and_eq_true] at hk; exact hk.1
 have := atK_kee (l := l) (b := b) ho 3
 rw [e, e']
 simp only
 rw [keeV, if_pos hk] at hy
 omega
end Go.Proofs.Ytpgglbnagphgoaa
