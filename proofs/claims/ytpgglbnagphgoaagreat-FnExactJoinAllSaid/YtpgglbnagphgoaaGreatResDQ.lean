/- Names that objects give, want, miss: plain Lean. -/
import Derived.Test.YtpgglbnagphgoaaGreatObjDQ
set_option linter.unusedVariables false
set_option linter.unusedSimpArgs false
namespace Go.Proofs.YtpgglbnagphgoaaGreat
open Go Go.RowKit

theorem ixF_spec {α : Type} {p : α → Bool} : ∀ {l : List α} {k : Int}, 0 ≤ k → (ixF p l k = -1 ∧ ∀ x ∈ l, p x = false) ∨ (∃ (i : Nat) (x : α), ixF p l k = k + i ∧ l[i]? = some x ∧ p x = true) := by
 intro l
 induction l with
 | nil => intro k _; left; exact ⟨rfl, fun x hx => by cases hx⟩
 | cons x l ih =>
  intro k hk
  by_cases h : p x = true
  ·right
   exact ⟨0, x, by simp [ixF, h], rfl, h⟩
  ·rcases ih (k := k + 1) (by omega) with ⟨h1, h2⟩ | ⟨i, y, h1, h2, h3⟩
   ·left
    refine ⟨by simp only [ixF, if_neg h]; exact h1, fun y hy => ?_⟩
    rcases List.mem_cons.1 hy with rfl | hy
    ·simpa using h
    ·exact h2 y hy
   ·right
    refine ⟨i + 1, y, by simp only [ixF, if_neg h]; rw [h1]; omega, by simpa using h2, h3⟩
def symP (p : Sym → Bool) (l : List Sym) : List ByteArray := (l.filter p).map Sym.name
theorem symP_next {p : Sym → Bool} {l : List Sym} {k : Int} {x : Sym} (hk : 0 ≤ k) (h : l[k.toNat]? = some x) : symP p (l.take (k + 1).toNat) = symP p (l.take k.toNat) ++ (if p x = true then [x.name] else []) := by
 rw [toNat_succ hk, take_snoc h]
 unfold symP
 rw [List.filter_append, List.map_append]
 congr 1
 cases hp : p x <;> simp [hp]
theorem symP_len {p : Sym → Bool} {l : List Sym} : (symP p l).length ≤ l.length := by
 unfold symP; rw [List.length_map]; exact List.length_filter_le _ _
theorem symP_tlen {p : Sym → Bool} {l : List Sym} {k : Nat} : (symP p (l.take k)).length ≤ l.length := by
 refine Nat.le_trans symP_len ?_
 rw [List.length_take]; omega
theorem mem_symP {p : Sym → Bool} {l : List Sym} {n : ByteArray} : n ∈ symP p l ↔ ∃ s ∈ l, p s = true ∧ s.name = n := by
 simp [symP, and_assoc]
def wantS (s : Sym) : Bool := decide (s.wher = -1)
def giveS (s : Sym) : Bool := decide (s.wher ≠ -1 ∧ s.bind ≠ 0)
def strongS (s : Sym) : Bool := decide (s.bind = 1 ∧ s.wher ≠ -1)
def namesG (o : Objt) : List ByteArray := if objB o = true then sortU (symP giveS o.syms) else []
def flt (p : Sym → Bool) (l : List Objt) : List ByteArray := l.flatMap fun o => symP p o.syms
theorem flt_next {p : Sym → Bool} {l : List Objt} {k : Int} {o : Objt} (hk : 0 ≤ k) (h : l[k.toNat]? = some o) : flt p (l.take (k + 1).toNat) = flt p (l.take k.toNat) ++ symP p o.syms := by
 rw [toNat_succ hk, take_snoc h]
 unfold flt
 rw [List.flatMap_append]
 simp
theorem flt_all {p : Sym → Bool} {l : List Objt} {k : Int} (h : (l.length : Int) ≤ k) : flt p (l.take k.toNat) = flt p l := by rw [List.take_of_length_le (by omega)]
theorem mem_flt {p : Sym → Bool} {l : List Objt} {n : ByteArray} : n ∈ flt p l ↔ ∃ o ∈ l, ∃ s ∈ o.syms, p s = true ∧ s.name = n := by
 simp only [flt, List.mem_flatMap, mem_symP]
theorem objB_lens {o : Objt} (h : objB o = true) : o.sects.length ≤ 8 ∧ o.syms.length ≤ 12 := by
 simp only [objB, Bool.and_eq_true, decide_eq_true_eq] at h
 omega
theorem flt_len {p : Sym → Bool} : ∀ {l : List Objt}, l.all objB = true → (flt p l).length ≤ 12 * l.length := by
 intro l
 induction l with
 | nil => intro _; simp [flt]
 | cons o l ih =>
  intro h
  simp only [List.all_cons, Bool.and_eq_true] at h
  have h1 := ih h.2
  have h2 := (objB_lens h.1).2
  have h3 := symP_len (p := p) (l := o.syms)
  simp only [flt, List.flatMap_cons, List.length_append, List.length_cons] at *
  omega
theorem flt_tlen {p : Sym → Bool} {l : List Objt} (h : l.all objB = true) (k : Nat) : (flt p (l.take k)).length ≤ 12 * l.length := by
 have := flt_len (p := p) (all_take h k)
 rw [List.length_take] at this
 omega

def bdS (n : ByteArray) (b : Int) (s : Sym) : Bool := decide (s.name = n ∧ s.bind = b ∧ s.wher ≠ -1)
def fbO (n : ByteArray) (b : Int) : List Objt → Int → Option Given
 | [], _ => none
 | o :: l, k => if 0 ≤ ixF (bdS n b) o.syms 0 then some ⟨k, ixF (bdS n b) o.syms 0⟩ else fbO n b l (k + 1)
def fnd (l : List Objt) (n : ByteArray) : Option Given := (fbO n 1 l 0).or (fbO n 2 l 0)
def GivenAt (l : List Objt) (n : ByteArray) (b : Int) (g : Given) : Prop := 0 ≤ g.in_ ∧ 0 ≤ g.at_ ∧ ∃ o s, l[g.in_.toNat]? = some o ∧ o.syms[g.at_.toNat]? = some s ∧ s.name = n ∧ s.bind = b ∧ s.wher ≠ -1
/-! Names that are given twice. -/
instance decMem (x : ByteArray) (l : List ByteArray) : Decidable (x ∈ l) := decidable_of_iff (∃ y ∈ l, y = x) ⟨fun ⟨_, h, e⟩ => e ▸ h, fun h => ⟨x, h, rfl⟩⟩
def dups : List ByteArray → List ByteArray → List ByteArray
 | _, [] => []
 | met, x :: l => if x ∈ met then x :: dups (met ++ [x]) l else dups (met ++ [x]) l
theorem dups_app : ∀ (l met : List ByteArray) (x : ByteArray), dups met (l ++ [x]) = dups met l ++ (if x ∈ met ++ l then [x] else []) := by
 intro l
 induction l with
 | nil => intro met x; simp [dups]
 | cons y l ih =>
  intro met x
  simp only [List.cons_append, dups, ih]
  have e : (x ∈ met ++ [y] ++ l) = (x ∈ met ++ y :: l) := by simp
  simp only [e]
  split <;> split <;> simp
theorem dups_snoc (l : List ByteArray) (x : ByteArray) : dups [] (l ++ [x]) = dups [] l ++ (if x ∈ l then [x] else []) := by simpa using dups_app l [] x
theorem dups_len : ∀ (l met : List ByteArray), (dups met l).length ≤ l.length := by
 intro l
 induction l with
 | nil => intro met; simp [dups]
 | cons y l ih =>
  intro met
  simp only [dups]
  have := ih (met ++ [y])
  split <;> simp <;> omega
def nTw (l : List Objt) : List ByteArray := sortU (dups [] (flt strongS l))
def namesT (l : List Objt) : List ByteArray := if objsB l = true then nTw l else []
def cntB (x : ByteArray) : List ByteArray → Int
 | [] => 0
 | y :: l => (if y = x then 1 else 0) + cntB x l
theorem cntB_nn (x : ByteArray) : ∀ l, 0 ≤ cntB x l := by
 intro l
 induction l with
 | nil => simp [cntB]
 | cons y l ih => simp only [cntB]; split <;> omega
theorem cntB_pos {x : ByteArray} : ∀ {l : List ByteArray}, 0 < cntB x l ↔ x ∈ l := by
 intro l
 induction l with
 | nil => simp [cntB]
 | cons y l ih =>
  have := cntB_nn x l
  simp only [cntB, List.mem_cons]
  split
  ·subst_vars; simp; omega
  ·rename_i h
   rw [Int.zero_add, ih]
   exact ⟨.inr, fun h' => h'.resolve_left fun e => h e.symm⟩
theorem cntB_app (x : ByteArray) : ∀ (l m : List ByteArray), cntB x (l ++ m) = cntB x l + cntB x m := by
 intro l
 induction l with
 | nil => intro m; simp [cntB]
 | cons y l ih => intro m; simp only [List.cons_append, cntB, ih]; omega
theorem mem_dups {x : ByteArray} : ∀ {l met : List ByteArray}, x ∈ dups met l ↔ (0 < cntB x l ∧ 1 < cntB x met + cntB x l) := by
 intro l
 induction l with
 | nil => intro met; simp [dups, cntB]
 | cons y l ih =>
  intro met
  have h0 := cntB_nn x l
  have h1 := cntB_nn x met
  have h2 : (0 < cntB x met) ↔ x ∈ met := cntB_pos
  simp only [dups, cntB]
  have e : cntB x (met ++ [y]) = cntB x met + (if y = x then 1 else 0) := by rw [cntB_app]; simp [cntB]
  by_cases hy : y = x
  ·subst hy
   simp only [if_true] at *
   split
   ·rename_i hm
    have := h2.2 hm
    simp only [List.mem_cons, true_or, true_iff]
    omega
   ·rename_i hm
    have : ¬ 0 < cntB y met := fun h => hm (h2.1 h)
    rw [ih, e]
    omega
  ·simp only [if_neg hy] at *
   have hne : x ≠ y := fun e => hy e.symm
   split <;> simp only [List.mem_cons, hne, false_or, ih, e] <;> omega
def cntS (l : List Objt) (n : ByteArray) : Int := cntB n (flt strongS l)
def twP (l : List Objt) (n : ByteArray) : Bool := decide (1 < cntS l n)
theorem nTw_spec {l : List Objt} (h : l.all objB = true) : nTw l = sortU ((l.flatMap namesG).filter (twP l)) := by
 unfold nTw
 refine asc_ext (sortU_asc _) (sortU_asc _) fun x => ?_
 rw [mem_sortU, mem_sortU, mem_dups, List.mem_filter, List.mem_flatMap]
 have e0 : cntB x [] = 0 := rfl
 rw [e0]
 simp only [twP, cntS]
 constructor
 ·intro ⟨h1, h2⟩
  refine ⟨?_, decide_eq_true (by omega)⟩
  obtain ⟨o, ho, s, hs, hp, hn⟩ := mem_flt.1 (cntB_pos.1 h1)
  refine ⟨o, ho, ?_⟩
  rw [namesG, if_pos (List.all_eq_true.1 h o ho), mem_sortU, mem_symP]
  refine ⟨s, hs, ?_, hn⟩
  simp only [strongS, giveS, decide_eq_true_eq] at *
  omega
 ·intro ⟨_, h2⟩
  have h2 := of_decide_eq_true h2
  omega

/-! Names that are missing. -/
def missS (l : List Objt) (s : Sym) : Bool := decide (s.bind = 1 ∧ s.wher = -1) && (fnd l s.name).isNone
def nMs (l : List Objt) : List ByteArray := sortU (flt (missS l) l)
structure Gv where
 out : Given
 strong : Int
 found : Bool
def gvS (n : ByteArray) (k : Int) : List Sym → Int → Gv → Gv
 | [], _, g => g
 | s :: l, j, g => gvS n k l (j + 1) (if s.name ≠ n ∨ s.bind = 0 ∨ s.wher = -1 then g else
   ⟨if (s.bind = 1 ∧ g.strong = 0) ∨ g.found = false then ⟨k, j⟩ else g.out, if s.bind = 1 then g.strong + 1 else g.strong, true⟩)
def gvO (n : ByteArray) : List Objt → Int → Gv → Gv
 | [], _, g => g
 | o :: l, k, g => gvO n l (k + 1) (gvS n k o.syms 0 g)
def symsAt (l : List Objt) (k : Int) : List Sym := match l[k.toNat]? with | some o => o.syms | none => []
theorem symsAt_eq {l : List Objt} {k : Int} {o : Objt} (h : l[k.toNat]? = some o) : symsAt l k = o.syms := by simp [symsAt, h]
theorem symsAt_len {l : List Objt} (h : l.all objB = true) (k : Int) : (symsAt l k).length ≤ 12 := by
 unfold symsAt
 split
 ·rename_i o ho; exact (objB_lens (all_get h ho)).2
 ·simp
end Go.Proofs.YtpgglbnagphgoaaGreat
