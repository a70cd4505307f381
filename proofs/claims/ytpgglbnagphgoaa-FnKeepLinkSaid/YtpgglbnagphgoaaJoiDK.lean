/- Objects with fewer symbols, joined objects: what they are linked to. Plain Lean. -/
import Derived.Test.YtpgglbnagphgoaaLnkDK
import Derived.Test.YtpgglbnagphgoaaUniDK
set_option linter.unusedVariables false
set_option linter.unusedSimpArgs false
namespace Go.Proofs.Ytpgglbnagphgoaa
open Go Go.RowKit

/-! Targets by symbols, not by their numbers. -/
/-! Linking in steps, by targets. -/
inductive All2 {α β : Type} (R : α → β → Prop) : List α → List β → Prop where
 | nil : All2 R [] []
 | cons {a : α} {b : β} {l : List α} {m : List β} (h : R a b) (t : All2 R l m) : All2 R (a :: l) (b :: m)
structure SameFill (pl pl' : List (List Int)) (l l' : List Objt) (k k' : Int) (s t : Sect) : Prop where
 bytes : s.bytes = t.bytes
 fix : All2 (fun f g : Fixup => f.at_ = g.at_ ∧ f.kind = g.kind ∧ f.add = g.add ∧ (syV pl l k f.to).getD 0 = (syV pl' l' k' g.to).getD 0) s.fixups t.fixups
/-! Sections whose fixups use other numbers. -/
def reF (ns : List Int) (f : Fixup) : Fixup := ⟨f.at_, f.kind, ns.getD f.to.toNat 0, f.add⟩
def reS (ns : List Int) (s : Sect) : Sect := ⟨s.name, s.kind, s.align, s.bytes, s.size, s.fixups.map (reF ns)⟩
theorem plS_re {ns : List Int} {c : Int} : ∀ {l : List Sect} {a : Int}, plS c (l.map (reS ns)) a = plS c l a := by
 intro l
 induction l with
 | nil => intro a; rfl
 | cons s l ih => intro a; simp only [List.map_cons, plS, ih]; rfl
/-! Symbols that are kept; the numbers that symbols get. -/
def kpS : List Bool → List Sym → List Sym
 | b :: p, s :: l => if b = true then s :: kpS p l else kpS p l
 | _, _ => []
def kpN : List Bool → Int → List Int
 | [], _ => []
 | b :: p, k => k :: kpN p (if b = true then k + 1 else k)
def keepO (o : Objt) (p : List Bool) : Objt := ⟨o.sects.map (reS (kpN p 0)), kpS p o.syms⟩
theorem kpS_sub : ∀ {p : List Bool} {l : List Sym}, List.Sublist (kpS p l) l := by
 intro p
 induction p with
 | nil => intro l; cases l <;> exact List.nil_sublist _
 | cons b p ih =>
  intro l
  cases l with
  | nil => exact List.nil_sublist _
  | cons t l =>
   simp only [kpS]
   split
   ·exact List.Sublist.cons_cons _ ih
   ·exact List.Sublist.cons _ ih
structure Keeps1 (o : Objt) (p : List Bool) : Prop where
 len : p.length = o.syms.length
 giv : ∀ (j : Nat) s, o.syms[j]? = some s → giveS s = true → p[j]? = some true
 use : ∀ s ∈ o.sects, ∀ f ∈ s.fixups, ∃ j : Nat, f.to = j ∧ p[j]? = some true
/-! Validity of what is kept. -/
/-! What is stripped. -/
def bits (q : Int → Sym → Bool) : List Sym → Int → List Bool
 | [], _ => []
 | s :: l, k => q k s :: bits q l (k + 1)
theorem bits_len {q : Int → Sym → Bool} : ∀ {l : List Sym} {k : Int}, (bits q l k).length = l.length := by
 intro l
 induction l with
 | nil => intro k; rfl
 | cons s l ih => intro k; simp [bits, ih]
theorem bits_get {q : Int → Sym → Bool} : ∀ {l : List Sym} {k : Int} {j : Nat}, (bits q l k)[j]? = (l[j]?).map (q (k + j)) := by
 intro l
 induction l with
 | nil => intro k j; simp [bits]
 | cons s l ih =>
  intro k j
  cases j with
  | zero => simp [bits]
  | succ j => simp only [bits, List.getElem?_cons_succ, ih]; congr 2; omega
theorem fixB_to {m b : Int} : ∀ {l : List Fixup} {e : Int}, fixB m b e l = true → ∀ f ∈ l, 0 ≤ f.to ∧ f.to < m := by
 intro l
 induction l with
 | nil => intro e _ f hf; cases hf
 | cons g l ih =>
  intro e h f hf
  simp only [fixB, Bool.and_eq_true, decide_eq_true_eq] at h
  rcases List.mem_cons.1 hf with rfl | hf
  ·exact ⟨h.1.2.1, h.1.2.2.1⟩
  ·exact ih h.2 f hf
theorem secB_to {s : Sect} {m : Int} (h : secB s m = true) : ∀ f ∈ s.fixups, 0 ≤ f.to ∧ f.to < m := by
 unfold secB at h
 simp only [Bool.and_eq_true] at h
 have h2 := h.2
 split at h2
 ·simp only [decide_eq_true_eq] at h2; rw [h2.2.2.2]; intro f hf; cases hf
 ·simp only [Bool.and_eq_true] at h2; exact fixB_to h2.2
theorem objB_to {o : Objt} (h : objB o = true) {s : Sect} (hs : s ∈ o.sects) {f : Fixup} (hf : f ∈ s.fixups) : 0 ≤ f.to ∧ f.to < o.syms.length := by
 simp only [objB, Bool.and_eq_true, List.all_eq_true] at h
 exact secB_to (h.1.2 s hs) f hf
/-! Stripped once is stripped for good. -/
/-! Joined objects. -/
def shS (n : Nat) (s : Sym) : Sym := if 0 ≤ s.wher then ⟨s.name, s.bind, s.wher + n, s.value⟩ else s
def tks (s t : Sym) : Bool := decide ((s.wher = -1 ∧ t.wher ≠ -1) ∨ ((s.wher = -1 ↔ t.wher = -1) ∧ t.bind = 1 ∧ s.bind ≠ 1))
structure Jn where
 syms : List Sym
 nums : List Int
structure JnOk (a : Objt) (l : List Sym) (st : Jn) : Prop where
 len : st.nums.length = l.length
 big : a.syms.length ≤ st.syms.length
 old : ∀ (i : Nat) s, a.syms[i]? = some s → (∃ t ∈ l, t.bind ≠ 0 ∧ t.name = s.name ∧ s.bind ≠ 0 ∧ tks s t = true ∧ st.syms[i]? = some (shS a.sects.length t)) ∨ (st.syms[i]? = some s ∧ (s.bind ≠ 0 → glo a.syms s.name = some s → ∀ t ∈ l, t.bind ≠ 0 → t.name = s.name → tks s t = false))
 num : ∀ (j : Nat) t, l[j]? = some t → ∃ m : Nat, st.nums[j]? = some (m : Int) ∧ ∃ u, st.syms[m]? = some u ∧ (t.bind = 0 → u = shS a.sects.length t) ∧ (t.bind ≠ 0 → u.bind ≠ 0 ∧ u.name = t.name)
 add : ∀ t ∈ l, (t.bind = 0 ∨ glo a.syms t.name = none) → shS a.sects.length t ∈ st.syms
 all : ∀ u ∈ st.syms, u ∈ a.syms ∨ ∃ t ∈ l, u = shS a.sects.length t
end Go.Proofs.Ytpgglbnagphgoaa
