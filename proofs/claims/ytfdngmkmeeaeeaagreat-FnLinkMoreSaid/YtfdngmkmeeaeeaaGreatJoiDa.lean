/- Objects with fewer symbols, joined objects: what they are linked to. Plain Lean. -/
import Derived.Test.YtfdngmkmeeaeeaaGreatLnkDa
import Derived.Test.YtfdngmkmeeaeeaaGreatUniDa
set_option linter.unusedVariables false
set_option linter.unusedSimpArgs false
namespace Go.Proofs.YtfdngmkmeeaeeaaGreat
open Go Go.RowKit

/-! Targets by symbols, not by their numbers. -/
/-! Linking in steps, by targets. -/
inductive All2 {α β : Type} (R : α → β → Prop) : List α → List β → Prop where
 | nil : All2 R [] []
 | cons {a : α} {b : β} {l : List α} {m : List β} (h : R a b) (t : All2 R l m) : All2 R (a :: l) (b :: m)
structure SameFill (pl pl' : List (List Int)) (l l' : List Objt) (k k' : Int) (s t : Sect) : Prop where
 bytes : s.bytes = t.bytes
 fix : All2 (fun f g : Fixup => f.at_ = g.at_ ∧ f.kind = g.kind ∧ f.add = g.add ∧ (syV pl l k f.to).getD 0 = (syV pl' l' k' g.to).getD 0) s.fixups t.fixups
theorem fxVal_same {b : List Int} {p t : Int} {f g : Fixup} (h : f.at_ = g.at_ ∧ f.kind = g.kind ∧ f.add = g.add) : fxVal b p f t = fxVal b p g t ∧ fxApp b p f t = fxApp b p g t := by
 obtain ⟨a, k, o, d⟩ := f
 obtain ⟨a', k', o', d'⟩ := g
 obtain ⟨h1, h2, h3⟩ := h
 simp only at h1 h2 h3
 subst h1; subst h2; subst h3
 exact ⟨rfl, rfl⟩
theorem fills_same {pl pl' : List (List Int)} {l l' : List Objt} {k k' p : Int} : ∀ {r r' : List Fixup} {b : List Int}, All2 (fun f g : Fixup => f.at_ = g.at_ ∧ f.kind = g.kind ∧ f.add = g.add ∧ (syV pl l k f.to).getD 0 = (syV pl' l' k' g.to).getD 0) r r' → fills pl l k p r b = fills pl' l' k' p r' b := by
 intro r
 induction r with
 | nil => intro r' b h; cases h; rfl
 | cons f r ih =>
  intro r' b h
  cases h with
  | @cons _ g _ r' h h' =>
   have e := fxVal_same (b := b) (p := p) (t := (syV pl' l' k' g.to).getD 0) ⟨h.1, h.2.1, h.2.2.1⟩
   simp only [fills, h.2.2.2, e.1, e.2, ih h']
theorem lnkS_same {pl pl' : List (List Int)} {l l' : List Objt} {base k k' : Int} : ∀ {r r' : List Sect} {i i' : Int} {out : List Int}, All2 (SameFill pl pl' l l' k k') r r' → 0 ≤ i → 0 ≤ i' → (∀ j : Nat, j < r.length → placeOf pl k (i + j) = placeOf pl' k' (i' + j)) → lnkS pl l base k r i out = lnkS pl' l' base k' r' i' out := by
 intro r
 induction r with
 | nil => intro r' i i' out h _ _ _; cases h; rfl
 | cons s r ih =>
  intro r' i i' out h hi hi' hp
  cases h with
  | cons h h' =>
   have p0 := hp 0 (by simp)
   simp only [Int.natCast_zero, Int.add_zero] at p0
   simp only [lnkS, p0, h.bytes, fills_same h.fix]
   split
   ·rfl
   ·refine ih h' (by omega) (by omega) fun j hj => ?_
    have := hp (j + 1) (by simp; omega)
    rw [show i + ((j + 1 : Nat) : Int) = i + 1 + j by omega, show i' + ((j + 1 : Nat) : Int) = i' + 1 + j by omega] at this
    exact this
theorem lnkO_app {pl : List (List Int)} {l : List Objt} {base : Int} : ∀ {r r' : List Objt} {k : Int} {out : List Int}, lnkO pl l base (r ++ r') k out = (lnkO pl l base r k out).bind fun out => lnkO pl l base r' (k + r.length) out := by
 intro r
 induction r with
 | nil => intro r' i out; simp [lnkO]
 | cons s r ih =>
  intro r' i out
  simp only [List.cons_append, lnkO]
  split
  ·rfl
  ·rw [ih, List.length_cons, show i + 1 + (r.length : Int) = i + ((r.length + 1 : Nat) : Int) by omega]
theorem lnkO_same {pl pl' : List (List Int)} {l l' : List Objt} {base : Int} : ∀ {r : List Objt} {k k' : Int} {out : List Int}, 0 ≤ k → 0 ≤ k' → (∀ (j : Nat) o, r[j]? = some o → All2 (SameFill pl pl' l l' (k + j) (k' + j)) o.sects o.sects ∧ ∀ i : Nat, placeOf pl (k + j) i = placeOf pl' (k' + j) i) → lnkO pl l base r k out = lnkO pl' l' base r k' out := by
 intro r
 induction r with
 | nil => intro k k' out _ _ _; rfl
 | cons o r ih =>
  intro k k' out hk hk' h
  have h0 := h 0 o rfl
  simp only [Int.natCast_zero, Int.add_zero] at h0
  simp only [lnkO]
  rw [lnkS_same (i := 0) (i' := 0) h0.1 (by omega) (by omega) fun j _ => by rw [Int.zero_add]; exact h0.2 j]
  split
  ·rfl
  ·refine ih (by omega) (by omega) fun j o ho => ?_
   have := h (j + 1) o (by simpa using ho)
   rw [show k + ((j + 1 : Nat) : Int) = k + 1 + j by omega, show k' + ((j + 1 : Nat) : Int) = k' + 1 + j by omega] at this
   exact this
theorem forall2_refl {α : Type} {R : α → α → Prop} : ∀ {l : List α}, (∀ x ∈ l, R x x) → All2 R l l := by
 intro l
 induction l with
 | nil => intro _; exact .nil
 | cons x l ih => intro h; exact .cons (h x (by simp)) (ih fun y hy => h y (by simp [hy]))
/-! Sections whose fixups use other numbers. -/
/-! Symbols that are kept; the numbers that symbols get. -/
structure Keeps1 (o : Objt) (p : List Bool) : Prop where
 len : p.length = o.syms.length
 giv : ∀ (j : Nat) s, o.syms[j]? = some s → giveS s = true → p[j]? = some true
 use : ∀ s ∈ o.sects, ∀ f ∈ s.fixups, ∃ j : Nat, f.to = j ∧ p[j]? = some true
/-! Validity of what is kept. -/
/-! What is stripped. -/
def bits (q : Int → Sym → Bool) : List Sym → Int → List Bool
 | [], _ => []
 | s :: l, k => q k s :: bits q l (k + 1)
/-! Stripped once is stripped for good. -/
/-! Joined objects. -/
def shS (n : Nat) (s : Sym) : Sym := if 0 ≤ s.wher then ⟨s.name, s.bind, s.wher + n, s.value⟩ else s
def tks (s t : Sym) : Bool := decide ((s.wher = -1 ∧ t.wher ≠ -1) ∨ ((s.wher = -1 ↔ t.wher = -1) ∧ t.bind = 1 ∧ s.bind ≠ 1))
structure Jn where
 syms : List Sym
 nums : List Int
structure JnOk (a : Objt) (l : List Sym) (st : Jn) : Prop where
 len : st.nums.length = l.length
 big : a.syms.length ≤ st.syms.length
 old : ∀ (i : Nat) s, a.syms[i]? = some s → (∃ t ∈ l, t.bind ≠ 0 ∧ t.name = s.name ∧ s.bind ≠ 0 ∧ tks s t = true ∧ st.syms[i]? = some (shS a.sects.length t)) ∨ (st.syms[i]? = some s ∧ (s.bind ≠ 0 → glo a.syms s.name = some s → ∀ t ∈ l, t.bind ≠ 0 → t.name = s.name → tks s t = false))
 num : ∀ (j : Nat) t, l[j]? = some t → ∃ m : Nat, st.nums[j]? = some (m : Int) ∧ ∃ u, st.syms[m]? = some u ∧ (t.bind = 0 → u = shS a.sects.length t) ∧ (t.bind ≠ 0 → u.bind ≠ 0 ∧ u.name = t.name)
 add : ∀ t ∈ l, (t.bind = 0 ∨ glo a.syms t.name = none) → shS a.sects.length t ∈ st.syms
 all : ∀ u ∈ st.syms, u ∈ a.syms ∨ ∃ t ∈ l, u = shS a.sects.length t
end Go.Proofs.YtfdngmkmeeaeeaaGreat
