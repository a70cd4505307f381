/- How Go's data stand in memory: words for a value that reads as a list, a struct, a number; how they are kept. No program is in sight. -/
import Derived.WalkKit
import Derived.WalkSpells
import Derived.Handy
import Derived.BigQuiet
import Derived.Deep.QuietTactic
import Derived.Deep.Draws
import Derived.Maps.AppendAt
import Derived.Laws.CopyOwn
import Derived.Lib.Hide
namespace Go.Proofs.Ythdekdghhppkgaa
open Go.RowKit

/-- The one cell of a flat value. -/
class Flat (α : Type) where
  enc : α → Value
  ok : α → Prop
  one : ∀ x, (enc x).oneCell' = true

/-- How data of a Lean type stand in memory: how many cells; 'rep': these cells read as that datum, all memory that is read lies in blocks of F; 'own': they own the blocks of the list, each once. -/
class Mem (α : Type) where
  ty : TypeId
  sz : Nat
  rep : World → (Nat → Prop) → List Value → α → Prop
  own : World → List Nat → List Value → α → Prop
  rep_len : ∀ {w F cs x}, rep w F cs x → cs.length = sz
  rep_one : ∀ {w F cs x}, rep w F cs x → ∀ u ∈ cs, u.oneCell' = true
  rep_mono : ∀ {w w' F F' cs x}, (∀ b, F b → b < w.heap.size → w'.heap[b]? = w.heap[b]?) → (∀ b, F b → F' b) → w.heap.size ≤ w'.heap.size → rep w F cs x → rep w' F' cs x
  own_rep : ∀ {w l cs x}, own w l cs x → rep w (· ∈ l) cs x
  own_mono : ∀ {w w' l cs x}, (∀ b ∈ l, w'.heap[b]? = w.heap[b]?) → own w l cs x → own w' l cs x
  own_lt : ∀ {w l cs x}, own w l cs x → ∀ b ∈ l, b < w.heap.size
  own_nodup : ∀ {w l cs x}, own w l cs x → l.Nodup

open Mem (rep own)

section flat
variable {α : Type}
/-- A flat type: one cell, no memory besides. -/
@[reducible] def Mem.flat (ty : TypeId) (F : Flat α) : Mem α where
  ty := ty
  sz := 1
  rep := fun _ _ cs x => cs = [F.enc x] ∧ F.ok x
  own := fun _ l cs x => l = [] ∧ cs = [F.enc x] ∧ F.ok x
  rep_len := fun h => by rw [h.1]; rfl
  rep_one := fun h u hu => by rw [h.1] at hu; simp at hu; rw [hu]; exact F.one _
  rep_mono := fun _ _ _ h => h
  own_rep := fun h => h.2
  own_mono := fun _ h => h
  own_lt := fun h b hb => by rw [h.1] at hb; simp at hb
  own_nodup := fun h => by rw [h.1]; simp
end flat

/-- The range of Go's int. -/
def I64 (n : Int) : Prop := -9223372036854775808 ≤ n ∧ n ≤ 9223372036854775807
instance : Flat Int := ⟨fun n => .int .i64 n, I64, fun _ => rfl⟩
instance : Flat UInt8 := ⟨fun b => .int .u8 (b.toNat : Int), fun _ => True, fun _ => rfl⟩
instance : Flat Bool := ⟨fun b => .bool b, fun _ => True, fun _ => rfl⟩
instance : Flat ByteArray := ⟨fun s => .string s, fun s => s.size ≤ 9223372036854775807, fun _ => rfl⟩
instance : Mem Int := Mem.flat 3 inferInstance
instance : Mem UInt8 := Mem.flat 5 inferInstance
instance : Mem Bool := Mem.flat 4 inferInstance
instance : Mem ByteArray := Mem.flat 9 inferInstance

/-- Two parts behind one another: the cells of a struct. -/
instance Mem.prod {α β : Type} [Mem α] [Mem β] : Mem (α × β) where
  ty := 0
  sz := Mem.sz α + Mem.sz β
  rep := fun w F cs x => ∃ c1 c2, cs = c1 ++ c2 ∧ rep w F c1 x.1 ∧ rep w F c2 x.2
  own := fun w l cs x => ∃ c1 c2 l1 l2, cs = c1 ++ c2 ∧ l = l1 ++ l2 ∧ (l1 ++ l2).Nodup ∧ own w l1 c1 x.1 ∧ own w l2 c2 x.2
  rep_len := by rintro _ _ _ _ ⟨c1, c2, rfl, h1, h2⟩; simp [Mem.rep_len h1, Mem.rep_len h2]
  rep_one := by
    rintro _ _ _ _ ⟨c1, c2, rfl, h1, h2⟩ u hu
    rcases List.mem_append.1 hu with h | h
    · exact Mem.rep_one h1 u h
    · exact Mem.rep_one h2 u h
  rep_mono := by rintro _ _ _ _ _ _ hb hF hs ⟨c1, c2, rfl, h1, h2⟩; exact ⟨c1, c2, rfl, Mem.rep_mono hb hF hs h1, Mem.rep_mono hb hF hs h2⟩
  own_rep := by
    rintro w _ _ _ ⟨c1, c2, l1, l2, rfl, rfl, hn, h1, h2⟩
    exact ⟨c1, c2, rfl, Mem.rep_mono (fun _ _ _ => rfl) (fun b hb => List.mem_append.2 (.inl hb)) (Nat.le_refl _) (Mem.own_rep h1), Mem.rep_mono (fun _ _ _ => rfl) (fun b hb => List.mem_append.2 (.inr hb)) (Nat.le_refl _) (Mem.own_rep h2)⟩
  own_mono := by
    rintro _ _ _ _ _ hb ⟨c1, c2, l1, l2, rfl, rfl, hn, h1, h2⟩
    exact ⟨c1, c2, l1, l2, rfl, rfl, hn, Mem.own_mono (fun b h => hb b (List.mem_append.2 (.inl h))) h1, Mem.own_mono (fun b h => hb b (List.mem_append.2 (.inr h))) h2⟩
  own_lt := by
    rintro _ _ _ _ ⟨c1, c2, l1, l2, rfl, rfl, hn, h1, h2⟩ b hb
    rcases List.mem_append.1 hb with h | h
    · exact Mem.own_lt h1 b h
    · exact Mem.own_lt h2 b h
  own_nodup := by rintro _ _ _ _ ⟨c1, c2, l1, l2, rfl, rfl, hn, h1, h2⟩; exact hn

/-- A struct: by its parts, under a type's number of its own. -/
@[reducible] def Mem.via {α β : Type} (ty : TypeId) (f : α → β) (M : Mem β) : Mem α where
  ty := ty
  sz := M.sz
  rep := fun w F cs x => M.rep w F cs (f x)
  own := fun w l cs x => M.own w l cs (f x)
  rep_len := M.rep_len
  rep_one := M.rep_one
  rep_mono := M.rep_mono
  own_rep := M.own_rep
  own_mono := M.own_mono
  own_lt := M.own_lt
  own_nodup := M.own_nodup

section lists
variable {α : Type} [Mem α]

/-- A row of cells reads as a list, element behind element. -/
inductive RepCells (w : World) (F : Nat → Prop) : List Value → List α → Prop
  | nil : RepCells w F [] []
  | cons {c cs : List Value} {x : α} {xs : List α} : rep w F c x → RepCells w F cs xs → RepCells w F (c ++ cs) (x :: xs)
/-- The like, each element owning blocks of its own. -/
inductive OwnCells (w : World) : List Nat → List Value → List α → Prop
  | nil : OwnCells w [] [] []
  | cons {l ls : List Nat} {c cs : List Value} {x : α} {xs : List α} : own w l c x → OwnCells w ls cs xs → (l ++ ls).Nodup → OwnCells w (l ++ ls) (c ++ cs) (x :: xs)

variable {w w' : World} {F F' : Nat → Prop} {l : List Nat} {cs : List Value} {xs : List α}

theorem RepCells.len (h : RepCells w F cs xs) : cs.length = xs.length * Mem.sz α := by
  induction h with
  | nil => simp
  | cons h1 _ ih => simp [Mem.rep_len h1, ih, Nat.succ_mul]; omega
theorem RepCells.one (h : RepCells w F cs xs) : ∀ u ∈ cs, u.oneCell' = true := by
  induction h with
  | nil => intro u hu; cases hu
  | cons h1 _ ih =>
    intro u hu
    rcases List.mem_append.1 hu with h | h
    · exact Mem.rep_one h1 u h
    · exact ih u h
theorem RepCells.mono (hb : ∀ b, F b → b < w.heap.size → w'.heap[b]? = w.heap[b]?) (hF : ∀ b, F b → F' b) (hs : w.heap.size ≤ w'.heap.size) (h : RepCells w F cs xs) : RepCells w' F' cs xs := by
  induction h with
  | nil => exact .nil
  | cons h1 _ ih => exact .cons (Mem.rep_mono hb hF hs h1) ih
theorem RepCells.append {cs' : List Value} {xs' : List α} (h : RepCells w F cs xs) (h' : RepCells w F cs' xs') : RepCells w F (cs ++ cs') (xs ++ xs') := by
  induction h with
  | nil => exact h'
  | cons h1 _ ih => rw [List.append_assoc]; exact .cons h1 ih
theorem RepCells.one_ {c : List Value} {x : α} (h : rep w F c x) : RepCells w F c [x] := by
  have := RepCells.cons h (.nil : RepCells w F [] [])
  simpa using this
/-- The element i lies at i times the element's cells. -/
theorem RepCells.at_ (h : RepCells w F cs xs) (i : Nat) (hi : i < xs.length) : ∃ ecs, rep w F ecs xs[i] ∧ ∀ j u, ecs[j]? = some u → cs[i * Mem.sz α + j]? = some u := by
  induction h generalizing i with
  | nil => simp at hi
  | @cons c cs x xs h1 _ ih =>
    have hl := Mem.rep_len h1
    cases i with
    | zero =>
      refine ⟨c, h1, fun j u hu => ?_⟩
      have : j < c.length := (List.getElem?_eq_some_iff.1 hu).1
      simp only [Nat.zero_mul, Nat.zero_add]
      rw [List.getElem?_append_left this]; exact hu
    | succ i =>
      obtain ⟨ecs, he, hc⟩ := ih i (by simpa using hi)
      refine ⟨ecs, by simpa using he, fun j u hu => ?_⟩
      rw [List.getElem?_append_right (by rw [hl, Nat.succ_mul]; omega), ← hc j u hu]
      congr 1
      rw [hl, Nat.succ_mul]; omega
theorem RepCells.drop (h : RepCells w F cs xs) (k : Nat) : RepCells w F (cs.drop (k * Mem.sz α)) (xs.drop k) := by
  induction h generalizing k with
  | nil => simp; exact .nil
  | @cons c cs x xs h1 h2 ih =>
    cases k with
    | zero => simp; exact .cons h1 h2
    | succ k =>
      have hl := Mem.rep_len h1
      have := ih k
      rw [show (k + 1) * Mem.sz α = c.length + k * Mem.sz α from by rw [hl, Nat.succ_mul]; omega]
      simpa [List.drop_append, List.drop_of_length_le] using this
theorem RepCells.take (h : RepCells w F cs xs) (k : Nat) : RepCells w F (cs.take (k * Mem.sz α)) (xs.take k) := by
  induction h generalizing k with
  | nil => simp; exact .nil
  | @cons c cs x xs h1 h2 ih =>
    cases k with
    | zero => simp; exact .nil
    | succ k =>
      have hl := Mem.rep_len h1
      have := RepCells.cons h1 (ih k)
      rw [show (k + 1) * Mem.sz α = c.length + k * Mem.sz α from by rw [hl, Nat.succ_mul]; omega]
      simpa [List.take_append, List.take_of_length_le] using this

theorem OwnCells.nodup (h : OwnCells w l cs xs) : l.Nodup := by
  cases h with
  | nil => simp
  | cons _ _ hn => exact hn
theorem OwnCells.lt (h : OwnCells w l cs xs) : ∀ b ∈ l, b < w.heap.size := by
  induction h with
  | nil => intro b hb; cases hb
  | cons h1 _ _ ih =>
    intro b hb
    rcases List.mem_append.1 hb with h | h
    · exact Mem.own_lt h1 b h
    · exact ih b h
theorem OwnCells.rep_ (h : OwnCells w l cs xs) : RepCells w (· ∈ l) cs xs := by
  induction h with
  | nil => exact .nil
  | cons h1 _ _ ih => exact .cons (Mem.rep_mono (fun _ _ _ => rfl) (fun b hb => List.mem_append.2 (.inl hb)) (Nat.le_refl _) (Mem.own_rep h1)) (ih.mono (fun _ _ _ => rfl) (fun b hb => List.mem_append.2 (.inr hb)) (Nat.le_refl _))
theorem OwnCells.mono (hb : ∀ b ∈ l, w'.heap[b]? = w.heap[b]?) (h : OwnCells w l cs xs) : OwnCells w' l cs xs := by
  induction h with
  | nil => exact .nil
  | cons h1 _ hn ih => exact .cons (Mem.own_mono (fun b h => hb b (List.mem_append.2 (.inl h))) h1) (ih (fun b h => hb b (List.mem_append.2 (.inr h)))) hn
theorem OwnCells.len (h : OwnCells w l cs xs) : cs.length = xs.length * Mem.sz α := h.rep_.len
theorem OwnCells.append {l' : List Nat} {cs' : List Value} {xs' : List α} (h : OwnCells w l cs xs) (h' : OwnCells w l' cs' xs') (hn : (l ++ l').Nodup) : OwnCells w (l ++ l') (cs ++ cs') (xs ++ xs') := by
  induction h with
  | nil => exact h'
  | cons h1 h2 hn1 ih =>
    rw [List.append_assoc] at hn
    rw [List.append_assoc, List.append_assoc]
    refine .cons h1 (ih ?_) hn
    exact (List.nodup_append.1 hn).2.1
theorem OwnCells.one_ {c : List Value} {x : α} (h : own w l c x) : OwnCells w l c [x] := by
  have := OwnCells.cons h (.nil : OwnCells w [] [] ([] : List α)) (by simpa using Mem.own_nodup h)
  simpa using this
end lists

/-- A slice: where it is not empty it lies in a block of F. -/
def RepAt {α : Type} [Mem α] (w : World) (F : Nat → Prop) (A : Option Addr) (xs : List α) : Prop :=
  xs ≠ [] → ∃ b off, A = some ⟨b, off, none⟩ ∧ F b ∧ b < w.heap.size ∧ ∃ cs, RepCells w F cs xs ∧ ∀ j u, cs[j]? = some u → w.cell? ⟨b, off + j, none⟩ = some u

theorem RepAt.mono {α : Type} [Mem α] {w w' : World} {F F' : Nat → Prop} {A : Option Addr} {xs : List α} (hb : ∀ b, F b → b < w.heap.size → w'.heap[b]? = w.heap[b]?) (hF : ∀ b, F b → F' b) (hs : w.heap.size ≤ w'.heap.size)
    (h : RepAt w F A xs) : RepAt w' F' A xs := fun hne => by
  obtain ⟨b, off, rfl, hf, hlt, cs, hr, hc⟩ := h hne
  refine ⟨b, off, rfl, hF b hf, Nat.lt_of_lt_of_le hlt hs, cs, hr.mono hb hF hs, fun j u hu => ?_⟩
  rw [World.cell?_of_block (w := w) (hb b hf hlt)]
  exact hc j u hu

/-- A slice. 'own': nil, or a whole block from its head on, not frozen; the elements own the other blocks. -/
instance Mem.list {α : Type} [Mem α] : Mem (List α) where
  ty := 0
  sz := 1
  rep := fun w F cs xs => ∃ A c, cs = [.slice A xs.length c] ∧ xs.length ≤ c ∧ c ≤ 9223372036854775807 ∧ RepAt w F A xs
  own := fun w l cs xs => ∃ v ccs lb ls, cs = [v] ∧ w.ownsRow 0 (Mem.ty α) (Mem.sz α) v xs.length ccs ∧ lb = v.ownBlock.toList ∧ OwnCells w ls ccs xs ∧ l = lb ++ ls ∧ l.Nodup
  rep_len := by rintro _ _ _ _ ⟨A, c, rfl, _⟩; rfl
  rep_one := by rintro _ _ _ _ ⟨A, c, rfl, _⟩ u hu; simp at hu; rw [hu]; rfl
  rep_mono := by rintro _ _ _ _ _ _ hb hF hs ⟨A, c, rfl, h1, h2, h3⟩; exact ⟨A, c, rfl, h1, h2, h3.mono hb hF hs⟩
  own_rep := by
    rintro w _ _ xs ⟨v, ccs, lb, ls, rfl, ho, rfl, hc, rfl, hn⟩
    obtain ⟨hlen, h | ⟨g, cap, cur, rfl, _, hg, hle, hcap, hcs, htk⟩⟩ := ho
    · obtain ⟨rfl, h0⟩ := h
      have : xs = [] := List.eq_nil_of_length_eq_zero h0
      subst this
      exact ⟨none, 0, rfl, Nat.le_refl _, by omega, fun h => absurd rfl h⟩
    · refine ⟨_, _, rfl, hle, by simpa [maxLen] using hcap, fun _ => ⟨g, 0, rfl, by simp [Value.ownBlock], ?_, ccs, hc.rep_.mono (fun _ _ _ => rfl) (fun b hb => List.mem_append.2 (.inr hb)) (Nat.le_refl _), fun j u hu => ?_⟩⟩
      · exact (Array.getElem?_eq_some_iff.1 hg).1
      · rw [Nat.zero_add, cell_of_row w g j cur _ (0, 0) hg]
        rw [← htk, List.getElem?_take] at hu
        split at hu
        · simpa using hu
        · cases hu
  own_mono := by
    rintro w w' _ _ _ hb ⟨v, ccs, lb, ls, rfl, ho, rfl, hc, rfl, hn⟩
    refine ⟨v, ccs, _, ls, rfl, ?_, rfl, hc.mono (fun b h => hb b (List.mem_append.2 (.inr h))), rfl, hn⟩
    obtain ⟨hlen, h | ⟨g, cap, cur, rfl, h0, hg, hr⟩⟩ := ho
    · exact ⟨hlen, .inl h⟩
    · exact ⟨hlen, .inr ⟨g, cap, cur, rfl, h0, by rw [hb g (by simp [Value.ownBlock])]; exact hg, hr⟩⟩
  own_lt := by
    rintro _ _ _ _ ⟨v, ccs, lb, ls, rfl, ho, rfl, hc, rfl, hn⟩ b hb
    rcases List.mem_append.1 hb with h | h
    · exact (ho.lt b (by simpa using h)).2
    · exact hc.lt b h
  own_nodup := by rintro _ _ _ _ ⟨v, ccs, lb, ls, rfl, ho, rfl, hc, rfl, hn⟩; exact hn

section
variable {α : Type} [Mem α] {w w' : World} {F F' : Nat → Prop} {xs : List α}
/-- A slice that reads as a list: its value's form. -/
theorem rep_list {cs : List Value} (h : rep w F cs xs) : ∃ A c, cs = [.slice A xs.length c] ∧ xs.length ≤ c ∧ c ≤ 9223372036854775807 ∧ RepAt w F A xs := h
theorem rep_slice {A : Option Addr} {n c : Nat} (h : rep w F [.slice A n c] xs) : n = xs.length ∧ n ≤ c ∧ c ≤ 9223372036854775807 ∧ RepAt w F A xs := by
  obtain ⟨A', c', e, h1, h2, h3⟩ := rep_list h
  injection e with e1 _
  injection e1 with e1 e2 e3
  subst e1 e2 e3
  exact ⟨rfl, h1, h2, h3⟩
theorem rep_mk {A : Option Addr} {c : Nat} (h1 : xs.length ≤ c) (h2 : c ≤ 9223372036854775807) (h3 : RepAt w F A xs) : rep w F [.slice A xs.length c] xs := ⟨A, c, rfl, h1, h2, h3⟩
/-- The element i: its cells. -/
theorem RepAt.at_ {A : Option Addr} (h : RepAt w F A xs) (i : Nat) (hi : i < xs.length) : ∃ b off ecs, A = some ⟨b, off, none⟩ ∧ F b ∧ b < w.heap.size ∧ rep w F ecs xs[i] ∧ ∀ j u, ecs[j]? = some u → w.cell? ⟨b, off + i * Mem.sz α + j, none⟩ = some u := by
  obtain ⟨b, off, rfl, hf, hlt, cs, hr, hc⟩ := h (by rintro rfl; simp at hi)
  obtain ⟨ecs, he, hx⟩ := hr.at_ i hi
  exact ⟨b, off, ecs, rfl, hf, hlt, he, fun j u hu => by rw [Nat.add_assoc]; exact hc _ _ (hx j u hu)⟩
theorem RepAt.drop {A : Option Addr} (h : RepAt w F A xs) (k : Nat) (hk : k < xs.length) : ∃ b off, A = some ⟨b, off, none⟩ ∧ RepAt w F (some ⟨b, off + k * Mem.sz α, none⟩) (xs.drop k) := by
  obtain ⟨b, off, rfl, hf, hlt, cs, hr, hc⟩ := h (by rintro rfl; simp at hk)
  refine ⟨b, off, rfl, fun _ => ⟨b, _, rfl, hf, hlt, _, hr.drop k, fun j u hu => ?_⟩⟩
  rw [Nat.add_assoc]
  rw [List.getElem?_drop] at hu
  exact hc _ _ hu
theorem RepAt.take {A : Option Addr} (h : RepAt w F A xs) (k : Nat) : RepAt w F A (xs.take k) := fun hne => by
  obtain ⟨b, off, rfl, hf, hlt, cs, hr, hc⟩ := h (by rintro rfl; simp at hne)
  refine ⟨b, off, rfl, hf, hlt, _, hr.take k, fun j u hu => hc j u ?_⟩
  rw [List.getElem?_take] at hu
  split at hu
  · exact hu
  · cases hu
theorem RepAt.nil_ {A : Option Addr} : RepAt w F A ([] : List α) := fun h => absurd rfl h
end

/-- Of what was there nothing has turned. -/
abbrev Ext (w w' : World) : Prop := Below w.heap.size w w'
theorem Ext.trans {a b c : World} (h : Ext a b) (k : Ext b c) : Ext a c := Below.trans h (Below.mono k h.size)
theorem Ext.alloc {a w : World} (h : Ext a w) (o : Obj) : Ext a (w.alloc o) := Below.alloc h h.size o
theorem Ext.drew {a w : World} (h : Ext a w) : Ext a w.drew := Below.drew h
theorem Ext.drewN {a w : World} (h : Ext a w) (n : Nat) : Ext a (w.drewN n) := ⟨h.os, h.tape, h.output, h.size, h.block⟩
theorem Ext.setCell {a w : World} (h : Ext a w) {p : Addr} (hp : a.heap.size ≤ p.block) (u : Value) : Ext a (w.setCell p u) := Below.setCell h hp u
theorem rep_ext {α : Type} [Mem α] {w w' : World} {F : Nat → Prop} {cs : List Value} {x : α} (h : rep w F cs x) (hb : Ext w w') : rep w' F cs x :=
  Mem.rep_mono (fun b _ hlt => hb.block b hlt) (fun _ h => h) hb.size h
theorem own_ext {α : Type} [Mem α] {w w' : World} {l : List Nat} {cs : List Value} {x : α} (h : own w l cs x) (hb : Ext w w') : own w' l cs x :=
  Mem.own_mono (fun b hm => hb.block b (Mem.own_lt h b hm)) h
theorem RepAt.ext {α : Type} [Mem α] {w w' : World} {F : Nat → Prop} {A : Option Addr} {xs : List α} (h : RepAt w F A xs) (hb : Ext w w') : RepAt w' F A xs :=
  h.mono (fun b _ hlt => hb.block b hlt) (fun _ h => h) hb.size

theorem cell_ext {w w' : World} {a : Addr} {v : Value} (hb : Ext w w') (h : w.cell? a = some v) : w'.cell? a = some v := (hb.cell (World.block_lt_of_cell? _ _ h)).trans h
theorem lt_ext {w w' : World} {n : Nat} (hb : Ext w w') (h : n < w.heap.size) : n < w'.heap.size := Nat.lt_of_lt_of_le h hb.size
@[simp] theorem size_drewN_ (w : World) (n : Nat) : (w.drewN n).heap.size = w.heap.size := rfl
/-- What the walk wants of a world behind a call that turned nothing. -/
theorem bcell {W w1 : World} (hb : Ext W w1) : (∀ b o, b < W.heap.size → w1.cell? ⟨b, o, none⟩ = W.cell? ⟨b, o, none⟩) ∧ (∀ b o, b < W.heap.size → w1.frozen? ⟨b, o, none⟩ = W.frozen? ⟨b, o, none⟩) ∧ W.heap.size ≤ w1.heap.size :=
  ⟨fun b o h => hb.cell (p := ⟨b, o, none⟩) h, fun b o h => hb.frozen (p := ⟨b, o, none⟩) h, hb.size⟩

/-- A value that a call has made: its memory lies from block lo on, each block once. -/
def New {α : Type} [Mem α] (lo : Nat) (w : World) (cs : List Value) (x : α) : Prop := ∃ l, own w l cs x ∧ ∀ b ∈ l, lo ≤ b
section
variable {α : Type} [Mem α] {lo lo' : Nat} {w w' : World} {cs : List Value} {x : α}
theorem New.rep_ (h : New lo w cs x) : rep w (fun b => lo ≤ b) cs x := by
  obtain ⟨l, ho, hl⟩ := h
  exact Mem.rep_mono (fun _ _ _ => rfl) hl (Nat.le_refl _) (Mem.own_rep ho)
theorem New.ext (h : New lo w cs x) (hb : Ext w w') : New lo w' cs x := by
  obtain ⟨l, h1, h2⟩ := h
  exact ⟨l, own_ext h1 hb, h2⟩
theorem New.setCell (h : New lo w cs x) {p : Addr} (hp : p.block < lo) (u : Value) : New lo (w.setCell p u) cs x := by
  obtain ⟨l, h1, h2⟩ := h
  exact ⟨l, Mem.own_mono (fun b hm => Below.heap_setCell _ _ _ _ (by have := h2 b hm; omega)) h1, h2⟩
theorem New.alloc (h : New lo w cs x) (o : Obj) : New lo (w.alloc o) cs x := h.ext (Ext.alloc (Below.refl _ _) o)
theorem New.drew (h : New lo w cs x) : New lo w.drew cs x := h.ext (Ext.drew (Below.refl _ _))
theorem New.drewN (h : New lo w cs x) (n : Nat) : New lo (w.drewN n) cs x := h.ext (Ext.drewN (Below.refl _ _) n)
theorem New.less (h : New lo w cs x) (hb : lo' ≤ lo) : New lo' w cs x := by
  obtain ⟨l, h1, h2⟩ := h
  exact ⟨l, h1, fun b hm => Nat.le_trans hb (h2 b hm)⟩
end

theorem ret_int {k : IntKind} {a b : Int} (h : a = b) : Ending.returned (.int k a) = .returned (.int k b) := by rw [h]
theorem ret_bool {a b : Bool} (h : a = b) : Ending.returned (.bool a) = .returned (.bool b) := by rw [h]


/-- Cells written behind one another. -/
def stores (w : World) (g : Nat) : Nat → List Value → World
  | _, [] => w
  | off, c :: cs => stores (w.setCell ⟨g, off, none⟩ c) g (off + 1) cs
theorem splice_cons {α : Type} (xs : List α) (off : Nat) (c : α) (cs : List α) (h : off < xs.length) : splice (xs.set off c) (off + 1) cs = splice xs off (c :: cs) := by
  simp only [splice, List.length_cons]
  rw [List.drop_set_of_lt (by omega), show off + 1 + cs.length = off + (cs.length + 1) from by omega]
  rw [List.take_succ_eq_append_getElem (by simpa using h)]
  simp [List.take_set_of_le]
theorem ownsRow_stores {base e size g n cap : Nat} {cs : List Value} : ∀ {w : World} {xs : List Value} {off : Nat}, w.ownsRow base e size (.slice (some ⟨g, 0, none⟩) n cap) n xs → off + cs.length ≤ xs.length →
    (stores w g off cs).ownsRow base e size (.slice (some ⟨g, 0, none⟩) n cap) n (splice xs off cs) ∧ w.grownBy (stores w g off cs) (some g) := by
  induction cs with
  | nil =>
    intro w xs off h hl
    refine ⟨?_, World.grownBy.refl _ _⟩
    simp only [splice, stores, List.nil_append, List.length_nil, Nat.add_zero, List.take_append_drop]
    exact h
  | cons c cs ih =>
    intro w xs off h hl
    simp only [List.length_cons] at hl
    obtain ⟨h1, h2⟩ := h.stored off c
    obtain ⟨h3, h4⟩ := ih (off := off + 1) h1 (by simp; omega)
    rw [splice_cons xs off c cs (by omega)] at h3
    exact ⟨h3, h2.trans h4⟩
theorem splice_mid {α : Type} {d r : List α} {k : Nat} {cs : List α} (hd : d.length = k) : splice (d ++ r) k cs = d ++ cs ++ r.drop cs.length := by
  subst hd
  simp [splice, List.drop_append, List.drop_of_length_le]
theorem Ext.grown {a w w' : World} {row : Option Nat} (h : Ext a w) (hg : w.grownBy w' row) (hr : ∀ k, row = some k → a.heap.size ≤ k) : Ext a w' := Below.grown h hg h.size hr
theorem own_grown {α : Type} [Mem α] {w w' : World} {row : Option Nat} {l : List Nat} {cs : List Value} {x : α} (h : own w l cs x) (hg : w.grownBy w' row) (hr : ∀ k, row = some k → k ∉ l) : own w' l cs x :=
  Mem.own_mono (fun b hm => hg.block b (Mem.own_lt h b hm) (fun e => hr b e.symm hm)) h
theorem OwnCells.grown {α : Type} [Mem α] {w w' : World} {row : Option Nat} {l : List Nat} {cs : List Value} {xs : List α} (h : OwnCells w l cs xs) (hg : w.grownBy w' row) (hr : ∀ k, row = some k → k ∉ l) : OwnCells w' l cs xs :=
  h.mono (fun b hm => hg.block b (h.lt b hm) (fun e => hr b e.symm hm))
theorem OwnCells.ext {α : Type} [Mem α] {w w' : World} {l : List Nat} {cs : List Value} {xs : List α} (h : OwnCells w l cs xs) (hb : Ext w w') : OwnCells w' l cs xs :=
  h.mono (fun b hm => hb.block b (h.lt b hm))
theorem ownsRow_ext {base e size n : Nat} {v : Value} {xs : List Value} {w w' : World} (h : w.ownsRow base e size v n xs) (hb : Ext w w') : w'.ownsRow base e size v n xs :=
  h.kept (row := none) ⟨hb.os, hb.tape, hb.output, hb.size, fun k hk _ => hb.block k hk⟩ (by cases v.ownBlock <;> simp)
/-- A slice of the call's own, its row and its elements. -/
theorem own_list_mk {α : Type} [Mem α] {w : World} {v : Value} {ccs : List Value} {xs : List α} {ls : List Nat} (ho : w.ownsRow 0 (Mem.ty α) (Mem.sz α) v xs.length ccs) (hc : OwnCells w ls ccs xs) (hn : (v.ownBlock.toList ++ ls).Nodup) :
    own w (v.ownBlock.toList ++ ls) [v] xs := ⟨v, ccs, _, ls, rfl, ho, rfl, hc, rfl, hn⟩
/-- Flat elements own nothing. -/
theorem ownCells_u8 {w : World} (xs : List UInt8) : OwnCells w [] (xs.map Flat.enc) xs := by
  induction xs with
  | nil => exact .nil
  | cons x xs ih => exact .cons (l := []) (c := [Flat.enc x]) ⟨rfl, rfl, trivial⟩ ih (by simp)
theorem ownCells_int {w : World} (xs : List Int) (h : ∀ x ∈ xs, I64 x) : OwnCells w [] (xs.map Flat.enc) xs := by
  induction xs with
  | nil => exact .nil
  | cons x xs ih => exact .cons (l := []) (c := [Flat.enc x]) ⟨rfl, rfl, h x (List.mem_cons_self ..)⟩ (ih fun y hy => h y (List.mem_cons_of_mem _ hy)) (by simp)
theorem ownCells_str {w : World} (xs : List ByteArray) (h : ∀ x ∈ xs, x.size ≤ 9223372036854775807) : OwnCells w [] (xs.map Flat.enc) xs := by
  induction xs with
  | nil => exact .nil
  | cons x xs ih => exact .cons (l := []) (c := [Flat.enc x]) ⟨rfl, rfl, h x (List.mem_cons_self ..)⟩ (ih fun y hy => h y (List.mem_cons_of_mem _ hy)) (by simp)
theorem ownCells_bool {w : World} (xs : List Bool) : OwnCells w [] (xs.map Flat.enc) xs := by
  induction xs with
  | nil => exact .nil
  | cons x xs ih => exact .cons (l := []) (c := [Flat.enc x]) ⟨rfl, rfl, trivial⟩ ih (by simp)
/-- A flat list's cells. -/
theorem own_flat_cells {w : World} {α : Type} [M : Mem α] {enc : α → Value} (he : ∀ l cs (x : α), own w l cs x → l = [] ∧ cs = [enc x]) {ls : List Nat} {cs : List Value} {xs : List α} (h : OwnCells w ls cs xs) : ls = [] ∧ cs = xs.map enc := by
  induction h with
  | nil => exact ⟨rfl, rfl⟩
  | cons h1 _ _ ih =>
    obtain ⟨rfl, rfl⟩ := he _ _ _ h1
    obtain ⟨rfl, rfl⟩ := ih
    exact ⟨rfl, rfl⟩
end Go.Proofs.Ythdekdghhppkgaa
