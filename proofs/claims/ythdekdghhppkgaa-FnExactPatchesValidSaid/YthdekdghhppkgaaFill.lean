/- A row that is made whole and then filled element by element. No program is in sight. -/
import Derived.Test.YthdekdghhppkgaaBase
namespace Go.Proofs.Ythdekdghhppkgaa
open Go.RowKit
open Mem (rep own)

theorem ownsRow_zero {lo e size n : Nat} {v : Value} {xs : List Value} {w : World} (h : w.ownsRow lo e size v n xs) : w.ownsRow 0 e size v n xs := by
  obtain ⟨h1, h2 | ⟨g, cap, cur, hv, _, hr⟩⟩ := h
  · exact ⟨h1, .inl h2⟩
  · exact ⟨h1, .inr ⟨g, cap, cur, hv, Nat.zero_le _, hr⟩⟩
/-- A list made by the call out of its row and its elements. -/
theorem new_list {α : Type} [Mem α] {lo : Nat} {w : World} {v : Value} {ccs : List Value} {xs : List α} {ls : List Nat} (ho : w.ownsRow lo (Mem.ty α) (Mem.sz α) v xs.length ccs) (hc : OwnCells w ls ccs xs)
    (hlo : ∀ b ∈ ls, lo ≤ b) (hn : ∀ b, v.ownBlock = some b → b ∉ ls) : New lo w [v] xs := by
  refine ⟨_, own_list_mk (ownsRow_zero ho) hc ?_, fun b hb => ?_⟩
  · rw [List.nodup_append]
    refine ⟨by cases v.ownBlock <;> simp, hc.nodup, fun a ha b hb e => ?_⟩
    subst e
    exact hn a (by simpa using ha) hb
  · rcases List.mem_append.1 hb with h | h
    · exact (ho.lt b (by simpa using h)).1
    · exact hlo b h
theorem new_flat {α : Type} [Mem α] {lo : Nat} {w : World} {v : Value} {ccs : List Value} {xs : List α} (ho : w.ownsRow lo (Mem.ty α) (Mem.sz α) v xs.length ccs) (hc : OwnCells w [] ccs xs) : New lo w [v] xs :=
  new_list ho hc (by simp) (by simp)

/-- Row g of n elements, made whole: the first ones are xs, the rest the zero cells Z. -/
def Fill {α : Type} [Mem α] (w : World) (g lo n : Nat) (Z : List Value) (xs : List α) : Prop :=
  ∃ ls cs, w.ownsRow lo (Mem.ty α) (Mem.sz α) (.slice (some ⟨g, 0, none⟩) n n) n (cs ++ Z.drop (xs.length * Mem.sz α)) ∧ OwnCells w ls cs xs ∧ (∀ b ∈ ls, lo ≤ b ∧ b ≠ g) ∧ Z.length = n * Mem.sz α
section
variable {α : Type} [Mem α] {w w' wr w1 : World} {g lo n : Nat} {Z : List Value} {xs : List α}
theorem Fill.start (h : w.ownsRow lo (Mem.ty α) (Mem.sz α) (.slice (some ⟨g, 0, none⟩) n n) n Z) : Fill w g lo n Z ([] : List α) :=
  ⟨[], [], by simpa using h, .nil, by simp, h.1⟩
theorem Fill.ext (h : Fill w g lo n Z xs) (hb : Ext w w') : Fill w' g lo n Z xs := by
  obtain ⟨ls, cs, h1, h2, h3, h4⟩ := h
  exact ⟨ls, cs, ownsRow_ext h1 hb, h2.ext hb, h3, h4⟩
theorem Fill.lo_ (h : Fill w g lo n Z xs) : lo ≤ g ∧ g < w.heap.size := by
  obtain ⟨ls, cs, h1, _⟩ := h
  exact h1.lt g rfl
theorem Fill.cell (h : Fill w g lo n Z xs) {j : Nat} (hj : xs.length * Mem.sz α + j < n * Mem.sz α) : ∃ z, w.cell? ⟨g, xs.length * Mem.sz α + j, none⟩ = some z := by
  obtain ⟨ls, cs, h1, h2, _, h4⟩ := h
  have hl : (cs ++ Z.drop (xs.length * Mem.sz α)).length = n * Mem.sz α := h1.1
  exact ⟨_, (h1.cellAt _ hj).trans (List.getElem?_eq_getElem (by omega))⟩
theorem Fill.frozen (h : Fill w g lo n Z xs) (j : Nat) : w.frozen? ⟨g, j, none⟩ = false := by
  obtain ⟨ls, cs, h1, _⟩ := h
  exact h1.frozenAt j
theorem Fill.step {ecs : List Value} {x : α} (h : Fill wr g lo n Z xs) (hE : Ext wr w1) (hN : New wr.heap.size w1 ecs x) (hlt : xs.length < n) : Fill (stores w1 g (xs.length * Mem.sz α) ecs) g lo n Z (xs ++ [x]) := by
  have hg := h.lo_
  obtain ⟨ls, cs, h1, h2, h3, h4⟩ := h
  obtain ⟨lk, ho, hk⟩ := hN
  have hel := Mem.rep_len (Mem.own_rep ho)
  have hcl := h2.len
  have hcap : (xs.length + 1) * Mem.sz α ≤ n * Mem.sz α := Nat.mul_le_mul_right _ hlt
  rw [Nat.succ_mul] at hcap
  have hls := h2.lt
  obtain ⟨r1, r2⟩ := ownsRow_stores (off := xs.length * Mem.sz α) (cs := ecs) (ownsRow_ext h1 hE) (by
    rw [List.length_append, List.length_drop, hcl, h4, hel]; omega)
  rw [splice_mid hcl, List.drop_drop] at r1
  refine ⟨ls ++ lk, cs ++ ecs, ?_, OwnCells.append ((h2.ext hE).grown r2 (fun k e hm => ?_)) (OwnCells.one_ (own_grown ho r2 (fun k e hm => ?_))) ?_, fun b hb => ?_, h4⟩
  · rw [hel] at r1; rw [List.length_append, List.length_singleton, Nat.succ_mul]; exact r1
  · injection e with e; subst e; exact (h3 _ hm).2 rfl
  · injection e with e; subst e; have := hk _ hm; omega
  · rw [List.nodup_append]
    refine ⟨h2.nodup, Mem.own_nodup ho, fun a ha b hb e => ?_⟩
    subst e
    have := hls a ha
    have := hk a hb
    omega
  · rcases List.mem_append.1 hb with hb | hb
    · exact h3 b hb
    · have := hk b hb
      exact ⟨by omega, by omega⟩
theorem Fill.done (h : Fill w g lo n Z xs) (hn : xs.length = n) : New lo w [.slice (some ⟨g, 0, none⟩) n n] xs := by
  obtain ⟨ls, cs, h1, h2, h3, h4⟩ := h
  rw [hn, List.drop_of_length_le (by omega), List.append_nil] at h1
  refine new_list (by rw [hn]; exact h1) h2 (fun b hb => (h3 b hb).1) (fun b e hb => ?_)
  simp [Value.ownBlock] at e
  exact (h3 b hb).2 e.symm
end

/-- A block that is known whole. -/
def Blk (w : World) (g : Nat) (t : TypeId) (cs : Array Value) : Prop := w.heap[g]? = some (.cells cs t (0, 0))
theorem Blk.new (w : World) (t : TypeId) (cs : Array Value) : Blk (w.alloc (.cells cs t)) w.heap.size t cs := heap_alloc_new w _
section
variable {w w' : World} {g : Nat} {t : TypeId} {cs : Array Value}
theorem Blk.lt (h : Blk w g t cs) : g < w.heap.size := (Array.getElem?_eq_some_iff.1 h).1
theorem Blk.cell (h : Blk w g t cs) (i : Nat) : w.cell? ⟨g, i, none⟩ = cs[i]? := cell_of_row w g i cs t (0, 0) h
theorem Blk.frozen (h : Blk w g t cs) (i : Nat) : w.frozen? ⟨g, i, none⟩ = false := frozen_of_row w g i cs t h
theorem Blk.ext (h : Blk w g t cs) (hb : Ext w w') : Blk w' g t cs := (hb.block g h.lt).trans h
theorem Blk.alloc (h : Blk w g t cs) (o : Obj) : Blk (w.alloc o) g t cs := (Below.heap_alloc w o g h.lt).trans h
theorem Blk.far (h : Blk w g t cs) {p : Addr} (hp : g ≠ p.block) (u : Value) : Blk (w.setCell p u) g t cs := (Below.heap_setCell w p u g hp).trans h
theorem Blk.set_ (h : Blk w g t cs) (i : Nat) (u : Value) : Blk (w.setCell ⟨g, i, none⟩ u) g t (cs.setIfInBounds i u) := heap_setCell_same w g i cs t u h
theorem Blk.grown {row : Option Nat} (h : Blk w g t cs) (hb : w.grownBy w' row) (hg : some g ≠ row) : Blk w' g t cs := (hb.block g h.lt hg).trans h
end
theorem Blk.two {w : World} {g : Nat} {t : TypeId} {a b : Value} (h : Blk w g t #[a, b]) :
    w.cell? ⟨g, 0, none⟩ = some a ∧ w.cell? ⟨g, 1, none⟩ = some b ∧ w.frozen? ⟨g, 0, none⟩ = false ∧ w.frozen? ⟨g, 1, none⟩ = false := ⟨h.cell 0, h.cell 1, h.frozen 0, h.frozen 1⟩
theorem Blk.three {w : World} {g : Nat} {t : TypeId} {a b c : Value} (h : Blk w g t #[a, b, c]) :
    w.cell? ⟨g, 0, none⟩ = some a ∧ w.cell? ⟨g, 1, none⟩ = some b ∧ w.cell? ⟨g, 2, none⟩ = some c ∧ w.frozen? ⟨g, 0, none⟩ = false ∧ w.frozen? ⟨g, 1, none⟩ = false ∧ w.frozen? ⟨g, 2, none⟩ = false := ⟨h.cell 0, h.cell 1, h.cell 2, h.frozen 0, h.frozen 1, h.frozen 2⟩
end Go.Proofs.Ythdekdghhppkgaa
