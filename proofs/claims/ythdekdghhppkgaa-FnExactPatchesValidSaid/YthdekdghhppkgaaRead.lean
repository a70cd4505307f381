/- An argument that reads as data reads as a Lean datum: the step from a row's readings to 'rep'. No program is in sight. -/
import Derived.Test.YthdekdghhppkgaaBase
import Derived.ProofKit
import Derived.OpenShut
import Derived.Deep.Slices
import Derived.ChangeOld
namespace Go.Proofs.Ythdekdghhppkgaa
open Go.RowKit Go.ChangeShapes Go.WideShapes Go.Deep
open Mem (rep own)

/-- Whatever reads as data at type t is a Lean datum of type α. -/
def Reads (P : Program) (t : TypeId) (α : Type) [Mem α] : Prop :=
  ∀ (H : Type) (enc : TypeId × Value → H) (w : World) (base : Nat) (sp : Nat → Bool) (held : Bool) (fuel : Nat) (cs : List Value) (y : DataW H × List MemPlace),
    DataW.trod enc P w base sp held fuel t cs = some y → ∃ x : α, rep w (fun b => b < w.heap.size) cs x
def ReadsFs (P : Program) (fs : List Field) (off : Nat) (α : Type) [Mem α] : Prop :=
  ∀ (H : Type) (enc : TypeId × Value → H) (w : World) (base : Nat) (sp : Nat → Bool) (held : Bool) (cs : List Value),
    (∀ f ∈ fs, ∃ fuel y, DataW.trod enc P w base sp held fuel f.type ((cs.drop f.offset).take (P.cellsOf f.type)) = some y) → cs.length = off + Mem.sz α → ∃ x : α, rep w (fun b => b < w.heap.size) (cs.drop off) x

section
variable {P : Program} {t e : TypeId}
theorem wf_i64 {n : Int} (h : (Lit.int .i64 n).wf = true) : I64 n := by
  simp [Lit.wf, IntKind.min, IntKind.max, IntKind.signed, IntKind.bits] at h
  exact ⟨by omega, by omega⟩
theorem wf_mk {n : Int} (h : I64 n) : (Lit.int .i64 n).wf = true := by
  obtain ⟨h1, h2⟩ := h
  simp [Lit.wf, IntKind.min, IntKind.max, IntKind.signed, IntKind.bits]
  omega
theorem reads_int (ht : P.underlying t = some (.int .i64)) : Reads P t Int := by
  intro H enc w base sp held fuel cs y h
  obtain ⟨n, rfl, _, hw⟩ := DataW.trod_int ht h
  exact ⟨n, rfl, wf_i64 hw⟩
theorem reads_u8 (ht : P.underlying t = some (.int .u8)) : Reads P t UInt8 := by
  intro H enc w base sp held fuel cs y h
  obtain ⟨n, rfl, _, hw⟩ := DataW.trod_int ht h
  simp [Lit.wf, IntKind.min, IntKind.max, IntKind.signed, IntKind.bits] at hw
  refine ⟨UInt8.ofNat n.toNat, ?_, trivial⟩
  show [Value.int .u8 n] = [Value.int .u8 ((UInt8.ofNat n.toNat).toNat : Int)]
  rw [UInt8.toNat_ofNat_of_lt' (by show n.toNat < 256; omega)]
  congr 2
  omega
theorem reads_bool (ht : P.underlying t = some .bool) : Reads P t Bool := by
  intro H enc w base sp held fuel cs y h
  obtain ⟨n, rfl, _⟩ := DataW.trod_bool ht h
  exact ⟨n, rfl, trivial⟩
theorem reads_string (ht : P.underlying t = some .string) : Reads P t ByteArray := by
  intro H enc w base sp held fuel cs y h
  obtain ⟨s, rfl, _, hs⟩ := DataW.trod_string ht h
  exact ⟨s, rfl, show s.size ≤ 9223372036854775807 by simpa [maxLen] using hs⟩

theorem repCells_of {α : Type} [Mem α] {w : World} {F : Nat → Prop} {len : Nat} {get : Nat → Option Value}
    (h : ∀ i, i < len → ∃ (ecs : List Value) (x : α), rep w F ecs x ∧ ∀ j u, ecs[j]? = some u → get (i * Mem.sz α + j) = some u) :
    ∃ (cs : List Value) (xs : List α), xs.length = len ∧ RepCells w F cs xs ∧ ∀ j u, cs[j]? = some u → get j = some u := by
  induction len generalizing get with
  | zero => exact ⟨[], [], rfl, .nil, by simp⟩
  | succ len ih =>
    obtain ⟨e0, x0, h0, g0⟩ := h 0 (by omega)
    obtain ⟨cs, xs, hl, hr, hg⟩ := ih (get := fun j => get (Mem.sz α + j)) (fun i hi => by
      obtain ⟨ei, xi, hi1, hi2⟩ := h (i + 1) (by omega)
      exact ⟨ei, xi, hi1, fun j u hu => by
        have := hi2 j u hu
        rw [Nat.succ_mul] at this
        show get (Mem.sz α + (i * Mem.sz α + j)) = some u
        rw [← this]; congr 1; omega⟩)
    have hl0 := Mem.rep_len h0
    refine ⟨e0 ++ cs, x0 :: xs, by simp [hl], .cons h0 hr, fun j u hu => ?_⟩
    by_cases hj : j < e0.length
    · rw [List.getElem?_append_left hj] at hu
      have := g0 j u hu
      simpa using this
    · rw [List.getElem?_append_right (by omega)] at hu
      have := hg _ u hu
      rw [← this, hl0]
      congr 1
      omega

theorem reads_slice {α : Type} [Mem α] (ht : P.underlying t = some (.slice e)) (hC : P.cellsOf e = Mem.sz α) (hpos : 0 < Mem.sz α) (he : Reads P e α) : Reads P t (List α) := by
  intro H enc w base sp held fuel cs y h
  rcases Go.Deep.open_slice ht h with ⟨rfl, _⟩ | ⟨a, len, cap, m, n, D, Pl, rfl, hb, hl, hm, hmm, _, hel⟩
  · exact ⟨[], none, 0, rfl, Nat.le_refl _, by omega, RepAt.nil_⟩
  · have hlm : len ≤ m := by rw [hmm]; split <;> omega
    have helt : ∀ i, i < len → ∃ (ecs : List Value) (x : α), rep w (fun b => b < w.heap.size) ecs x ∧ ∀ j u, ecs[j]? = some u → w.cell? (a.add (i * Mem.sz α + j)) = some u := by
      intro i hi
      obtain ⟨cs', hc, ht'⟩ := hel i (by omega)
      rw [hC] at hc
      obtain ⟨_, hcl, hat⟩ := World.cells?_some hc
      obtain ⟨x, hx⟩ := he H enc w base sp held n cs' _ ht'
      refine ⟨cs', x, hx, fun j u hu => ?_⟩
      rw [← Go.Deep.add_add, hat j (by rw [← hcl]; exact (List.getElem?_eq_some_iff.1 hu).1), hu]
    obtain ⟨ccs, xs, hxl, hr, hg⟩ := repCells_of (get := fun j => w.cell? (a.add j)) helt
    subst hxl
    refine ⟨xs, some a, cap, rfl, hl, by simpa [maxLen] using hm, fun hne => ?_⟩
    have hpos' : 0 < ccs.length := by rw [hr.len]; exact Nat.mul_pos (List.length_pos_iff.2 hne) hpos
    have h0 := hg 0 _ (List.getElem?_eq_getElem hpos')
    simp only [Addr.add] at h0
    have hspot : a.spot = none := by
      cases hs : a.spot with
      | none => rfl
      | some _ =>
        simp only [World.cell?, if_true, hs] at h0
        split at h0 <;> simp at h0
    have hblk := World.block_lt_of_cell? w a h0
    obtain ⟨blk, off, spot⟩ := a
    simp only at hspot
    subst hspot
    refine ⟨blk, off, rfl, hblk, hblk, ccs, hr, fun j u hu => ?_⟩
    have := hg j u hu
    have e : (⟨blk, off, none⟩ : Addr).add j = ⟨blk, off + j, none⟩ := by unfold Addr.add; split <;> simp_all
    rw [e] at this
    exact this

theorem fs_one {α : Type} [Mem α] {f : Field} {off : Nat} (ho : f.offset = off) (hC : P.cellsOf f.type = Mem.sz α) (hr : Reads P f.type α) : ReadsFs P [f] off α := by
  intro H enc w base sp held cs h hl
  obtain ⟨fuel, y, hy⟩ := h f (by simp)
  rw [hC, ho, List.take_of_length_le (by simp; omega)] at hy
  exact hr H enc w base sp held fuel _ y hy
theorem fs_cons {α β : Type} [Mem α] [Mem β] {f : Field} {fs : List Field} {off : Nat} (ho : f.offset = off) (hC : P.cellsOf f.type = Mem.sz α) (hr : Reads P f.type α) (hs : ReadsFs P fs (off + Mem.sz α) β) : ReadsFs P (f :: fs) off (α × β) := by
  intro H enc w base sp held cs h hl
  obtain ⟨fuel, y, hy⟩ := h f (by simp)
  rw [hC, ho] at hy
  obtain ⟨x, hx⟩ := hr H enc w base sp held fuel _ y hy
  obtain ⟨z, hz⟩ := hs H enc w base sp held cs (fun g hg => h g (List.mem_cons_of_mem _ hg)) (by rw [hl]; simp [Mem.sz]; omega)
  refine ⟨(x, z), (cs.drop off).take (Mem.sz α), cs.drop (off + Mem.sz α), ?_, hx, hz⟩
  rw [← List.drop_drop, List.take_append_drop]
theorem reads_fs {α : Type} [Mem α] {fs : Array Field} (hs : P.underlying t = some (.struct fs)) (hC : P.cellsOf t = Mem.sz α) (h : ReadsFs P fs.toList 0 α) : Reads P t α := by
  intro H enc w base sp held fuel cs y hy
  obtain ⟨xs, n, _, _, hlen, hxl, hf⟩ := DataW.trod_struct hs hy
  obtain ⟨x, hx⟩ := h H enc w base sp held cs (fun f hm => by
    obtain ⟨i, hi⟩ := List.getElem?_of_mem hm
    have hi' : fs[i]? = some f := by simpa using hi
    have h1 := hf i f hi'
    have hlt : i < xs.length := by rw [hxl]; exact (Array.getElem?_eq_some_iff.1 hi').1
    rw [List.getElem?_eq_getElem hlt] at h1
    exact ⟨n, _, h1⟩) (by rw [hlen, hC]; omega)
  exact ⟨x, by simpa using hx⟩
end

/-- An argument that is a struct. -/
theorem open_agg {α : Type} [Mem α] {P : Program} {t : TypeId} {fs : Array Field} {H : Type} {enc : TypeId × Value → H} {w : World} {base : Nat} {sp : Nat → Bool} {held : Bool} {r : Reach} {b0 : Nat} {v : Value} {d : DataW H} {p : List MemPlace}
    (hs : P.underlying t = some (.struct fs)) (hr : Reads P t α) (hv : Value.okWide P w r b0 t v) (h : DataW.Trod enc P w base sp held t v d p) : ∃ (cs : List Value) (x : α), v = .agg cs.toArray ∧ rep w (fun b => b < w.heap.size) cs x := by
  obtain ⟨cs, rfl, _⟩ := okWide_struct hs hv
  obtain ⟨fuel, hf⟩ := h
  obtain ⟨x, hx⟩ := hr H enc w base sp held fuel _ _ hf
  exact ⟨cs.toList, x, by simp, hx⟩
/-- An argument that is a slice. -/
theorem open_sl {α : Type} [Mem α] {P : Program} {t e : TypeId} {H : Type} {enc : TypeId × Value → H} {w : World} {base : Nat} {sp : Nat → Bool} {held : Bool} {r : Reach} {b0 : Nat} {v : Value} {d : DataW H} {p : List MemPlace}
    (hs : P.underlying t = some (.slice e)) (hr : Reads P t (List α)) (hv : Value.okWide P w r b0 t v) (h : DataW.Trod enc P w base sp held t v d p) : ∃ (x : List α), rep w (fun b => b < w.heap.size) [v] x := by
  obtain ⟨A, n, c, rfl⟩ := okWide_slice hs hv
  obtain ⟨fuel, hf⟩ := h
  obtain ⟨x, hx⟩ := hr H enc w base sp held fuel _ _ hf
  exact ⟨x, hx⟩
theorem trod_lt_ {P : Program} {t : TypeId} {H : Type} {enc : TypeId × Value → H} {w : World} {base : Nat} {sp : Nat → Bool} {held : Bool} {v : Value} {d : DataW H} {p : List MemPlace} (h : DataW.Trod enc P w base sp held t v d p) : ∀ x ∈ p, x.block < w.heap.size := by
  obtain ⟨m, hm⟩ := h
  exact DataW.trod_lt m _ _ _ hm
end Go.Proofs.Ythdekdghhppkgaa
