/- A small logic of states, part 4: what an operation makes of a state, and that it is so. It is of no program. -/
import Derived.Test.YtpdddafaelbgkaaVmP3
import Derived.ProofKit
import Derived.OpenShut
import Derived.Deep.Slices
import Derived.ChangeOld
import Derived.Carry
set_option linter.unusedVariables false
set_option linter.unusedSimpArgs false
/- Laws: an argument that reads as data is a datum; a law's contract is the given statement's. No program is in sight. -/
namespace Go.Proofs.Ytpdddafaelbgkaa
open Go.RowKit Go.ChangeShapes Go.WideShapes Go.Deep

/-- Cells that read as data. -/
def Reps (w : World) (cs : List Value) (us : List Cell) : Prop := us.length = cs.length ∧ ∀ (i : Nat) (u : Cell) (v : Value), us[i]? = some u → cs[i]? = some v → RepC w (fun b => b < w.heap.size) v u
theorem Reps.append {w : World} {cs cs' : List Value} {us us' : List Cell} (h : Reps w cs us) (h' : Reps w cs' us') : Reps w (cs ++ cs') (us ++ us') := by
  refine ⟨by simp [h.1, h'.1], fun i u v hu hv => ?_⟩
  rcases Nat.lt_or_ge i us.length with hi | hi
  · rw [List.getElem?_append_left hi] at hu
    rw [List.getElem?_append_left (by rw [← h.1]; exact hi)] at hv
    exact h.2 i u v hu hv
  · rw [List.getElem?_append_right hi] at hu
    rw [List.getElem?_append_right (by rw [← h.1]; exact hi), ← h.1] at hv
    exact h'.2 _ u v hu hv
theorem Reps.one {w : World} {v : Value} {u : Cell} (h : RepC w (fun b => b < w.heap.size) v u) : Reps w [v] [u] := by
  refine ⟨rfl, fun i u' v' hu hv => ?_⟩
  cases i with
  | zero => simp only [List.getElem?_cons_zero, Option.some.injEq] at hu hv; subst hu hv; exact h
  | succ i => simp at hu
/-- Whatever reads as data at type t reads as cells of a signature. -/
def Reads (P : Program) (t : TypeId) (sig : List Ty) : Prop :=
  ∀ (H : Type) (enc : TypeId × Value → H) (w : World) (base : Nat) (sp : Nat → Bool) (held : Bool) (fuel : Nat) (cs : List Value) (y : DataW H × List MemPlace),
    DataW.trod enc P w base sp held fuel t cs = some y → ∃ us : List Cell, us.map (·.t) = sig ∧ Reps w cs us
def ReadsFs (P : Program) (fs : List Field) (off : Nat) (sig : List Ty) : Prop :=
  ∀ (H : Type) (enc : TypeId × Value → H) (w : World) (base : Nat) (sp : Nat → Bool) (held : Bool) (cs : List Value),
    (∀ f ∈ fs, ∃ fuel y, DataW.trod enc P w base sp held fuel f.type ((cs.drop f.offset).take (P.cellsOf f.type)) = some y) → cs.length = off + sig.length → ∃ us : List Cell, us.map (·.t) = sig ∧ Reps w (cs.drop off) us
theorem SN.of_sig (s : SN) {us : List Cell} (h : us.map (·.t) = s.sig) : ∃ x, s.cells x = us := by
  cases s <;> rcases us with _ | ⟨⟨t1, x1⟩, _ | ⟨⟨t2, x2⟩, _ | ⟨⟨t3, x3⟩, _ | ⟨⟨t4, x4⟩, _ | ⟨⟨t5, x5⟩, _ | ⟨⟨t6, x6⟩, _ | ⟨g, l⟩⟩⟩⟩⟩⟩⟩ <;>
    simp only [SN.sig, List.map_cons, List.map_nil, List.cons.injEq, reduceCtorEq, and_false, and_true] at h
  case fixup => obtain ⟨rfl, rfl, rfl, rfl⟩ := h; exact ⟨⟨x1, x2, x3, x4⟩, rfl⟩
  case sect => obtain ⟨rfl, rfl, rfl, rfl, rfl, rfl⟩ := h; exact ⟨⟨x1, x2, x3, x4, x5, x6⟩, rfl⟩
  case sym => obtain ⟨rfl, rfl, rfl, rfl⟩ := h; exact ⟨⟨x1, x2, x3, x4⟩, rfl⟩
  case obj => obtain ⟨rfl, rfl⟩ := h; exact ⟨⟨x1, x2⟩, rfl⟩
  case given => obtain ⟨rfl, rfl⟩ := h; exact ⟨⟨x1, x2⟩, rfl⟩
  case img => obtain ⟨rfl, rfl⟩ := h; exact ⟨⟨x1, x2⟩, rfl⟩
  case region => obtain ⟨rfl, rfl, rfl, rfl⟩ := h; exact ⟨⟨x1, x2, x3, x4⟩, rfl⟩
  case mem => obtain ⟨rfl, rfl, rfl⟩ := h; exact ⟨⟨⟨x1, x2⟩, x3⟩, rfl⟩
  case patch => obtain ⟨rfl, rfl⟩ := h; exact ⟨⟨x1, x2⟩, rfl⟩
  case member => obtain ⟨rfl, rfl, rfl⟩ := h; exact ⟨⟨x1, ⟨x2, x3⟩⟩, rfl⟩
  case hash => obtain ⟨rfl, rfl, rfl⟩ := h; exact ⟨⟨x1, x2, x3⟩, rfl⟩
  case layout => obtain ⟨rfl, rfl⟩ := h; exact ⟨⟨x1, x2⟩, rfl⟩
  case reader => obtain ⟨rfl, rfl⟩ := h; exact ⟨⟨x1, x2⟩, rfl⟩
theorem Ty.of_sig (t : Ty) {us : List Cell} (h : us.map (·.t) = t.sig) : ∃ x, t.cells x = us := by
  cases t
  case st s => exact s.of_sig h
  all_goals
    rcases us with _ | ⟨⟨t1, x1⟩, _ | ⟨g, l⟩⟩ <;> simp only [Ty.sig, List.map_cons, List.map_nil, List.cons.injEq, reduceCtorEq, and_false, and_true] at h
    subst h
    exact ⟨x1, rfl⟩

section
variable {P : Program} {t e : TypeId}
theorem wf_ok {n : Int} (h : (Lit.int .i64 n).wf = true) : okI .i64 n := by
  simp [Lit.wf, IntKind.min, IntKind.max, IntKind.signed, IntKind.bits] at h
  exact ⟨by omega, by omega⟩
theorem reads_int (ht : P.underlying t = some (.int .i64)) : Reads P t [.i] := by
  intro H enc w base sp held fuel cs y h
  obtain ⟨n, rfl, _, hw⟩ := DataW.trod_int ht h
  exact ⟨[⟨.i, n⟩], rfl, Reps.one (.int (wf_ok hw))⟩
theorem reads_u8 (ht : P.underlying t = some (.int .u8)) : Reads P t [.u] := by
  intro H enc w base sp held fuel cs y h
  obtain ⟨n, rfl, _, hw⟩ := DataW.trod_int ht h
  simp [Lit.wf, IntKind.min, IntKind.max, IntKind.signed, IntKind.bits] at hw
  exact ⟨[⟨.u, n⟩], rfl, Reps.one (.int ⟨by omega, by omega⟩)⟩
theorem reads_bool (ht : P.underlying t = some .bool) : Reads P t [.bool] := by
  intro H enc w base sp held fuel cs y h
  obtain ⟨n, rfl, _⟩ := DataW.trod_bool ht h
  exact ⟨[⟨.bool, n⟩], rfl, Reps.one .bool⟩
theorem reads_string (ht : P.underlying t = some .string) : Reads P t [.str] := by
  intro H enc w base sp held fuel cs y h
  obtain ⟨s, rfl, _, hs⟩ := DataW.trod_string ht h
  exact ⟨[⟨.str, s⟩], rfl, Reps.one (.str (show s.size ≤ 9223372036854775807 by simpa [maxLen] using hs))⟩
theorem list_mk {α : Type} {n : Nat} {Q : Nat → α → Prop} (h : ∀ i, i < n → ∃ x, Q i x) : ∃ l : List α, l.length = n ∧ ∀ i x, l[i]? = some x → Q i x := by
  induction n with
  | zero => exact ⟨[], rfl, fun i x hi => by simp at hi⟩
  | succ n ih =>
    obtain ⟨l, hl, hq⟩ := ih fun i hi => h i (by omega)
    obtain ⟨x, hx⟩ := h n (by omega)
    refine ⟨l ++ [x], by simp [hl], fun i y hi => ?_⟩
    rcases Nat.lt_or_ge i l.length with h1 | h1
    · rw [List.getElem?_append_left h1] at hi; exact hq i y hi
    · rw [List.getElem?_append_right h1] at hi
      have : i = n := by
        have := (List.getElem?_eq_some_iff.1 hi).1
        simp at this
        omega
      subst this
      rw [hl, Nat.sub_self] at hi
      simp only [List.getElem?_cons_zero, Option.some.injEq] at hi
      subst hi
      exact hx
theorem reads_slice {t' : Ty} (ht : P.underlying t = some (.slice e)) (hC : P.cellsOf e = t'.wd) (hpos : 0 < t'.wd) (he : Reads P e t'.sig) : Reads P t [.list t'] := by
  intro H enc w base sp held fuel cs y h
  rcases Go.Deep.open_slice ht h with ⟨rfl, _⟩ | ⟨a, len, cap, m, n, D, Pl, rfl, hb, hl, hm, hmm, _, hel⟩
  · exact ⟨[⟨.list t', []⟩], rfl, Reps.one (.list (l := []) (fun _ _ => default) (Nat.le_refl _) (by omega) (fun h => absurd rfl h) (fun i x j u hx => by simp at hx))⟩
  · have hlm : len ≤ m := by rw [hmm]; split <;> omega
    have helt : ∀ i, i < len → ∃ x : t'.den, ∀ j u, (t'.cells x)[j]? = some u → ∃ v, w.cell? (a.add (i * t'.wd + j)) = some v ∧ RepC w (fun b => b < w.heap.size) v u := by
      intro i hi
      obtain ⟨cs', hc, ht'⟩ := hel i (by omega)
      rw [hC] at hc
      obtain ⟨_, hcl, hat⟩ := World.cells?_some hc
      obtain ⟨us, hus, hrl, hr⟩ := he H enc w base sp held n cs' _ ht'
      obtain ⟨x, hx⟩ := t'.of_sig hus
      subst hx
      refine ⟨x, fun j u hu => ?_⟩
      have hj : j < cs'.length := by rw [← hrl]; exact (List.getElem?_eq_some_iff.1 hu).1
      refine ⟨cs'[j], ?_, hr j u _ hu (List.getElem?_eq_getElem hj)⟩
      rw [← Go.Deep.add_add, hat j (by rw [← hcl]; exact hj), List.getElem?_eq_getElem hj]
    obtain ⟨l, hll, hlq⟩ := list_mk helt
    subst hll
    have hnone : l ≠ [] → ∃ b off, a = ⟨b, off, none⟩ ∧ b < w.heap.size := fun hne => by
      obtain ⟨x, hi⟩ : ∃ x, l[0]? = some x := ⟨_, List.getElem?_eq_getElem (List.length_pos_iff.2 hne)⟩
      have hlt : 0 < (t'.cells x).length := by rw [t'.cells_len]; exact hpos
      obtain ⟨v, hv, _⟩ := hlq 0 x hi 0 _ (List.getElem?_eq_getElem hlt)
      rw [Nat.zero_mul] at hv
      simp only [Addr.add] at hv
      have hv : w.cell? a = some v := by simpa using hv
      have hspot : a.spot = none := by
        cases hs : a.spot with
        | none => rfl
        | some _ =>
          simp only [World.cell?, if_true, hs] at hv
          split at hv <;> simp at hv
      have hblk := World.block_lt_of_cell? w a hv
      obtain ⟨blk, off, spot⟩ := a
      simp only at hspot
      subst hspot
      exact ⟨blk, off, rfl, hblk⟩
    refine ⟨[⟨.list t', l⟩], rfl, Reps.one (.list (fun i j => (w.cell? (a.add (i * t'.wd + j))).getD default) hl (by simpa [maxLen] using hm) (fun hne => ?_) (fun i x j u hx hu => ?_))⟩
    · obtain ⟨b, off, rfl, hlt⟩ := hnone hne
      refine ⟨b, off, rfl, hlt, hlt, fun i x j u hx hu => ?_⟩
      obtain ⟨v, hv, _⟩ := hlq i x hx j u hu
      have e : (⟨b, off, none⟩ : Addr).add (i * t'.wd + j) = ⟨b, off + (i * t'.wd + j), none⟩ := by unfold Addr.add; split <;> simp_all
      rw [e] at hv ⊢
      rw [hv]
      rfl
    · obtain ⟨v, hv, hr⟩ := hlq i x hx j u hu
      simp only [hv, Option.getD_some]
      exact hr
theorem fs_nil {off : Nat} : ReadsFs P [] off [] := by
  intro H enc w base sp held cs _ hl
  refine ⟨[], rfl, ?_⟩
  have : cs.drop off = [] := List.drop_eq_nil_of_le (by simp at hl; omega)
  rw [this]
  exact ⟨rfl, fun i u v hu => by simp at hu⟩
theorem fs_cons {f : Field} {fs : List Field} {off : Nat} {sig sig' : List Ty} (ho : f.offset = off) (hC : P.cellsOf f.type = sig.length) (hr : Reads P f.type sig) (hs : ReadsFs P fs (off + sig.length) sig') : ReadsFs P (f :: fs) off (sig ++ sig') := by
  intro H enc w base sp held cs h hl
  obtain ⟨fuel, y, hy⟩ := h f (by simp)
  rw [hC, ho] at hy
  obtain ⟨us, h1, h2⟩ := hr H enc w base sp held fuel _ y hy
  obtain ⟨us', h3, h4⟩ := hs H enc w base sp held cs (fun g hg => h g (List.mem_cons_of_mem _ hg)) (by rw [hl]; simp; omega)
  refine ⟨us ++ us', by simp [h1, h3], ?_⟩
  have : cs.drop off = (cs.drop off).take sig.length ++ cs.drop (off + sig.length) := by
    rw [← List.drop_drop, List.take_append_drop]
  rw [this]
  exact h2.append h4
theorem reads_fs {fs : Array Field} {sig : List Ty} (hs : P.underlying t = some (.struct fs)) (hC : P.cellsOf t = sig.length) (h : ReadsFs P fs.toList 0 sig) : Reads P t sig := by
  intro H enc w base sp held fuel cs y hy
  obtain ⟨xs, n, _, _, hlen, hxl, hf⟩ := DataW.trod_struct hs hy
  obtain ⟨us, h1, h2⟩ := h H enc w base sp held cs (fun f hm => by
    obtain ⟨i, hi⟩ := List.getElem?_of_mem hm
    have hi' : fs[i]? = some f := by simpa using hi
    have h1 := hf i f hi'
    have hlt : i < xs.length := by rw [hxl]; exact (Array.getElem?_eq_some_iff.1 hi').1
    rw [List.getElem?_eq_getElem hlt] at h1
    exact ⟨n, _, h1⟩) (by rw [hlen, hC]; omega)
  exact ⟨us, h1, by simpa using h2⟩
end

/-- Nothing is lent; all may be read. -/
def env0 : Env := { hd := fun _ => 0, hv := fun _ => .bool true, bs := fun _ _ => False, ro := fun _ => True }
theorem fz0 {w : World} : Fz w env0 [] = fun b => b < w.heap.size := by
  funext b
  simp [Fz, env0, lk]
/-- An argument that is a struct. -/
theorem open_agg {s : SN} {P : Program} {t : TypeId} {fs : Array Field} {H : Type} {enc : TypeId × Value → H} {w : World} {base : Nat} {sp : Nat → Bool} {held : Bool} {r : Reach} {b0 : Nat} {v : Value} {d : DataW H} {p : List MemPlace}
    (hs : P.underlying t = some (.struct fs)) (hr : Reads P t s.sig) (hv : Value.okWide P w r b0 t v) (h : DataW.Trod enc P w base sp held t v d p) : ∃ x : s.den, RepV w env0 [] v (ast s x) := by
  obtain ⟨cs, rfl, _⟩ := okWide_struct hs hv
  obtain ⟨fuel, hf⟩ := h
  replace hf : DataW.trod enc P w base sp held fuel t cs.toList = some (d, p) := hf
  obtain ⟨us, h1, h2, h3⟩ := hr H enc w base sp held fuel _ _ hf
  obtain ⟨x, hx⟩ := s.of_sig h1
  refine ⟨x, cs, rfl, ?_⟩
  rw [hx]
  have h2 : us.length = cs.size := by simpa using h2
  refine ⟨by simp [h2], fun i a ha => ?_⟩
  rw [List.getElem?_map] at ha
  obtain ⟨u, hu, rfl⟩ := Option.map_eq_some_iff.1 ha
  have hi : i < cs.size := by rw [← h2]; exact (List.getElem?_eq_some_iff.1 hu).1
  have hrep := h3 i u cs[i] hu (by simp [hi])
  refine ⟨cs[i], by simp [hi], hrep.one, ?_⟩
  show RepC w (Fz w env0 []) _ u
  rw [fz0]
  exact hrep
/-- An argument that is one cell. -/
theorem open_one {ty : Ty} {P : Program} {t : TypeId} {H : Type} {enc : TypeId × Value → H} {w : World} {base : Nat} {sp : Nat → Bool} {held : Bool} {v : Value} {d : DataW H} {p : List MemPlace}
    (hc : v.cells = #[v]) (hr : Reads P t [ty]) (h : DataW.Trod enc P w base sp held t v d p) : ∃ x : ty.den, RepV w env0 [] v (.one (.c ⟨ty, x⟩)) := by
  obtain ⟨fuel, hf⟩ := h
  obtain ⟨us, h1, h2, h3⟩ := hr H enc w base sp held fuel _ _ hf
  rcases us with _ | ⟨⟨t1, x1⟩, _ | ⟨g, l⟩⟩ <;> simp only [List.map_cons, List.map_nil, List.cons.injEq, reduceCtorEq, and_false, and_true] at h1
  subst h1
  refine ⟨x1, ?_⟩
  show RepC w (Fz w env0 []) v ⟨t1, x1⟩
  rw [fz0]
  exact h3 0 _ v rfl (by simp [hc])
theorem open_slice1 {ty : Ty} {P : Program} {t e : TypeId} {H : Type} {enc : TypeId × Value → H} {w : World} {base : Nat} {sp : Nat → Bool} {held : Bool} {r : Reach} {b0 : Nat} {v : Value} {d : DataW H} {p : List MemPlace}
    (hs : P.underlying t = some (.slice e)) (hr : Reads P t [.list ty]) (hv : Value.okWide P w r b0 t v) (h : DataW.Trod enc P w base sp held t v d p) : ∃ x : List ty.den, RepV w env0 [] v (al ty x) := by
  obtain ⟨A, n, c, rfl⟩ := okWide_slice hs hv
  exact open_one (ty := .list ty) rfl hr h
theorem trod_lt_ {P : Program} {t : TypeId} {H : Type} {enc : TypeId × Value → H} {w : World} {base : Nat} {sp : Nat → Bool} {held : Bool} {v : Value} {d : DataW H} {p : List MemPlace} (h : DataW.Trod enc P w base sp held t v d p) : ∀ x ∈ p, x.block < w.heap.size := by
  obtain ⟨m, hm⟩ := h
  exact DataW.trod_lt m _ _ _ hm

/-- The arguments of a law. -/
def ArgsOk (w : World) : List Value → List AV → Prop
  | [], [] => True
  | v :: vs, a :: l => RepV w env0 [] v a ∧ ArgsOk w vs l
  | _, _ => False
theorem ArgsOk.at {w : World} : ∀ {vs : List Value} {l : List AV}, ArgsOk w vs l → vs.length = l.length ∧ ∀ (i : Nat) (a : AV), l[i]? = some a → ∃ u, vs[i]? = some u ∧ RepV w env0 [] u a := by
  intro vs
  induction vs with
  | nil => intro l h; cases l with
    | nil => exact ⟨rfl, fun i a hi => by simp at hi⟩
    | cons => exact h.elim
  | cons v vs ih =>
    intro l h
    cases l with
    | nil => exact h.elim
    | cons a l =>
      obtain ⟨h1, h2⟩ := h
      obtain ⟨g1, g2⟩ := ih h2
      refine ⟨by simp [g1], fun i b hi => ?_⟩
      cases i with
      | zero => simp only [List.getElem?_cons_zero, Option.some.injEq] at hi; subst hi; exact ⟨v, rfl, h1⟩
      | succ i => simpa using g2 i b (by simpa using hi)
/-- A law that keeps its contract answers true and leaves all l it was. -/
theorem law_calls {P : Program} {f : FuncId} {C : Con} (h : ConOK P f C) (x : PTL C.ps) (hout : C.out x = vc .bool true) {l : List AV} (henc : encPTL 0 C.ps x = (l, [], 0)) {W : World} {vals : List Value} (ha : ArgsOk W vals l) :
    Calls P f vals.toArray W fun e W' => e = .returned (.bool true) ∧ Below W.heap.size W W' := by
  obtain ⟨h1, h2⟩ := ha.at
  have hent : Ent W env0 (encPTL 0 C.ps x).2.2 vals (encPTL 0 C.ps x).1 (encPTL 0 C.ps x).2.1 := by
    rw [henc]
    exact ⟨h1, h2, fun p hp => by simp at hp, fun id id' b hid => absurd hid (Nat.not_lt_zero _), fun id b hid => absurd hid (Nat.not_lt_zero _), fun _ _ => trivial, show (0 : Nat) ≤ 20 by omega⟩
  refine Calls.mono (h.2 x (by rw [hout]; trivial) W env0 vals hent) ?_
  rintro ex w' ⟨v, e, rfl, he, E', tb1, hw, hS⟩
  rw [hout] at he
  have he : e = { val := .one (.c ⟨.bool, true⟩) } := he
  subst he
  obtain ⟨u, hu, hr⟩ := hS.slots 0 (.one (.c ⟨.bool, true⟩)) rfl
  have hu : v = u := by simpa using hu
  subst hu
  have hr : RepC _ _ v ⟨.bool, true⟩ := hr
  cases hr
  refine ⟨rfl, hS.os, hS.tape, hS.output, hS.big, fun k hk => hS.frame k hk fun i hi => ?_⟩
  rw [henc] at hi
  exact absurd hi (Nat.not_lt_zero _)
end Go.Proofs.Ytpdddafaelbgkaa
