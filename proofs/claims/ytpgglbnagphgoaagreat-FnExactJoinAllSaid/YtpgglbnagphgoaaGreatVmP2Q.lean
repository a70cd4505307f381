/- A small logic of states, part 2: what an operation makes of a state, and that it is so. It is of no program. -/
import Derived.Test.YtpgglbnagphgoaaGreatVmP1Q
import Derived.Maps.AppendAt
import Derived.Laws.OwnMore
import Derived.Laws.IdiomCopy
import Derived.Laws.CopyRow
set_option linter.unusedVariables false
set_option linter.unusedSimpArgs false
/- Operations that make a row. -/
namespace Go.Proofs.YtpgglbnagphgoaaGreat
open Go.RowKit
open SR (opt)

section
variable {P : Program} {Γ : Cfg} {W0 w : World} {E0 E : Env} {nl N base : Nat} {st : ASt} {a : Act} {o : Oper} {tb : Tb}

theorem rows_own {x : A1} {k : Nat} (h : k ∈ rows1 x) : k ∈ (own1 tb x).2 := by
 cases x with
 | sl id p =>
  simp only [rows1, List.mem_singleton] at h
  subst h
  simp only [own1]; split <;> simp
 | sub id lo n => simpa [rows1, own1] using h
 | _ => simp [rows1] at h
theorem rows_own0 {x : A1} {k : Nat} (h : k ∈ rows1 x) : k ∈ (own0 tb x).2 := by
 cases x with
 | sl id p =>
  simp only [rows1, List.mem_singleton] at h
  subst h
  cases p with
  | nil => simp only [own0]; split <;> simp
  | cons q p => simp [own0]
 | sub id lo n => simpa [rows1, own0] using h
 | _ => simp [rows1] at h
theorem ownL_ok {l : List A1} {ow : Bool} {dl : List Nat} (h : ownL tb l = (ow, dl)) : (ow = true → ∀ x ∈ l, (own1 tb x).1 = true) ∧ (∀ x ∈ l, ∀ k ∈ (own1 tb x).2, k ∈ dl) ∧
  (nodup? dl = true → ∀ (p q : Nat) x y k, l[p]? = some x → l[q]? = some y → k ∈ (own1 tb x).2 → k ∈ (own1 tb y).2 → p = q) := by
 induction l generalizing ow dl with
 | nil => exact ⟨(fun _ x hx => by cases hx), (fun x hx => by cases hx), fun _ p q x y k hp => by simp at hp⟩
 | cons z l ih =>
  simp only [ownL] at h
  obtain ⟨h1, h2⟩ := Prod.mk.inj h
  obtain ⟨g1, g2, g3⟩ := ih (ow := (ownL tb l).1) (dl := (ownL tb l).2) rfl
  have hn : ∀ (m n : List Nat), nodup? (m ++ n) = true → nodup? n = true ∧ ∀ k, k ∈ m → k ∈ n → False := fun m n => by
   induction m with
   | nil => intro hm; exact ⟨hm, fun k hk => by cases hk⟩
   | cons q m ihm =>
    intro hm
    simp only [List.cons_append, nodup?, Bool.and_eq_true, Bool.not_eq_true'] at hm
    obtain ⟨k1, k2⟩ := ihm hm.2
    refine ⟨k1, fun k hk hk' => ?_⟩
    cases hk with
    | head => rw [(mem?_iff _ _).2 (List.mem_append.2 (.inr hk'))] at hm; cases hm.1
    | tail _ hk => exact k2 k hk hk'
  refine ⟨fun ho x hx => ?_, fun x hx k hk => ?_, fun hnd p q x y k hp hq hx hy => ?_⟩
  ·rw [← h1, Bool.and_eq_true] at ho
   cases hx with
   | head => exact ho.1
   | tail _ hx => exact g1 ho.2 x hx
  ·rw [← h2]
   cases hx with
   | head => exact List.mem_append.2 (.inl hk)
   | tail _ hx => exact List.mem_append.2 (.inr (g2 x hx k hk))
  ·rw [← h2] at hnd
   obtain ⟨k1, k2⟩ := hn _ _ hnd
   cases p with
   | zero =>
    cases q with
    | zero => rfl
    | succ q =>
     simp only [List.getElem?_cons_zero, Option.some.injEq, List.getElem?_cons_succ] at hp hq
     subst hp
     exact (k2 k hx (g2 y (List.mem_of_getElem? hq) k hy)).elim
   | succ p =>
    cases q with
    | zero =>
     simp only [List.getElem?_cons_zero, Option.some.injEq, List.getElem?_cons_succ] at hp hq
     subst hq
     exact (k2 k hy (g2 x (List.mem_of_getElem? hp) k hx)).elim
    | succ q =>
     have := g3 k1 p q x y k (by simpa using hp) (by simpa using hq) hx hy
     omega

theorem gof_fz (h : Sat W0 E0 nl N st E a w) {id : Nat} (hf : st.fresh id = true) (cur : Array Value) (T : TypeId) (v : Value) (dl : List Nat) (blk : Blk) {x : A1} (hx : ∀ k ∈ rows1 x, k ∈ dl) (b : Nat) (hb : Gof w E st.tb x b) :
  Fz (w.alloc (.cells cur T)) (E.push st.tb w.heap.size id v false dl) ((id, blk) :: erl dl st.tb) b ∧ (w.alloc (.cells cur T)).heap[b]? = w.heap[b]? := by
 rcases hb with hb | ⟨k, hk, hks, hb⟩
 ·exact fz_new h hf cur T v false dl blk b hb
 ·have hlt := (h.mine k b hks hb).1
  refine ⟨⟨by rw [World.size_alloc]; omega, h.rok hks hb, fun i hi hbi => ?_⟩, Below.heap_alloc w _ b hlt⟩
  by_cases hid : i = id
  ·subst hid
   simp only [Env.push, if_true] at hbi
   rcases hbi with rfl | ⟨h0, _⟩
   ·omega
   ·cases h0
  ·rw [lk_cons, if_neg hid, lk_erl] at hi
   split at hi
   ·cases hi
   ·rename_i hnd
    simp only [Env.push, if_neg hid] at hbi
    exact hnd (h.disj k i b hks hi hb hbi ▸ hx k hk)
theorem row_new (h : Sat W0 E0 nl N st E a w) {id : Nat} (hf : st.fresh id = true) {cur : Array Value} {T : TypeId} {t : Ty} {l : List t.den} {c : Nat} {ow : Bool} {dl : List Nat} {blk : Blk} {v : Value} {y : Nat → Nat → A1}
  (hs : cur.size = c * t.wd) (hc : l.length ≤ c) (hm : c ≤ 9223372036854775807)
  (hcell : ∀ i x j cl, l[i]? = some x → (t.cells x)[j]? = some cl → ∃ u, cur[i * t.wd + j]? = some u ∧ CellFact w E st.tb (y i j) u cl)
  (hrow : ∀ i j, i < l.length → j < t.wd → ∀ k ∈ rows1 (y i j), k ∈ dl)
  (how : ow = true → ∀ i j, i < l.length → j < t.wd → (own1 st.tb (y i j)).1 = true ∧ ∀ k ∈ (own1 st.tb (y i j)).2, k ∈ dl)
  (hdis : ow = true → ∀ i j i' j' k, i < l.length → j < t.wd → i' < l.length → j' < t.wd → k ∈ (own1 st.tb (y i j)).2 → k ∈ (own1 st.tb (y i' j')).2 → i = i' ∧ j = j') :
  RowOk (w.alloc (.cells cur T)) (Fz (w.alloc (.cells cur T)) (E.push st.tb w.heap.size id v ow dl) ((id, blk) :: erl dl st.tb)) ((E.push st.tb w.heap.size id v ow dl).bs id) (some T) (.slice (some ⟨w.heap.size, 0, none⟩) l.length c) t l ow := by
 have hlt : ∀ {i j : Nat} {x : t.den} {cl : Cell}, l[i]? = some x → (t.cells x)[j]? = some cl → i < l.length ∧ j < t.wd := fun {i j x cl} hi hj =>
  ⟨(List.getElem?_eq_some_iff.1 hi).1, by rw [← t.cells_len x]; exact (List.getElem?_eq_some_iff.1 hj).1⟩
 refine .inr ⟨w.heap.size, c, T, cur, fun i j => (cur[i * t.wd + j]?).getD undef, fun i j b => ow = true ∧ i < l.length ∧ j < t.wd ∧ Sof E st.tb (y i j) b, rfl, by simp [Env.push], heap_alloc_new w _, fun e' he => by injection he, hs, hc, hm, fun i x j cl hi hj => ?_, fun i j d hd => ?_, fun i j i' j' d hd hd' => ?_, fun i x j cl hi hj => ?_⟩
 ·obtain ⟨u, h1, _⟩ := hcell i x j cl hi hj
  simp [h1]
 ·obtain ⟨h0, h1, h2, k, h3, h4, h5⟩ := hd
  have := (h.mine k d h4 h5).1
  exact ⟨by simp only [Env.push, if_true]; exact .inr ⟨h0, k, (how h0 i j h1 h2).2 k h3, h4, h5⟩, by omega⟩
 ·obtain ⟨h0, h1, h2, k, h3, h4, h5⟩ := hd
  obtain ⟨_, g1, g2, k', g3, g4, g5⟩ := hd'
  have hk := h.disj k k' d h4 g4 h5 g5
  subst hk
  exact hdis h0 i j i' j' k h1 h2 g1 g2 h3 g3
 ·obtain ⟨u, h1, h2, h3⟩ := hcell i x j cl hi hj
  obtain ⟨hi', hj'⟩ := hlt hi hj
  simp only [h1, Option.getD_some]
  cases ow with
  | true =>
   simp only [if_true, true_and]
   refine (h3 (how rfl i j hi' hj').1).mono fun b hb => ⟨⟨hi', hj', hb⟩, ?_⟩
   obtain ⟨k, _, k2, k3⟩ := hb
   exact Below.heap_alloc w _ b (h.mine k b k2 k3).1
  | false =>
   simp only [Bool.false_eq_true, if_false]
   exact h2.mono (fun b hb _ => gof_fz h hf cur T v dl blk (hrow i j hi' hj') b hb) (by rw [World.size_alloc]; omega)
theorem rep_len {α : Type} (l : List α) (n : Nat) : (rep l n).length = n * l.length := by
 induction n with
 | zero => simp [rep]
 | succ n ih => simp only [rep, List.length_append, ih, Nat.succ_mul]; omega
theorem rep_get {α : Type} (l : List α) (n i : Nat) (hi : i < n * l.length) : (rep l n)[i]? = l[i % l.length]? := by
 induction n generalizing i with
 | zero => omega
 | succ n ih =>
  simp only [rep]
  by_cases h : i < l.length
  ·rw [List.getElem?_append_left h, Nat.mod_eq_of_lt h]
  ·rw [List.getElem?_append_right (by omega), ih _ (by rw [Nat.succ_mul] at hi; omega)]
   congr 1
   exact (Nat.mod_eq_sub_mod (by omega)).symm
theorem rep_ok {arr : Array Value} {l : List A1} (h : RepL w E tb arr l) (n : Nat) (h0 : l.length ≠ 0) : RepL w E tb ((Array.range (n * l.length)).map (arr[· % arr.size]!)) (rep l n) := by
 refine ⟨by simp [rep_len], fun i x hi => ?_⟩
 have hlt : i < n * l.length := by rw [← rep_len]; exact (List.getElem?_eq_some_iff.1 hi).1
 rw [rep_get l n i hlt] at hi
 obtain ⟨u, h1, h2⟩ := h.2 _ _ hi
 refine ⟨u, ?_, h2⟩
 rw [Array.getElem?_map, Array.getElem?_range, if_pos hlt]
 simp only [Option.map_some, Option.some.injEq]
 rw [h.1]
 have hm : i % l.length < arr.size := by rw [h.1]; exact Nat.mod_lt _ (by omega)
 rw [getElem!_pos arr _ hm]
 rw [Array.getElem?_eq_getElem hm] at h1
 injection h1
theorem op_buildSlice (h : Sat W0 E0 nl N st E a w) (hd : ∀ d, o.dst = some d → d < N) {t : TypeId} {n : Nat} {parts : Array (Nat × Operand)} (ho : o.op = .buildSlice t n parts) (hp : (step P Γ base o st).pre) (Q : Exit → Act → World → Prop) : o.wp P a w (After W0 E0 nl N st o (step P Γ base o st)) Q := by
 simp only [step, ho] at hp
 obtain ⟨hf, hp⟩ := bif_bad.1 hp
 simp only [opt_pre] at hp
 obtain ⟨e, he, ty, hty, z, hz, size, hsz, hp⟩ := hp
 obtain ⟨hb, hp⟩ := bif_bad.1 hp
 simp only [opt_pre] at hp
 obtain ⟨l, hl, gs, hgs, hp⟩ := hp
 have hb' := hb
 simp only [Bool.and_eq_true, Bool.not_eq_true'] at hb'
 obtain ⟨⟨⟨hb1, hb2⟩, hb3⟩, hb4⟩ := hb'
 have hwd := (beq_iff _ _).1 hb1
 have hn24 := Nat.le_of_ble_eq_true hb2
 have hzl := (beq_iff _ _).1 hb3
 have h0 := beq_no.1 hb4
 obtain ⟨i, zv, hi, hzv, hzz⟩ := zeroT_some hz
 have hr0 := zeros_ok (w := w) (E := E) (st := st) hzz
 obtain ⟨i2, hi2, hsi⟩ := sizeT_some hsz
 rw [hi] at hi2
 injection hi2 with hi2
 subst hi2
 have hzsz : zv.cells.size = size := by rw [hr0.1, hzl]
 have hrr := rep_ok hr0 n (by omega)
 rw [hzl] at hrr
 obtain ⟨arr', hfill, hrl⟩ := fillA_ok h (place' := fun i => some (i * size, size)) (fun i q hq => hq) parts.toList _ _ _ hrr hl
 obtain ⟨k1, k2, k3⟩ := groups_ok hgs
 obtain ⟨xs, g1, g2, g3, g4⟩ := decR_ok h (us := fun j => (arr'[j]?).getD undef) (k := 0) (fun i g hg j x hj => by
  obtain ⟨c1, c2⟩ := k3 i g hg
  have hjn : j < size := by rw [← c1]; exact (List.getElem?_eq_some_iff.1 hj).1
  rw [c2 j hjn] at hj
  obtain ⟨u, q1, q2, q3⟩ := hrl.2 _ _ hj
  rw [Nat.zero_add, ← hwd, q1]
  exact q3) hp
 cases hol : ownL st.tb l with
 | mk ow dl =>
  rw [hol] at g2
  obtain ⟨hnd, _⟩ := bif_bad.1 g2
  obtain ⟨o1, o2, o3⟩ := ownL_ok hol
  have o3 := o3 hnd
  have es : ∀ e, (SR.ret e).outs e := fun e => rfl
  have hout : (step P Γ base o st).outs { val := .one (.sl base []), ins := [(base, .row (some e) ty xs ow)], del := dl } := by
   simp only [step, ho, hf, cond_true, opt, he, hty, hz, hsz, hb, hl, hgs]
   refine g3 _ ?_
   rw [hol]
   simp only [hnd, cond_true]
   rfl
  have hrun : (execOp a.eval o).run P w = .ok (.value (.slice (some ⟨w.heap.size, 0, none⟩) n n)) (w.alloc (.cells arr' e)) := by
   have hfill' : Instr.fill (fun i => some (i * size, size)) ((Array.range (n * size)).map (zv.cells[· % zv.cells.size]!)) (parts.map fun (i, x) => (i, a.eval x)).toList = some arr' := by simpa using hfill
   have hnot : ¬ n * size > 16777216 := by omega
   by_cases hn0 : n * size = 0
   ·have e0 : ∀ (f : Nat → Value), (Array.range 0).map f = #[] := fun f => by simp
    rw [hn0, e0] at hfill'
    simp only [execOp, ho, Instr.buildSlice, Sem.run_bind, run_underlying (sliceOf_some he), Result.andThen_ok, sizeOf, typeInfo, run_program, hi, Sem.run_pure, hsi, hn0, e0, if_true, hfill', show ¬ 0 > 2 ^ 24 from by omega, if_false]
    simp [newRow, newObj, Sem.run]
   ·simp only [execOp, ho, Instr.buildSlice, Sem.run_bind, run_underlying (sliceOf_some he), Result.andThen_ok, sizeOf, typeInfo, run_program, hi, Sem.run_pure, hsi, hnot, if_false, hn0, zeroValue, hzv, hfill']
    simp [newRow, newObj, Sem.run]
  refine new_op hrun hout (h.newBlk (v := .slice (some ⟨w.heap.size, 0, none⟩) n n) (ow := ow) hf hd ?_ ?_) Q
  ·have hlen : xs.length = n := by rw [g1, k1]
   have hasz : arr'.size = n * ty.wd := by rw [hrl.1, k2, hwd]
   have hidx : ∀ i j, i < xs.length → j < ty.wd → i * ty.wd + j < l.length := fun i j hi' hj' => by
    rw [k2, hwd]
    have : (i + 1) * ty.wd ≤ n * ty.wd := Nat.mul_le_mul_right _ (by omega)
    rw [Nat.succ_mul] at this
    omega
   have hy : ∀ i j, i < xs.length → j < ty.wd → ∃ x, l[i * ty.wd + j]? = some x := fun i j hi' hj' => ⟨_, List.getElem?_eq_getElem (hidx i j hi' hj')⟩
   have key := row_new (T := e) (cur := arr') (t := ty) (l := xs) (c := n) (ow := ow) (dl := dl) (blk := .row (some e) ty xs ow) (v := .slice (some ⟨w.heap.size, 0, none⟩) n n) (y := fun i j => (l[i * ty.wd + j]?).getD .nil) h hf hasz (by omega) (by
     have : n ≤ n * size := Nat.le_mul_of_pos_right _ (by omega)
     omega) (fun i x j cl hi' hj' => by
     obtain ⟨g, y, q1, q2, q3⟩ := g4 i x j cl hi' hj'
     obtain ⟨c1, c2⟩ := k3 i g q1
     have hjn : j < size := by rw [← c1]; exact (List.getElem?_eq_some_iff.1 q2).1
     rw [c2 j hjn, hwd] at q2
     obtain ⟨u, p1, _, _⟩ := hrl.2 _ _ q2
     refine ⟨u, p1, ?_⟩
     rw [q2]
     rw [Nat.zero_add, p1] at q3
     exact q3) (fun i j hi' hj' k hk => by
     obtain ⟨x, hx⟩ := hy i j hi' hj'
     rw [hx] at hk
     exact o2 x (List.mem_of_getElem? hx) k (rows_own hk)) (fun h0 i j hi' hj' => by
     obtain ⟨x, hx⟩ := hy i j hi' hj'
     rw [hx]
     exact ⟨o1 h0 x (List.mem_of_getElem? hx), o2 x (List.mem_of_getElem? hx)⟩) (fun _ i j i' j' k hi1 hj1 hi2 hj2 hk hk' => by
     obtain ⟨x, hx⟩ := hy i j hi1 hj1
     obtain ⟨x', hx'⟩ := hy i' j' hi2 hj2
     rw [hx] at hk
     rw [hx'] at hk'
     have := o3 _ _ x x' k hx hx' hk hk'
     have hpos : 0 < ty.wd := by omega
     constructor
     ·have q1 : (i * ty.wd + j) / ty.wd = i := by rw [Nat.mul_comm, Nat.mul_add_div hpos, Nat.div_eq_of_lt hj1]; omega
      have q2 : (i' * ty.wd + j') / ty.wd = i' := by rw [Nat.mul_comm, Nat.mul_add_div hpos, Nat.div_eq_of_lt hj2]; omega
      rw [← q1, ← q2, this]
     ·have q1 : (i * ty.wd + j) % ty.wd = j := by rw [Nat.mul_comm, Nat.mul_add_mod, Nat.mod_eq_of_lt hj1]
      have q2 : (i' * ty.wd + j') % ty.wd = j' := by rw [Nat.mul_comm, Nat.mul_add_mod, Nat.mod_eq_of_lt hj2]
      rw [← q1, ← q2, this])
   rw [hlen] at key
   show RowOk _ _ _ _ _ _ _ _
   have hv : (E.push st.tb w.heap.size base (.slice (some ⟨w.heap.size, 0, none⟩) n n) ow dl).hv base = .slice (some ⟨w.heap.size, 0, none⟩) n n := by simp [Env.push]
   rw [hv]
   exact key
  ·refine ⟨rfl, fun e' t' l' d' hl' => ?_⟩
   have hv : (E.push st.tb w.heap.size base (.slice (some ⟨w.heap.size, 0, none⟩) n n) ow dl).hv base = .slice (some ⟨w.heap.size, 0, none⟩) n n := by simp [Env.push]
   rw [hv]
   exact ⟨t', l', .here⟩
end
end Go.Proofs.YtpgglbnagphgoaaGreat
/- make and append. -/
namespace Go.Proofs.YtpgglbnagphgoaaGreat
open Go.RowKit
open SR (opt)

section
variable {P : Program} {Γ : Cfg} {W0 w : World} {E0 E : Env} {nl N base : Nat} {st : ASt} {a : Act} {o : Oper} {tb : Tb}

theorem own1_cst (tb : Tb) (v : Value) : own1 tb (cst1 v) = (true, []) := by
 unfold cst1
 split
 ·split <;> rfl
 ·rfl
 ·rename_i s
  cases Nat.ble s.size 9223372036854775807 <;> rfl
 ·rfl
 ·rfl
theorem rows1_cst (v : Value) : rows1 (cst1 v) = [] := by
 unfold cst1
 split
 ·split <;> rfl
 ·rfl
 ·rename_i s
  cases Nat.ble s.size 9223372036854775807 <;> rfl
 ·rfl
 ·rfl
theorem zeros_mem {v : Value} {l : List A1} (hz : zeros v = some l) : ∀ x ∈ l, ∃ u, x = cst1 u := by
 unfold zeros at hz
 cases h : v.cells.toList.all Value.oneCell' with
 | true =>
  rw [h] at hz
  injection hz with hz
  subst hz
  intro x hx
  obtain ⟨u, _, rfl⟩ := List.mem_map.1 hx
  exact ⟨u, rfl⟩
 | false => rw [h] at hz; cases hz
theorem run_makeS {t e : TypeId} {i : TypeInfo} {z : Value} {n : Int} (he : sliceOf P t = some e) (hi : P.info? e = some i) (hz : i.zero = some z) (h0 : 0 ≤ n) (h1 : n ≤ 1000000000000) (hb : i.bytes * n ≤ 140737488355328) :
  (Instr.makeSlice t (.int .i64 n) (.int .i64 n)).run P w = .ok (.slice (some ⟨w.heap.size, 0, none⟩) n.toNat n.toNat) (w.alloc (.cells ((Array.range (n.toNat * i.size)).map (z.cells[· % z.cells.size]!)) e)) := by
 have hw : IntKind.i64.wrap n = n := IntWalk.i64_in n (by omega)
 have hnn : ¬ n < 0 := by omega
 have hbb : ¬ ((i.bytes : Int) * n > 2 ^ 48) := by
  have : (2 : Int) ^ 48 = 281474976710656 := by decide
  omega
 have hll : ¬ n > n := by omega
 simp only [Instr.makeSlice, Sem.run_bind, run_underlying (sliceOf_some he), Result.andThen_ok, asInt, asIntOf, Sem.run_pure, typeInfo, run_program, hi, hw, hnn, hbb, hll, decide_false, Bool.or_false, Bool.false_eq_true, if_false, sizeOf, Sem.run_ite, run_askRoom]
 by_cases h : n.toNat * i.size = 0
 ·have e0 : ∀ (f : Nat → Value), (Array.range 0).map f = #[] := fun f => by simp
  simp only [h, e0, if_true]
  simp [newRow, newObj, Sem.run]
 ·simp [h, zeroValue, typeInfo, hi, hz, newRow, newObj, Sem.run]
theorem op_makeSlice (h : Sat W0 E0 nl N st E a w) (hd : ∀ d, o.dst = some d → d < N) {t : TypeId} {n c : Operand} (ho : o.op = .makeSlice t n c) (hp : (step P Γ base o st).pre) (Q : Exit → Act → World → Prop) : o.wp P a w (After W0 E0 nl N st o (step P Γ base o st)) Q := by
 simp only [step, ho] at hp
 obtain ⟨hf, hp⟩ := bif_bad.1 hp
 simp only [opt_pre] at hp
 obtain ⟨e, he, ty, hty, z, hz, size, hsz, bytes, hby, n', hn, c', hc, hp⟩ := hp
 obtain ⟨hb, hp⟩ := bif_bad.1 hp
 have hb' := hb
 simp only [Bool.and_eq_true, Bool.not_eq_true'] at hb'
 obtain ⟨⟨hb1, hb3⟩, hb4⟩ := hb'
 have hwd := (beq_iff _ _).1 hb1
 have hzl := (beq_iff _ _).1 hb3
 have h0 := beq_no.1 hb4
 obtain ⟨i, zv, hi, hzv, hzz⟩ := zeroT_some hz
 have hr0 := zeros_ok (w := w) (E := E) (st := st) hzz
 obtain ⟨i2, hi2, hsi⟩ := sizeT_some hsz
 rw [hi] at hi2
 injection hi2 with hi2
 subst hi2
 have hbi : i.bytes = bytes := by
  unfold bytesT at hby
  rw [hi] at hby
  simpa using hby
 have hzsz : zv.cells.size = size := by rw [hr0.1, hzl]
 split at hp
 ·rename_i m m' _
  obtain ⟨he1, _⟩ := int_of (h.ev1 hn)
  obtain ⟨he2, _⟩ := int_of (h.ev1 hc)
  obtain ⟨⟨hmm, hm0, hm1, hm2⟩, hp3⟩ := hp
  have hmm : m = m' := hmm
  subst hmm
  obtain ⟨x, _, hout, hx⟩ := decT_ok h (us := fun j => (zv.cells[j]?).getD undef) (k := 0) (fun j y hj => by
   obtain ⟨u, q1, _, q3⟩ := hr0.2 j y hj
   rw [Nat.zero_add, q1]
   exact q3) hp3
  have hout2 : (step P Γ base o st).outs { val := .one (.sl base []), ins := [(base, .row (some e) ty (repl m x) true)] } := by
   simp only [step, ho, hf, cond_true, opt, he, hty, hz, hsz, hby, hn, hc, hb]
   exact hout _ rfl
  have hrun : (execOp a.eval o).run P w = .ok (.value (.slice (some ⟨w.heap.size, 0, none⟩) (Int.toNat m) (Int.toNat m))) (w.alloc (.cells ((Array.range (Int.toNat m * i.size)).map (zv.cells[· % zv.cells.size]!)) e)) := by
   have := run_makeS (P := P) (w := w) he hi hzv (n := m) hm0 hm1 (by rw [hbi]; exact hm2)
   simp [execOp, ho, he1, he2, this]
  have hlen : (repl m x).length = Int.toNat m := by simp [repl]
  have hrr := rep_ok hr0 (Int.toNat m) (by omega)
  rw [hzl, ← hsi] at hrr
  refine new_op hrun hout2 (h.newBlk (v := .slice (some ⟨w.heap.size, 0, none⟩) (Int.toNat m) (Int.toNat m)) (ow := true) (dl := []) hf hd ?_ ⟨rfl, fun e' t' l' d' hl' => ?_⟩) Q
  ·have hv : (E.push st.tb w.heap.size base (.slice (some ⟨w.heap.size, 0, none⟩) (Int.toNat m) (Int.toNat m)) true []).hv base = .slice (some ⟨w.heap.size, 0, none⟩) (Int.toNat m) (Int.toNat m) := by simp [Env.push]
   have key := row_new (T := e) (cur := (Array.range (Int.toNat m * i.size)).map (zv.cells[· % zv.cells.size]!)) (t := ty) (l := repl m x) (c := Int.toNat m) (ow := true) (dl := []) (blk := .row (some e) ty (repl m x) true) (v := .slice (some ⟨w.heap.size, 0, none⟩) (Int.toNat m) (Int.toNat m)) (y := fun _ j => (z[j]?).getD .nil) h hf (by simp [hsi, hwd]) (by omega) (by
     have : (m : Int) ≤ 1000000000000 := hm1
     omega) (fun p y j cl hp' hj' => by
     have hpl : p < (repl m x).length := (List.getElem?_eq_some_iff.1 hp').1
     have hy : y = x := by
      simp only [repl, List.getElem?_replicate] at hp'
      split at hp'
      ·injection hp' with hp'; exact hp'.symm
      ·cases hp'
     subst hy
     obtain ⟨q, k1, k2⟩ := hx j cl hj'
     have hjl : j < z.length := (List.getElem?_eq_some_iff.1 k1).1
     obtain ⟨u, g1, _, _⟩ := hr0.2 j q k1
     refine ⟨u, ?_, by rw [k1]; rw [Nat.zero_add, g1] at k2; exact k2⟩
     have hlt : p * ty.wd + j < Int.toNat m * i.size := by
      rw [hlen] at hpl
      have : (p + 1) * ty.wd ≤ Int.toNat m * ty.wd := Nat.mul_le_mul_right _ hpl
      rw [Nat.succ_mul] at this
      rw [hsi, hwd]
      omega
     rw [Array.getElem?_map, Array.getElem?_range, if_pos hlt]
     simp only [Option.map_some, Option.some.injEq]
     have hmod : (p * ty.wd + j) % zv.cells.size = j := by
      rw [hzsz, hwd, Nat.mul_comm, Nat.mul_add_mod, Nat.mod_eq_of_lt (by omega)]
     rw [hmod]
     have hjs : j < zv.cells.size := by omega
     rw [getElem!_pos zv.cells _ hjs]
     rw [Array.getElem?_eq_getElem hjs] at g1
     injection g1) (fun p j hp' hj' k hk => by
     cases hq : z[j]? with
     | none => rw [hq] at hk; cases hk
     | some q =>
      obtain ⟨u, rfl⟩ := zeros_mem hzz q (List.mem_of_getElem? hq)
      rw [hq] at hk
      simp only [Option.getD_some, rows1_cst] at hk
      cases hk) (fun _ p j hp' hj' => by
     cases hq : z[j]? with
     | none => exact ⟨rfl, fun k hk => by cases hk⟩
     | some q =>
      obtain ⟨u, rfl⟩ := zeros_mem hzz q (List.mem_of_getElem? hq)
      simp only [Option.getD_some, own1_cst]
      exact ⟨trivial, fun k hk => by cases hk⟩) (fun _ p j p' j' k _ _ _ _ hk _ => by
     cases hq : z[j]? with
     | none => rw [hq] at hk; cases hk
     | some q =>
      obtain ⟨u, rfl⟩ := zeros_mem hzz q (List.mem_of_getElem? hq)
      rw [hq] at hk
      simp only [Option.getD_some, own1_cst] at hk
      cases hk)
   rw [hlen] at key
   show RowOk _ _ _ _ _ _ _ _
   rw [hv]
   exact key
  ·have hv : (E.push st.tb w.heap.size base (.slice (some ⟨w.heap.size, 0, none⟩) (Int.toNat m) (Int.toNat m)) true []).hv base = .slice (some ⟨w.heap.size, 0, none⟩) (Int.toNat m) (Int.toNat m) := by simp [Env.push]
   rw [hv]
   exact ⟨t', l', .here⟩
 ·exact hp.elim
end
end Go.Proofs.YtpgglbnagphgoaaGreat
/- append. -/
namespace Go.Proofs.YtpgglbnagphgoaaGreat
open Go.RowKit
open SR (opt)

section
variable {P : Program} {Γ : Cfg} {W0 w : World} {E0 E : Env} {nl N base : Nat} {st : ASt} {a : Act} {o : Oper} {tb : Tb}

def SrcCell (w : World) (A : Option Addr) (t : Ty) (i j : Nat) (v : Value) : Prop := ∃ b off, A = some ⟨b, off, none⟩ ∧ w.cell? ⟨b, off + (i * t.wd + j), none⟩ = some v
theorem src_cells {G : Nat → Prop} {ad : Addr} {c : Nat} {t : Ty} {l : List t.den} (h : RepC w G (.slice (some ad) l.length c) ⟨.list t, l⟩) :
  ∃ news : List Value, news.length = l.length * t.wd ∧ (∀ j u, news[j]? = some u → w.cell? (ad.add j) = some u) ∧ (∀ u ∈ news, u.oneCell' = true) ∧
   ∀ i x j cl, l[i]? = some x → (t.cells x)[j]? = some cl → ∃ u, news[i * t.wd + j]? = some u ∧ SrcCell w (some ad) t i j u ∧ RepC w G u cl := by
 by_cases hl : l = []
 ·subst hl
  exact ⟨[], by simp, (fun j u hj => by simp at hj), (fun u hu => by simp at hu), (fun i x j cl hi => by simp at hi)⟩
 generalize hq : Value.slice (some ad) l.length c = q at h
 generalize hz : (⟨_, _⟩ : Cell) = z at h
 cases h with
 | list g h1 h2 hA hr =>
  injection hz with z1 z2
  injection z1 with z1
  subst z1
  cases z2
  injection hq with q1 q2 q3
  obtain ⟨b, off, e2, hF, hlt, hcell⟩ := hA hl
  rw [← q1] at e2
  injection e2 with e2
  subst e2
  have hel : ∀ q, q < l.length * t.wd → ∃ x cl, l[q / t.wd]? = some x ∧ (t.cells x)[q % t.wd]? = some cl := fun q hq => by
   have hpos : 0 < t.wd := by
    rcases Nat.eq_zero_or_pos t.wd with h0 | h0
    ·rw [h0] at hq; omega
    ·exact h0
   have h1 : q / t.wd < l.length := Nat.div_lt_of_lt_mul (by rw [Nat.mul_comm]; exact hq)
   have h2 : q % t.wd < (t.cells l[q / t.wd]).length := by rw [t.cells_len]; exact Nat.mod_lt _ hpos
   exact ⟨_, _, List.getElem?_eq_getElem h1, List.getElem?_eq_getElem h2⟩
  refine ⟨(List.range (l.length * t.wd)).map fun q => g (q / t.wd) (q % t.wd), by simp, fun j u hj => ?_, fun u hu => ?_, fun i x j cl hi hj => ?_⟩
  ·simp only [List.getElem?_map, Option.map_eq_some_iff] at hj
   obtain ⟨k, hk, rfl⟩ := hj
   obtain ⟨k1, k2⟩ := List.getElem?_eq_some_iff.1 hk
   simp at k1 k2
   subst k2
   obtain ⟨x, cl, hx, hcl⟩ := hel j k1
   rw [add_eq, ← hcell _ x _ cl hx hcl]
   congr 2
   have := Nat.div_add_mod j t.wd
   rw [Nat.mul_comm] at this
   omega
  ·obtain ⟨k, hk, rfl⟩ := List.mem_map.1 hu
   obtain ⟨x, cl, hx, hcl⟩ := hel k (by simpa using hk)
   exact (hr _ x _ cl hx hcl).one
  ·have hi' := (List.getElem?_eq_some_iff.1 hi).1
   have hj' : j < t.wd := by rw [← t.cells_len x]; exact (List.getElem?_eq_some_iff.1 hj).1
   have hlt : i * t.wd + j < l.length * t.wd := by
    have : (i + 1) * t.wd ≤ l.length * t.wd := Nat.mul_le_mul_right _ hi'
    rw [Nat.succ_mul] at this
    omega
   have hd : (i * t.wd + j) / t.wd = i := by rw [Nat.mul_comm, Nat.mul_add_div (by omega), Nat.div_eq_of_lt hj']; omega
   have hm : (i * t.wd + j) % t.wd = j := by rw [Nat.mul_comm, Nat.mul_add_mod, Nat.mod_eq_of_lt hj']
   refine ⟨g i j, ?_, ⟨b, off, rfl, hcell i x j cl hi hj⟩, hr i x j cl hi hj⟩
   rw [List.getElem?_map, List.getElem?_range hlt]
   simp [hd, hm]
 | _ => cases hz
theorem row_owns {F B : Nat → Prop} {eo : Option TypeId} {v : Value} {t : Ty} {l : List t.den} {d : Bool} (h : RowOk w F B eo v t l d) : ∃ (xs : List Value) (e : TypeId), (∀ e', eo = some e' → e = e') ∧ w.ownsRow 0 e t.wd v l.length xs ∧ (∀ g, v.ownBlock = some g → B g ∧ g < w.heap.size) ∧
  ∃ S : Nat → Nat → Nat → Prop, (∀ i j b, S i j b → B b ∧ v.ownBlock ≠ some b) ∧ (∀ i j i' j' b, S i j b → S i' j' b → i = i' ∧ j = j') ∧
   ∀ i x j cl, l[i]? = some x → (t.cells x)[j]? = some cl → ∃ u, xs[i * t.wd + j]? = some u ∧ if d then OwnC w (S i j) u cl else RepC w F u cl := by
 rcases h with ⟨rfl, rfl⟩ | ⟨b, c, e0, cur, g, S, rfl, hB, hh, he, hs, hc, hm, hg, hS, hd, hr⟩
 ·exact ⟨[], eo.getD 0, (fun e' he => by rw [he]; rfl), ⟨by simp, .inl ⟨rfl, rfl⟩⟩, (fun g hg => by cases hg), (fun _ _ _ => False), (fun i j b (h : False) => h.elim), (fun i j i' j' b (h : False) => h.elim), (fun i x j cl hi => by simp at hi)⟩
 ·have hle : l.length * t.wd ≤ cur.size := by rw [hs]; exact Nat.mul_le_mul_right _ hc
  refine ⟨cur.toList.take (l.length * t.wd), e0, he, ⟨by simp; omega, .inr ⟨b, c, cur, rfl, Nat.zero_le _, hh, hc, by simpa [maxLen] using hm, hs, rfl⟩⟩, fun g hg => ?_, S, fun i j d hd => ⟨(hS i j d hd).1, fun h => ?_⟩, hd, fun i x j cl hi hj => ⟨g i j, ?_, hr i x j cl hi hj⟩⟩
  ·simp only [Value.ownBlock, Option.some.injEq] at hg
   subst hg
   exact ⟨hB, (Array.getElem?_eq_some_iff.1 hh).1⟩
  ·simp only [Value.ownBlock, Option.some.injEq] at h
   exact (hS i j d hd).2 h.symm
  ·have hi' := (List.getElem?_eq_some_iff.1 hi).1
   have hj' : j < t.wd := by rw [← t.cells_len x]; exact (List.getElem?_eq_some_iff.1 hj).1
   have : (i + 1) * t.wd ≤ l.length * t.wd := Nat.mul_le_mul_right _ hi'
   rw [Nat.succ_mul] at this
   rw [List.getElem?_take, if_pos (by omega)]
   simpa using hg i x j cl hi hj

theorem run_append_at (t ty e e0 : TypeId) (i : TypeInfo) (z : Value) (size bytes : Nat) (ht : P.underlying t = some (.slice e)) (hi : P.info? e = some i) (hz : i.zero = some z)
  (hsize : i.size = size) (hby : i.bytes = bytes) (hzs : z.cells.size = size) (hsz : 0 < size) (v : Value) (n : Nat) (xs : List Value) (hown : w.ownsRow 0 e0 size v n xs)
  (a : Addr) (m c : Nat) (news : List Value) (hl : news.length = m * size) (hnews : ∀ j u, news[j]? = some u → w.cell? (a.add j) = some u) (h1 : ∀ u ∈ news, u.oneCell' = true)
  (h63 : n + m ≤ maxLen) (hbytes : (n + m) * bytes ≤ 140737488355328) :
  ∃ v' w' e1, (Builtin.append_ #[t, t] ty #[v, .slice (some a) m c]).run P w = .ok v' w' ∧ (e1 = e0 ∨ e1 = e) ∧ w'.ownsRow 0 e1 size v' (n + m) (xs ++ news) ∧ w.grownBy w' v.ownBlock ∧ (v'.ownBlock = v.ownBlock ∨ v'.ownBlock = some w.heap.size) := by
 rcases hown with ⟨hx, ⟨rfl, rfl⟩ | ⟨g, cap, cur, rfl, _, hg, hnc, hcm, hcs, htake⟩⟩
 ·obtain ⟨v', w', r1, r2, r3, _, r5⟩ := run_append_own_at (P := P) w 0 t ty e i z size bytes ht hi hz hsize hby hzs hsz (.slice none 0 0) 0 xs ⟨hx, .inl ⟨rfl, rfl⟩⟩ a m c news hl hnews h1 h63 hbytes (Nat.zero_le _)
  exact ⟨v', w', e, r1, .inr rfl, r2, r3, r5⟩
 ·subst hsize
  subst hby
  have hsmall : n + m ≤ 9223372036854775807 := by simp only [maxLen] at h63; omega
  have hlen : (xs ++ news).length = (n + m) * i.size := by rw [List.length_append, hx, hl, Nat.add_mul]
  by_cases hroom : n + m ≤ cap
  ·have hfit : n * i.size + news.length ≤ cur.size := by rw [hl, hcs, ← Nat.add_mul]; exact Nat.mul_le_mul_right _ hroom
   have hf := run_firstCells_some (P := P) w i.size m a m c news hl hnews
   have hst := run_storeCells_at P g (n * i.size) e0 news 0 cur w hg (by simpa using hfit) h1
   simp only [Nat.add_zero] at hst
   refine ⟨.slice (some ⟨g, 0, none⟩) (n + m) cap, w.setRow g (cur.toList.take (n * i.size) ++ news ++ cur.toList.drop (n * i.size + news.length)).toArray, e0, ?_, .inl rfl, ⟨hlen, .inr ⟨g, cap, _, rfl, Nat.zero_le _, setRow_heap w g cur _ e0 _ hg, hroom, hcm, ?_, ?_⟩⟩, ⟨rfl, rfl, rfl, by simp, fun k _ hk => setRow_other w g k _ (fun e => hk (by simp [Value.ownBlock, e]))⟩, .inl rfl⟩
   ·simp [Builtin.append_, run_underlying ht, sizeOf, typeInfo, hi, Builtin.lenOf, hroom, hf, Addr.add_lit, hst]
   ·simp only [List.size_toArray, List.length_append, List.length_take, List.length_drop, Array.length_toList]
    omega
   ·rw [htake, ← hlen]
    exact List.take_left
  ·have holds : ∀ j u, xs[j]? = some u → w.cell? ((⟨g, 0, none⟩ : Addr).add j) = some u := World.ownsRow.cells (e := e0) (g := g) ⟨hx, .inr ⟨g, cap, cur, rfl, Nat.zero_le _, hg, hnc, hcm, hcs, htake⟩⟩ rfl
   have hr := run_append_grow (P := P) w t ty e i z ht hi hz ⟨g, 0, none⟩ n cap xs hx holds a m c news hl hnews (by omega) (by omega) (growslice_fits (by omega) hbytes)
   have hge := grownCap_ge w (n + m) cap e
   refine ⟨_, _, e, hr, .inr rfl, ⟨hlen, .inr ⟨w.heap.size, _, _, rfl, Nat.zero_le _, heap_alloc_new w.drew _, hge, grownCap_le_maxLen w (n + m) cap e h63, ?_, ?_⟩⟩, ⟨rfl, rfl, rfl, by simp, fun k hk _ => heap_alloc_old w.drew _ hk⟩, .inr rfl⟩
   ·simp only [Array.size_append, List.size_toArray, size_zeroCells, hzs, hx, hl, ← Nat.add_mul]
    congr 1
    omega
   ·simp only [Array.toList_append, List.append_assoc]
    rw [← List.append_assoc, ← hlen]
    exact List.take_left
def Env.app (E : Env) (tb : Tb) (id : Nat) (v : Value) (ow : Bool) (dl : List Nat) : Env := {
 hd := E.hd
 hv := fun i => if i = id then v else E.hv i
 bs := fun i b => if i = id then v.ownBlock = some b ∨ (ow = true ∧ ∃ k, k ∈ dl ∧ (lk tb k).isSome = true ∧ E.bs k b) else E.bs i b
 ro := E.ro }

theorem append_core (h : Sat W0 E0 nl N st E a w) (hf : st.fresh base = true) {ty te e : TypeId} {i : TypeInfo} {z : Value} {t : Ty} (ht : P.underlying ty = some (.slice e)) (hi : P.info? e = some i) (hz : i.zero = some z) (hsize : i.size = t.wd) (hzs : z.cells.size = t.wd) (hpos : 0 < t.wd)
  {hvv : Value} {l1 : List t.den} {d1 : Bool} {B1 : Nat → Prop} {eo : Option TypeId} (heo : ∀ e', eo = some e' → e' = e) (hrow : RowOk w (Fz w E st.tb) B1 eo hvv t l1 d1) (dls dl : List Nat) (hB1 : ∀ b, B1 b → ∃ k, k ∈ dls ∧ (lk st.tb k).isSome = true ∧ E.bs k b)
  {A : Option Addr} {c : Nat} {l2 : List t.den} {G : Nat → Prop} (hr : RepC w G (.slice A l2.length c) ⟨.list t, l2⟩) {rx : List Nat} (hG : ∀ b, G b → Fz w E st.tb b ∨ ∃ k, k ∈ rx ∧ (lk st.tb k).isSome = true ∧ E.bs k b) (hrx : ∀ k ∈ rx, k ∉ dls) (hdd : ∀ k ∈ dl, k ∉ dls)
  (hfro : (∀ (x : t.den) (j : Nat) (cl : Cell), (t.cells x)[j]? = some cl → ∀ t' l', cl ≠ ⟨.list t', l'⟩) ∨ ∀ k ∈ rx, k ∈ dl) (ow : Bool) (S2 : Nat → Nat → Nat → Prop) (hS2 : ∀ i j b, S2 i j b → ∃ k, k ∈ dl ∧ (lk st.tb k).isSome = true ∧ E.bs k b) (hS2d : ∀ i j i' j' b, S2 i j b → S2 i' j' b → i = i' ∧ j = j')
  (hown : ow = true → ∀ i x j cl v, l2[i]? = some x → (t.cells x)[j]? = some cl → SrcCell w A t i j v → OwnC w (S2 i j) v cl)
  (hb1 : (l1.length + l2.length) * i.bytes ≤ 140737488355328) (hb2 : l1.length + l2.length ≤ 1000000000000) {dst : Option Nat} (hdN : ∀ d, dst = some d → d < N) :
  ∃ v' w', (Builtin.append_ #[ty, ty] te #[hvv, .slice A l2.length c]).run P w = .ok v' w' ∧
   Sat W0 E0 nl N ⟨putF dst (.one (.sl base [])) st.fr, (base, .row eo t (l1 ++ l2) (d1 && ow)) :: erl (dls ++ dl) st.tb, st.nx⟩ (E.app st.tb base v' (d1 && ow) (dls ++ dl)) (a.put dst v') w' := by
 obtain ⟨xs, eb, heb, ho, hob, S1, hS1, hS1d, hc1⟩ := row_owns hrow
 -- the run
 have hex : ∃ (v' : Value) (w' : World) (news : List Value) (e1 : TypeId), (Builtin.append_ #[ty, ty] te #[hvv, .slice A l2.length c]).run P w = .ok v' w' ∧ (e1 = eb ∨ e1 = e) ∧ w'.ownsRow 0 e1 t.wd v' (l1.length + l2.length) (xs ++ news) ∧ w.grownBy w' hvv.ownBlock ∧
   (v'.ownBlock = hvv.ownBlock ∨ v'.ownBlock = some w.heap.size) ∧ ∀ i x j cl, l2[i]? = some x → (t.cells x)[j]? = some cl → ∃ u, news[i * t.wd + j]? = some u ∧ SrcCell w A t i j u ∧ RepC w G u cl := by
  cases A with
  | some ad =>
   obtain ⟨news, n1, n2, n3, n4⟩ := src_cells hr
   obtain ⟨v', w', e1, r1, re, r2, r3, r5⟩ := run_append_at (P := P) (w := w) ty te e eb i z t.wd i.bytes ht hi hz hsize rfl hzs hpos hvv l1.length xs ho ad l2.length c news n1 n2 n3 (by simp only [maxLen]; omega) hb1
   exact ⟨v', w', news, e1, r1, re, r2, r3, r5, n4⟩
  | none =>
   have hl2 : l2 = [] := isNone_list hr rfl
   subst hl2
   refine ⟨hvv, w, [], eb, ?_, .inl rfl, by simpa using ho, World.grownBy.refl _ _, .inl rfl, (fun i x j cl hi => by simp at hi)⟩
   rcases ho.2 with ⟨rfl, _⟩ | ⟨g, cap, cur, rfl, _, _, hnc, _⟩
   ·simp [Builtin.append_, run_underlying ht, sizeOf, typeInfo, hi, Builtin.lenOf, Builtin.firstCells]
   ·simp [Builtin.append_, run_underlying ht, sizeOf, typeInfo, hi, Builtin.lenOf, Builtin.firstCells, hnc, storeCells]
 obtain ⟨v', w', news, e1, hrun, re, r2, r3, r5, hc2⟩ := hex
 have he1 : ∀ e', eo = some e' → e1 = e' := fun e' he' => by
  have h1 := heo e' he'
  have h2 := heb e' he'
  rcases re with re | re <;> rw [re]
  ·exact h2
  ·exact h1.symm
 refine ⟨v', w', hrun, ?_⟩
 obtain ⟨f1, f2, f3, f4⟩ := fresh_ok hf
 have hvlt : ∀ b, v'.ownBlock = some b → b < w'.heap.size := fun b hb => by
  rcases r2.2 with ⟨rfl, _⟩ | ⟨g, cap, cur, rfl, _, hg, _⟩
  ·cases hb
  ·simp only [Value.ownBlock, Option.some.injEq] at hb
   subst hb
   exact (Array.getElem?_eq_some_iff.1 hg).1
 have hC1 : ∀ i, (i = base ∨ i ∈ dls ++ dl) → (lk ((base, Blk.row eo t (l1 ++ l2) (d1 && ow)) :: erl (dls ++ dl) st.tb) i).isSome = true → i = base := fun i hi hs => by
  rcases hi with rfl | hi
  ·rfl
  ·refine Classical.byContradiction fun hne => ?_
   rw [lk_cons, if_neg hne, lk_erl, if_pos hi] at hs
   cases hs
 have hch : Chg st E w ⟨putF dst (.one (.sl base [])) st.fr, (base, .row eo t (l1 ++ l2) (d1 && ow)) :: erl (dls ++ dl) st.tb, st.nx⟩ (E.app st.tb base v' (d1 && ow) (dls ++ dl)) w' (fun i => i = base ∨ i ∈ dls ++ dl) := by
  refine ⟨fun i hi => ?_, fun b hb hn => ?_, r3.size, fun i b hi hs hb => ?_, fun i j b hi hj hsi hsj _ _ => by rw [hC1 i hi hsi, hC1 j hj hsj], rfl, r3.os, r3.tape, r3.output⟩
  ·have h1 : i ≠ base := fun e => hi (.inl e)
   have h2 : i ∉ dls ++ dl := fun e => hi (.inr e)
   refine ⟨by rw [lk_cons, if_neg h1, lk_erl, if_neg h2], rfl, by simp [Env.app, h1], ?_⟩
   funext b
   simp [Env.app, h1]
  ·refine r3.block b hb fun e => ?_
   obtain ⟨k, k1, k2, k3⟩ := hB1 b (hob b e.symm).1
   exact hn k (.inr (List.mem_append.2 (.inl k1))) k2 k3
  ·have hid := hC1 i hi hs
   subst hid
   simp only [Env.app, if_true] at hb
   rcases hb with hb | ⟨_, k, k1, k2, k3⟩
   ·refine ⟨hvlt b hb, ?_⟩
    rcases r5 with r5 | r5
    ·rw [r5] at hb
     obtain ⟨k, k1, k2, k3⟩ := hB1 b (hob b hb).1
     exact .inl ⟨k, .inr (List.mem_append.2 (.inl k1)), k2, k3⟩
    ·rw [r5] at hb
     injection hb with hb
     exact .inr (by omega)
   ·exact ⟨Nat.lt_of_lt_of_le (h.mine k b k2 k3).1 r3.size, .inl ⟨k, .inr k1, k2, k3⟩⟩
 have hk : ∀ j X, j ≠ base → KeepId w E st.tb w' (E.app st.tb base v' (d1 && ow) (dls ++ dl)) ((base, .row eo t (l1 ++ l2) (d1 && ow)) :: erl (dls ++ dl) st.tb) j X := fun j X hj => by
  by_cases hd : j ∈ dls ++ dl
  ·have hn : lk ((base, Blk.row eo t (l1 ++ l2) (d1 && ow)) :: erl (dls ++ dl) st.tb) j = none := by rw [lk_cons, if_neg hj, lk_erl, if_pos hd]
   exact ⟨fun f vs hl => by (rw [hn] at hl; cases hl), fun e t l d hl => by (rw [hn] at hl; cases hl)⟩
  ·exact hch.keep h (fun hc => hc.elim hj hd) X
 have hhv : (E.app st.tb base v' (d1 && ow) (dls ++ dl)).hv base = v' := by simp [Env.app]
 have hone : v'.oneCell' = true := by
  rcases r2.2 with ⟨rfl, _⟩ | ⟨g, cap, cur, rfl, _⟩ <;> rfl
 refine h.chg hch (fun j y hy => ?_) (fun j g vs hj hl => goodL_of (f4 j g vs hl) hk) (fun j b hj hl => ?_) (fun j hj hc hs => ?_) ?_ ?_
 ·have hold : lk st.fr j = some y → GoodV w E st.tb w' (E.app st.tb base v' (d1 && ow) (dls ++ dl)) ((base, .row eo t (l1 ++ l2) (d1 && ow)) :: erl (dls ++ dl) st.tb) y := fun hy => goodV_of (f3 j y hy) hk
  cases dst with
  | none => exact .inl ⟨hy, rfl, hold hy⟩
  | some d =>
   simp only [putF] at hy
   rw [lk_cons] at hy
   split at hy
   ·rename_i e1
    subst e1
    injection hy with hy
    subst hy
    refine .inr ⟨v', by simp [Act.put, h.size, hdN _ rfl], hone, fun e' t' l' d' hl' => ?_⟩
    rw [hhv]
    exact ⟨t', l', .here⟩
   ·rename_i e1
    exact .inl ⟨hy, by simp only [Act.put]; rw [Array.getElem?_setIfInBounds_ne (fun e' => e1 e'.symm)], hold hy⟩
 ·have hid : j = base := hC1 j hj (by rw [hl]; rfl)
  subst hid
  rw [lk_cons, if_pos rfl] at hl
  injection hl with hl
  subst hl
  show RowOk w' _ _ _ _ _ _ _
  rw [hhv]
  rcases r2.2 with ⟨rfl, h0⟩ | ⟨g, cap, cur, rfl, _, hg, hnc, hcm, hcs, htk⟩
  ·exact .inl ⟨rfl, List.eq_nil_of_length_eq_zero (by simpa using h0)⟩
  ·have hxl : xs.length = l1.length * t.wd := ho.1
   have hcur : ∀ q u, (xs ++ news)[q]? = some u → cur[q]? = some u := fun q u hq => by
    rw [← htk, List.getElem?_take] at hq
    split at hq
    ·simpa using hq
    ·cases hq
   have hcellv : ∀ p x j cl, (l1 ++ l2)[p]? = some x → (t.cells x)[j]? = some cl → ∃ u, cur[p * t.wd + j]? = some u ∧
     ((p < l1.length ∧ if d1 then OwnC w (S1 p j) u cl else RepC w (Fz w E st.tb) u cl) ∨ (l1.length ≤ p ∧ l2[p - l1.length]? = some x ∧ SrcCell w A t (p - l1.length) j u ∧ RepC w G u cl)) := fun p x j cl hp hj => by
    by_cases hlt : p < l1.length
    ·rw [List.getElem?_append_left hlt] at hp
     obtain ⟨u, h1, h2⟩ := hc1 p x j cl hp hj
     refine ⟨u, hcur _ u ?_, .inl ⟨hlt, h2⟩⟩
     rw [List.getElem?_append_left ((List.getElem?_eq_some_iff.1 h1).1)]
     exact h1
    ·rw [List.getElem?_append_right (by omega)] at hp
     obtain ⟨u, h1, h2, h3⟩ := hc2 _ x j cl hp hj
     refine ⟨u, hcur _ u ?_, .inr ⟨by omega, hp, h2, h3⟩⟩
     have hq : p * t.wd + j = l1.length * t.wd + ((p - l1.length) * t.wd + j) := by
      have : p = l1.length + (p - l1.length) := by omega
      have h2 : p * t.wd = l1.length * t.wd + (p - l1.length) * t.wd := by rw [← Nat.add_mul, ← this]
      omega
     rw [List.getElem?_append_right (by omega), hxl, hq, show l1.length * t.wd + ((p - l1.length) * t.wd + j) - l1.length * t.wd = (p - l1.length) * t.wd + j from by omega]
     exact h1
   have hlen : (l1 ++ l2).length = l1.length + l2.length := List.length_append
   have hbs : ∀ b, (E.app st.tb j (.slice (some ⟨g, 0, none⟩) (l1.length + l2.length) cap) (d1 && ow) (dls ++ dl)).bs j b ↔ (g = b ∨ ((d1 && ow) = true ∧ ∃ k, k ∈ dls ++ dl ∧ (lk st.tb k).isSome = true ∧ E.bs k b)) := fun b => by
    simp [Env.app, Value.ownBlock]
   have hS1k : ∀ i j b, S1 i j b → ∃ k, k ∈ dls ∧ (lk st.tb k).isSome = true ∧ E.bs k b := fun i j b hb => hB1 b (hS1 i j b hb).1
   have hS1g : ∀ i j b, S1 i j b → b ≠ g := fun i j b hb e1 => by
    subst e1
    rcases r5 with r5 | r5
    ·exact (hS1 i j _ hb).2 (by rw [← r5]; rfl)
    ·obtain ⟨k, k1, k2, k3⟩ := hS1k i j _ hb
     have := (h.mine k _ k2 k3).1
     simp only [Value.ownBlock, Option.some.injEq] at r5
     omega
   have hS2g : ∀ i j b, S2 i j b → b ≠ g := fun i j b hb e1 => by
    subst e1
    obtain ⟨k, k1, k2, k3⟩ := hS2 i j _ hb
    rcases r5 with r5 | r5
    ·obtain ⟨k', g1, g2, g3⟩ := hB1 _ (hob _ r5.symm).1
     exact hdd k k1 (h.disj k k' _ k2 g2 k3 g3 ▸ g1)
    ·have := (h.mine k _ k2 k3).1
     simp only [Value.ownBlock, Option.some.injEq] at r5
     omega
   have hsame : ∀ b, b < w.heap.size → (hvv.ownBlock ≠ some b) → w'.heap[b]? = w.heap[b]? := fun b hb hn => r3.block b hb fun e1 => hn e1.symm
   rw [← hlen]
   refine .inr ⟨g, cap, e1, cur, fun p q => (cur[p * t.wd + q]?).getD undef, fun p q b => (d1 && ow) = true ∧ ((p < l1.length ∧ S1 p q b) ∨ (l1.length ≤ p ∧ S2 (p - l1.length) q b)), rfl, by rw [hlen]; exact (hbs g).2 (.inl rfl), hg, he1, hcs, by rw [hlen]; exact hnc, by simpa [maxLen] using hcm, fun p x q cl hp hq => ?_, fun p q b hb => ?_, fun p q p' q' b hb hb' => ?_, fun p x q cl hp hq => ?_⟩
   ·obtain ⟨u, h1, _⟩ := hcellv p x q cl hp hq
    simp [h1]
   ·rw [hlen]
    obtain ⟨h0, ⟨_, hb⟩ | ⟨_, hb⟩⟩ := hb
    ·obtain ⟨k, k1, k2, k3⟩ := hS1k p q b hb
     exact ⟨(hbs b).2 (.inr ⟨h0, k, List.mem_append.2 (.inl k1), k2, k3⟩), hS1g p q b hb⟩
    ·obtain ⟨k, k1, k2, k3⟩ := hS2 _ q b hb
     exact ⟨(hbs b).2 (.inr ⟨h0, k, List.mem_append.2 (.inr k1), k2, k3⟩), hS2g _ q b hb⟩
   ·obtain ⟨h0, ⟨c1, hb⟩ | ⟨c1, hb⟩⟩ := hb <;> obtain ⟨_, ⟨c2, hb'⟩ | ⟨c2, hb'⟩⟩ := hb'
    ·exact hS1d p q p' q' b hb hb'
    ·obtain ⟨k, k1, k2, k3⟩ := hS1k p q b hb
     obtain ⟨k', g1, g2, g3⟩ := hS2 _ q' b hb'
     exact absurd k1 (h.disj k k' b k2 g2 k3 g3 ▸ hdd k' g1)
    ·obtain ⟨k, k1, k2, k3⟩ := hS1k p' q' b hb'
     obtain ⟨k', g1, g2, g3⟩ := hS2 _ q b hb
     exact absurd k1 (h.disj k k' b k2 g2 k3 g3 ▸ hdd k' g1)
    ·have := hS2d _ q _ q' b hb hb'
     omega
   ·obtain ⟨u, h1, h2⟩ := hcellv p x q cl hp hq
    simp only [h1, Option.getD_some]
    have hold : ∀ b, (∃ k, k ∈ dls ++ dl ∧ (lk st.tb k).isSome = true ∧ E.bs k b) → b < w.heap.size := fun b ⟨k, _, k2, k3⟩ => (h.mine k b k2 k3).1
    cases hdo : (d1 && ow) with
    | true =>
     simp only [if_true, true_and]
     simp only [Bool.and_eq_true] at hdo
     obtain ⟨hd1, how⟩ := hdo
     rcases h2 with ⟨c1, h2⟩ | ⟨c1, hx2, h2, h3⟩
     ·rw [hd1] at h2
      simp only [if_true] at h2
      refine h2.mono fun b hb => ⟨.inl ⟨c1, hb⟩, ?_⟩
      obtain ⟨k, k1, k2, k3⟩ := hS1k p q b hb
      exact hsame b (h.mine k b k2 k3).1 (hS1 p q b hb).2
     ·refine (hown how _ x q cl u hx2 hq h2).mono fun b hb => ⟨.inr ⟨c1, hb⟩, ?_⟩
      obtain ⟨k, k1, k2, k3⟩ := hS2 _ q b hb
      refine hsame b (h.mine k b k2 k3).1 fun e1 => ?_
      obtain ⟨k', g1, g2, g3⟩ := hB1 b (hob b e1).1
      exact hdd k k1 (h.disj k k' b k2 g2 k3 g3 ▸ g1)
    | false =>
     simp only [Bool.false_eq_true, if_false]
     -- all inner memory stays now
     have hfz : ∀ b, (∃ k, k ∈ dls ++ dl ∧ (lk st.tb k).isSome = true ∧ E.bs k b) → hvv.ownBlock ≠ some b → b ≠ g → Fz w' (E.app st.tb j (.slice (some ⟨g, 0, none⟩) (l1.length + l2.length) cap) false (dls ++ dl)) ((j, Blk.row eo t (l1 ++ l2) false) :: erl (dls ++ dl) st.tb) b := fun b ⟨k, k1, k2, k3⟩ hn hng => by
      refine ⟨Nat.lt_of_lt_of_le (h.mine k b k2 k3).1 r3.size, h.rok k2 k3, fun i hi hbi => ?_⟩
      by_cases hij : i = j
      ·subst hij
       simp only [Env.app, if_true, Value.ownBlock] at hbi
       rcases hbi with hbi | ⟨h0, _⟩
       ·injection hbi with hbi; exact hng hbi.symm
       ·cases h0
      ·rw [lk_cons, if_neg hij, lk_erl] at hi
       split at hi
       ·cases hi
       ·rename_i hnd
        simp only [Env.app, if_neg hij] at hbi
        exact hnd (h.disj k i b k2 hi k3 hbi ▸ k1)
     have hfz2 : ∀ b, Fz w E st.tb b → Fz w' (E.app st.tb j (.slice (some ⟨g, 0, none⟩) (l1.length + l2.length) cap) false (dls ++ dl)) ((j, Blk.row eo t (l1 ++ l2) false) :: erl (dls ++ dl) st.tb) b ∧ w'.heap[b]? = w.heap[b]? := fun b hb => by
      have := hch.fz b hb
      rw [hdo] at this
      exact this
     rw [hlen]
     rcases h2 with ⟨c1, h2⟩ | ⟨c1, hx2, h2, h3⟩
     ·cases d1 with
      | true =>
       simp only [if_true] at h2
       refine h2.rep.mono (fun b hb hlt => ?_) r3.size
       obtain ⟨k, k1, k2, k3⟩ := hS1k p q b hb
       exact ⟨hfz b ⟨k, List.mem_append.2 (.inl k1), k2, k3⟩ (hS1 p q b hb).2 (hS1g p q b hb), hsame b hlt (hS1 p q b hb).2⟩
      | false =>
       simp only [Bool.false_eq_true, if_false] at h2
       exact h2.mono (fun b hb _ => hfz2 b hb) r3.size
     ·rcases hfro with hfl | hfro
      ·exact (h3.scalar (hfl x q cl hq) : RepC w (fun _ => False) u cl).mono (fun b hb _ => hb.elim) r3.size
      ·refine h3.mono (fun b hb hlt => ?_) r3.size
       rcases hG b hb with hb | ⟨k, k1, k2, k3⟩
       ·exact hfz2 b hb
       ·have hn : hvv.ownBlock ≠ some b := fun e1 => by
         obtain ⟨k', g1, g2, g3⟩ := hB1 b (hob b e1).1
         exact hrx k k1 (h.disj k k' b k2 g2 k3 g3 ▸ g1)
        have hng : b ≠ g := fun e1 => by
         subst e1
         rcases r5 with r5 | r5
         ·exact hn r5.symm
         ·simp only [Value.ownBlock, Option.some.injEq] at r5
          omega
        exact ⟨hfz b ⟨k, List.mem_append.2 (.inr (hfro k k1)), k2, k3⟩ hn hng, hsame b hlt hn⟩
 ·exfalso
  have hid := hC1 j hc hs
  omega
 ·cases dst <;> exact h.defers
 ·cases dst <;> simp [Act.put, h.size]
end
end Go.Proofs.YtpgglbnagphgoaaGreat
/- append: the operation. -/
namespace Go.Proofs.YtpgglbnagphgoaaGreat
open Go.RowKit
open SR (opt)

section
variable {P : Program} {Γ : Cfg} {W0 w : World} {E0 E : Env} {nl N base : Nat} {st : ASt} {a : Act} {o : Oper} {tb : Tb}

theorem flat_cells {t : Ty} (h : flat t = true) (x : t.den) (j : Nat) (cl : Cell) (hj : (t.cells x)[j]? = some cl) (t' : Ty) (l' : List t'.den) : cl ≠ ⟨.list t', l'⟩ := by
 rintro rfl
 have h1 : (t.sig)[j]? = some (.list t') := Ty.cells_list hj
 have := (List.all_eq_true.1 h) _ (List.mem_of_getElem? h1)
 cases this
theorem src_ok (h : Sat W0 E0 nl N st E a w) {x : A1} {u : Value} (hx : RepA w E st.tb u x) {f : (t : Ty) → List t.den → SR} (hp : (listOf st.tb x f).pre) :
  ∃ (t : Ty) (l : List t.den) (A : Option Addr) (c : Nat) (G : Nat → Prop) (S : Nat → Nat → Nat → Prop), u = .slice A l.length c ∧ RepC w G (.slice A l.length c) ⟨.list t, l⟩ ∧ (f t l).pre ∧ (∀ e, (f t l).outs e → (listOf st.tb x f).outs e) ∧
   (∀ b, G b → Fz w E st.tb b ∨ ∃ i, i ∈ rows1 x ∧ (lk st.tb i).isSome = true ∧ E.bs i b) ∧ (∀ i j b, S i j b → ∃ k, k ∈ (own0 st.tb x).2 ∧ (lk st.tb k).isSome = true ∧ E.bs k b) ∧ (∀ i j i' j' b, S i j b → S i' j' b → i = i' ∧ j = j') ∧
   ((own0 st.tb x).1 = true → ∀ i y j cl v, l[i]? = some y → (t.cells y)[j]? = some cl → SrcCell w A t i j v → OwnC w (S i j) v cl) := by
 by_cases how : (own0 st.tb x).1 = true
 ·have hex : ∃ id e t l, x = .sl id [] ∧ lk st.tb id = some (.row e t l true) := by
   cases x with
   | sl id p =>
    cases p with
    | nil =>
     simp only [own0] at how
     split at how
     ·rename_i e t l hl; exact ⟨id, e, t, l, rfl, hl⟩
     ·cases how
    | cons q p => cases how
   | c y =>
    obtain ⟨ty, y⟩ := y
    cases ty with
    | list t => cases how
    | _ => exact hp.elim
   | sub => cases how
   | _ => exact hp.elim
  obtain ⟨id, e, t, l, rfl, hl⟩ := hex
  have hrow := (h.blks id _ hl : RowOk _ _ _ _ _ _ _ _)
  obtain ⟨t1, l1, hat⟩ := hx.2 e t l true hl
  obtain ⟨e1, _⟩ := hat.nil_inv
  have hmem : id ∈ (own0 st.tb (.sl id [])).2 := by simp [own0, hl]
  have hls : (lk st.tb id).isSome = true := by rw [hl]; rfl
  have hpre : (f t l).pre := by simpa only [listOf, hl, pathSR] using hp
  have hout : ∀ e, (f t l).outs e → (listOf st.tb (.sl id []) f).outs e := fun e he => by simpa only [listOf, hl, pathSR] using he
  rw [e1]
  rcases hrow with ⟨hv, rfl⟩ | ⟨b, c, e0, cur, g, S, hv, hB, hh, he, hs, hc, hm, hg, hS, hd, hr⟩
  ·rw [hv]
   exact ⟨t, [], none, 0, fun _ => False, fun _ _ _ => False, rfl, .list (l := []) (fun _ _ => default) (Nat.le_refl _) (by omega) (fun h => absurd rfl h) (fun i x j u hx => by simp at hx), hpre, hout, (fun b hb => hb.elim), (fun i j b (hb : False) => hb.elim), (fun i j i' j' b (hb : False) => hb.elim), (fun _ i y j cl v hi => by simp at hi)⟩
  ·have hrow' := (h.blks id _ hl : RowOk _ _ _ _ _ _ _ _).rep
   rw [hv] at hrow'
   rw [hv]
   refine ⟨t, l, _, c, _, S, rfl, hrow', hpre, hout, fun b hb => hb.imp_right fun hb => ⟨id, by simp [rows1], hls, hb⟩, fun i j b hb => ⟨id, hmem, hls, (hS i j b hb).1⟩, hd, fun _ i y j cl v hi hj hsrc => ?_⟩
   obtain ⟨b', off, e2, hcl⟩ := hsrc
   injection e2 with e2
   injection e2 with e3 e4
   subst e3 e4
   rw [cell_of_row w b _ cur e0 (0, 0) hh, Nat.zero_add, hg i y j cl hi hj] at hcl
   injection hcl with hcl
   rw [← hcl]
   simpa using hr i y j cl hi hj
 ·obtain ⟨t, l, A, c, G, h1, h2, h3, h4, h5⟩ := listOf_ok h hx hp
  exact ⟨t, l, A, c, G, fun _ _ _ => False, h1, by rw [← h1]; exact h2, h3, h4, h5, (fun i j b (hb : False) => hb.elim), (fun i j i' j' b (hb : False) => hb.elim), (fun ho => absurd ho how)⟩

theorem append_ok (h : Sat W0 E0 nl N st E a w) (hf : st.fresh base = true) {ty te : TypeId} {s x : A1} {u v : Value} (hs : RepA w E st.tb u s) (hx : RepA w E st.tb v x) (hp : (appendSR P Γ base st ty s x).pre) {dst : Option Nat} (hdN : ∀ d, dst = some d → d < N) :
  ∃ v' w' e E', (Builtin.append_ #[ty, ty] te #[u, v]).run P w = .ok v' w' ∧ (appendSR P Γ base st ty s x).outs e ∧ Sat W0 E0 nl N (e.app st dst) E' (a.put dst v') w' := by
 unfold appendSR at hp ⊢
 cases hsl : sliceOf P ty with
 | none => rw [hsl] at hp; exact hp.elim
 | some e =>
  simp only [hsl] at hp ⊢
  split at hp
  ·rename_i t bytes size ht hby hsz
   obtain ⟨hb, hp⟩ := bif_bad.1 hp
   simp only [ht, hby, hsz, hb, cond_true]
   simp only [Bool.and_eq_true, Bool.not_eq_true'] at hb
   obtain ⟨⟨hb1, hb2⟩, hb3⟩ := hb
   have hwd := (beq_iff _ _).1 hb1
   have h0 := beq_no.1 hb2
   obtain ⟨i, hi, hsi⟩ := sizeT_some hsz
   have hbi : i.bytes = bytes := by
    unfold bytesT at hby
    rw [hi] at hby
    simpa using hby
   have hz : ∃ z, i.zero = some z ∧ z.cells.size = size := by
    unfold zlen zeroT at hb3
    rw [hi] at hb3
    cases hz : i.zero with
    | none => simp [hz] at hb3
    | some z => simp only [Option.bind_some, hz] at hb3; exact ⟨z, rfl, (beq_iff _ _).1 hb3⟩
   obtain ⟨z, hzi, hzs⟩ := hz
   obtain ⟨t2, l2, A, c, G, S, rfl, hr, hp2, hout, hG, hS, hSd, hSo⟩ := src_ok h hx hp
   by_cases h2 : t2 = t
   ·subst h2
    simp only [dite_true] at hp2 hout
    cases hown : own0 st.tb x with
    | mk ow dl =>
     rw [hown] at hp2 hout
     rw [hown] at hS hSo
     simp only at hp2 hout hS hSo
     have core := fun {hvv : Value} {l1 : List t2.den} {d1 : Bool} {B1 : Nat → Prop} {eo : Option TypeId} (heo : ∀ e', eo = some e' → e' = e) (hrow : RowOk w (Fz w E st.tb) B1 eo hvv t2 l1 d1) (dls : List Nat) (hB1 : ∀ b, B1 b → ∃ k, k ∈ dls ∧ (lk st.tb k).isSome = true ∧ E.bs k b)
       (hrx : ∀ k ∈ rows1 x, k ∉ dls) (hdd : ∀ k ∈ (bif flat t2 then [] else dl), k ∉ dls) (hb1 : (l1.length + l2.length) * bytes ≤ 140737488355328) (hb2 : l1.length + l2.length ≤ 1000000000000) =>
      append_core (te := te) (N := N) (a := a) (base := base) (E0 := E0) (W0 := W0) (nl := nl) (st := st) (i := i) (z := z) (c := c) h hf (sliceOf_some hsl) hi hzi (by omega) (by omega) (by omega) heo hrow dls (bif flat t2 then [] else dl) hB1 hr hG hrx hdd
       (by
        cases hfl : flat t2 with
        | true => exact .inl fun x j cl hj t' l' => flat_cells hfl x j cl hj t' l'
        | false =>
         refine .inr fun k hk => ?_
         have := rows_own0 (tb := st.tb) hk
         rw [hown] at this
         exact this) (flat t2 || ow) (fun i j b => flat t2 = false ∧ S i j b) (fun i j b hb => by
        rw [hb.1]
        exact hS i j b hb.2) (fun i j i' j' b hb hb' => hSd i j i' j' b hb.2 hb'.2) (fun ho i y j cl v hi hj hsrc => by
        cases hfl : flat t2 with
        | true =>
         obtain ⟨b, off, rfl, hcell⟩ := hsrc
         obtain ⟨news, n1, n2, n3, n4⟩ := src_cells hr
         obtain ⟨q, q1, ⟨b', off', q2, q3⟩, q4⟩ := n4 i y j cl hi hj
         injection q2 with q2
         injection q2 with q5 q6
         subst q5 q6
         rw [hcell] at q3
         injection q3 with q3
         subst q3
         exact q4.own fun t' l' => flat_cells hfl y j cl hj t' l'
        | false =>
         rw [hfl] at ho
         exact (hSo ho i y j cl v hi hj hsrc).mono fun b hb => ⟨⟨rfl, hb⟩, rfl⟩) (dst := dst) (by rw [hbi]; exact hb1) hb2 hdN
     cases s with
     | sl id p => cases p with
      | cons q p => exact hp2.elim
      | nil =>
       cases hl : lk st.tb id with
       | none => simp only [hl] at hp2; exact hp2.elim
       | some bl => cases bl with
        | box f vs => simp only [hl] at hp2; exact hp2.elim
        | row e' t1 l1 d1 =>
         simp only [hl] at hp2 hout ⊢
         by_cases h1 : t1 = t2
         ·subst h1
          simp only [dite_true] at hp2 hout
          obtain ⟨hc, hp3⟩ := bif_bad.1 hp2
          have hc' := hc
          simp only [Bool.and_eq_true, Bool.not_eq_true'] at hc
          obtain ⟨⟨hc1, hc2⟩, hc3⟩ := hc
          have heo : ∀ x, e' = some x → x = e := fun x hx => by subst hx; exact of_decide_eq_true hc1
          obtain ⟨⟨hb1, hb2⟩, _⟩ := hp3
          obtain ⟨t3, l3, hat⟩ := hs.2 _ t1 l1 d1 hl
          obtain ⟨e1, _⟩ := hat.nil_inv
          have hrow : RowOk _ _ _ _ _ _ _ _ := h.blks id _ hl
          rw [← e1] at hrow
          obtain ⟨v', w', k1, k2⟩ := core heo hrow [id] (fun b hb => ⟨id, by simp, by rw [hl]; rfl, hb⟩) (fun k hk hk' => by
            simp only [List.mem_singleton] at hk'
            subst hk'
            rw [(mem?_iff _ _).2 hk] at hc3
            cases hc3) (fun k hk hk' => by
            simp only [List.mem_singleton] at hk'
            subst hk'
            rw [(mem?_iff _ _).2 hk] at hc2
            cases hc2) hb1 hb2
          refine ⟨v', w', { val := .one (.sl base []), ins := [(base, .row e' t1 (l1 ++ l2) (d1 && (flat t1 || ow)))], del := id :: (bif flat t1 then [] else dl) }, _, k1, ?_, k2⟩
          have ho2 := hout { val := .one (.sl base []), ins := [(base, .row e' t1 (l1 ++ l2) (d1 && (flat t1 || ow)))], del := id :: (bif flat t1 then [] else dl) } (by rw [hc']; exact rfl)
          simp only [dite_true] at ho2 ⊢
          exact ho2
         ·simp only [dif_neg h1] at hp2
          exact hp2.elim
     | nil =>
      obtain ⟨⟨hb1, hb2⟩, _⟩ := hp2
      have e1 : u = .slice none 0 0 := hs
      subst e1
      obtain ⟨v', w', k1, k2⟩ := core (hvv := .slice none 0 0) (l1 := []) (d1 := true) (B1 := fun _ => False) (eo := some e) (fun e' he => by injection he with he; exact he.symm) (.inl ⟨rfl, rfl⟩) [] (fun b hb => hb.elim) (fun k hk hk' => by cases hk') (fun k hk hk' => by cases hk') (by simpa using hb1) (by simpa using hb2)
      refine ⟨v', w', { val := .one (.sl base []), ins := [(base, .row (some e) t2 l2 (flat t2 || ow))], del := (bif flat t2 then [] else dl) }, _, k1, hout _ ?_, k2⟩
      exact rfl
     | _ => exact hp2.elim
   ·simp only [dif_neg h2] at hp2
    exact hp2.elim
  ·exact hp.elim
theorem op_append (h : Sat W0 E0 nl N st E a w) (hd : ∀ d, o.dst = some d → d < N) {c : Call} (ho : o.op = .call c) (hc : c.callee = .builtin .append) (hp : (step P Γ base o st).pre) (Q : Exit → Act → World → Prop) : o.wp P a w (After W0 E0 nl N st o (step P Γ base o st)) Q := by
 simp only [step, ho, opt_pre, hc] at hp
 obtain ⟨args, hargs, hp⟩ := hp
 split at hp
 ·rename_i t t' s x ht
  obtain ⟨hb, hp2⟩ := bif_bad.1 hp
  have hb' := hb
  simp only [Bool.and_eq_true] at hb
  have htt := (beq_iff _ _).1 hb.1
  subst htt
  obtain ⟨x1, m1, hl, hx1, hm⟩ := evL_cons hargs
  obtain ⟨x2, m2, hl2, hx2, hm2⟩ := evL_cons hm
  have := evL_nil hm2
  subst this
  subst hl2
  have hargs' : c.args = #[x1, x2] := by rw [← Array.toArray_toList (xs := c.args), hl]
  have htys : c.argTypes = #[t, t] := by rw [← Array.toArray_toList (xs := c.argTypes), ht]
  obtain ⟨v', w', e, E', k1, k2, k3⟩ := append_ok (te := o.type) h hb.2 (h.ev hx1 : RepA w E st.tb _ s) (h.ev hx2 : RepA w E st.tb _ x) hp2 hd
  refine new_op (u := v') (w1 := w') (e := e) (E1 := E') ?_ ?_ k3 Q
  ·rw [run_builtin ho hc, hargs', htys]
   simp [builtin, k1]
  ·simp only [step, ho, opt, hc, hargs, ht, hb', cond_true]
   exact k2
 ·exact hp.elim
end
end Go.Proofs.YtpgglbnagphgoaaGreat
/- A block of ours that has turned. -/
namespace Go.Proofs.YtpgglbnagphgoaaGreat
open Go.RowKit
open SR (opt)

section
variable {P : Program} {Γ : Cfg} {W0 w w' : World} {E0 E E' : Env} {nl N base : Nat} {st : ASt} {a : Act} {o : Oper} {tb : Tb}

theorem KeepId.no {tb' : Tb} {id : Nat} {T T' : Prop} (hk : KeepId w E tb w' E' tb' id T) (hn : ¬ T') : KeepId w E tb w' E' tb' id T' :=
 ⟨hk.box, fun e t l d hl => let ⟨e0, l0, d0, h1, h2, h3, _⟩ := hk.row e t l d hl; ⟨e0, l0, d0, h1, h2, h3, fun h => absurd h hn⟩⟩
theorem KeepId.all {tb' : Tb} {id : Nat} (hk : KeepId w E tb w' E' tb' id True) (T : Prop) : KeepId w E tb w' E' tb' id T :=
 ⟨hk.box, fun e t l d hl => let ⟨e0, l0, d0, h1, h2, h3, h4⟩ := hk.row e t l d hl; ⟨e0, l0, d0, h1, h2, h3, fun _ => h4 trivial⟩⟩
theorem lk_dropT {ids : List Nat} {fr : Fr} {i : Nat} {v : AV} (h : lk (dropT ids fr) i = some v) : v.thru ids = false ∧ lk fr i = some v := by
 induction fr with
 | nil => cases h
 | cons p fr ih =>
  obtain ⟨j, u⟩ := p
  simp only [dropT] at h
  cases hu : u.thru ids with
  | true =>
   rw [hu] at h
   simp only [cond_true] at h
   rw [lk_erl] at h
   rw [lk_cons]
   by_cases e : i = j
   ·subst e; simp at h
   ·rw [if_neg (by simpa using e)] at h
    rw [if_neg e]; exact ih h
  | false =>
   rw [hu] at h
   simp only [cond_false] at h
   rw [lk_cons] at h ⊢
   by_cases e : i = j
   ·rw [if_pos e] at h ⊢
    injection h with h
    subst h
    exact ⟨hu, rfl⟩
   ·rw [if_neg e] at h ⊢
    exact ih h
theorem thruL_ok {ids : List Nat} {l : List A1} (h : thruL ids l = false) : ∀ x ∈ l, thru1 ids x = false := by
 induction l with
 | nil => intro x hx; cases hx
 | cons y l ih =>
  simp only [thruL, Bool.or_eq_false_iff] at h
  intro x hx
  cases hx with
  | head => exact h.1
  | tail _ hx => exact ih h.2 x hx
theorem thruT_ok {ids : List Nat} {l : List (Bool × List A1)} (h : thruT ids l = false) : ∀ x ∈ l, thruL ids x.2 = false := by
 induction l with
 | nil => intro x hx; cases hx
 | cons y l ih =>
  simp only [thruT, Bool.or_eq_false_iff] at h
  intro x hx
  cases hx with
  | head => exact h.1
  | tail _ hx => exact ih h.2 x hx
theorem boxT_ok {ids : List Nat} {tb : Tb} (h : boxT ids tb = false) : ∀ i f vs, lk tb i = some (.box f vs) → thruL ids vs = false := by
 induction tb with
 | nil => intro i f vs hi; cases hi
 | cons p tb ih =>
  obtain ⟨j, b⟩ := p
  intro i f vs hi
  rw [lk_cons] at hi
  cases b with
  | box g us =>
   simp only [boxT, Bool.or_eq_false_iff] at h
   split at hi
   ·injection hi with hi
    injection hi with h1 h2
    subst h2
    exact h.1
   ·exact ih h.2 i f vs hi
  | row e t l d =>
   simp only [boxT] at h
   split at hi
   ·injection hi with hi
    cases hi
   ·exact ih h i f vs hi
theorem good1_kill {tb' : Tb} {ids : List Nat} {x : A1} (hx : thru1 ids x = false) (hk : ∀ id T, (id ∈ ids → ¬ T) → KeepId w E tb w' E' tb' id T) : Good1 w E tb w' E' tb' x := fun id hm => hk id _ fun hi ht => by
 have : thru1 ids x = true := by
  cases x with
  | sl j p => cases p with
   | nil => cases ht
   | cons q p => simp only [thru1] at ht ⊢; exact (mem?_iff _ _).2 (by have := (mem?_iff _ _).1 ht; simp at this; subst this; exact hi)
  | ptr j p k off => cases p with
   | nil => cases ht
   | cons q p => simp only [thru1] at ht ⊢; exact (mem?_iff _ _).2 (by have := (mem?_iff _ _).1 ht; simp at this; subst this; exact hi)
  | _ => cases ht
 rw [hx] at this
 cases this
theorem goodL_kill {tb' : Tb} {ids : List Nat} {l : List A1} (hx : thruL ids l = false) (hk : ∀ id T, (id ∈ ids → ¬ T) → KeepId w E tb w' E' tb' id T) : GoodL w E tb w' E' tb' l := fun x hm => good1_kill (thruL_ok hx x hm) hk
theorem goodV_kill {tb' : Tb} {ids : List Nat} {v : AV} (hx : v.thru ids = false) (hk : ∀ id T, (id ∈ ids → ¬ T) → KeepId w E tb w' E' tb' id T) : GoodV w E tb w' E' tb' v := by
 cases v with
 | one x => exact good1_kill hx hk
 | agg l => exact goodL_kill hx hk
 | tup l => exact fun c hc => goodL_kill (thruT_ok hx c hc) hk
theorem goodL_all {tb' : Tb} (l : List A1) (hk : ∀ id T, KeepId w E tb w' E' tb' id T) : GoodL w E tb w' E' tb' l := fun _ _ id _ => hk id _
theorem goodV_all {tb' : Tb} (v : AV) (hk : ∀ id T, KeepId w E tb w' E' tb' id T) : GoodV w E tb w' E' tb' v := by
 cases v with
 | one x => exact fun id _ => hk id _
 | agg l => exact goodL_all l hk
 | tup l => exact fun c _ => goodL_all c.2 hk

theorem Sat.turn (h : Sat W0 E0 nl N st E a w) {id : Nat} {b0 b1 : Blk} {dl kill : List Nat} {dst : Option Nat} {v : AV} {u : Value} (hdN : ∀ d, dst = some d → d < N) (hl : lk st.tb id = some b0) (hdl : id ∉ dl)
  (hE : ∀ i, i ≠ id → E'.hd i = E.hd i ∧ E'.hv i = E.hv i ∧ E'.bs i = E.bs i) (hhd : E'.hd id = E.hd id) (hhv : E'.hv id = E.hv id) (hbs : ∀ b, E'.bs id b → E.bs id b ∨ ∃ k, k ∈ dl ∧ (lk st.tb k).isSome = true ∧ E.bs k b)
  (hlent : 20 ≤ id ∨ dl = []) (hheap : ∀ b, b < w.heap.size → ¬ E.bs id b → w'.heap[b]? = w.heap[b]?) (hsize : w'.heap.size = w.heap.size) (hro : E'.ro = E.ro) (hos : w'.os = w.os) (htape : w'.tape = w.tape) (hout : w'.output = w.output)
  (hblk : BlkOk W0 w' E' ((id, b1) :: erl dl st.tb) id b1) (hkeep : KeepId w E st.tb w' E' ((id, b1) :: erl dl st.tb) id (kill = []))
  (hkill : kill = [] ∨ (kill = [id] ∧ boxT [id] st.tb = false)) (hv : RepV w' E' ((id, b1) :: erl dl st.tb) u v) :
  Sat W0 E0 nl N (Eff.app st dst { val := v, ins := [(id, b1)], del := dl, kill := kill }) E' (a.put dst u) w' := by
 have hC1 : ∀ i, (i = id ∨ i ∈ dl) → (lk ((id, b1) :: erl dl st.tb) i).isSome = true → i = id := fun i hi hs => by
  rcases hi with rfl | hi
  ·rfl
  ·refine Classical.byContradiction fun hne => ?_
   rw [lk_cons, if_neg hne, lk_erl, if_pos hi] at hs
   cases hs
 have hls : (lk st.tb id).isSome = true := by rw [hl]; rfl
 let fr' := putF dst v (killF kill st.fr)
 have hch : Chg st E w ⟨fr', (id, b1) :: erl dl st.tb, st.nx⟩ E' w' (fun i => i = id ∨ i ∈ dl) := by
  refine ⟨fun i hi => ?_, fun b hb hn => hheap b hb fun hb' => hn id (.inl rfl) hls hb', Nat.le_of_eq hsize.symm, fun i b hi hs hb => ?_, fun i j b hi hj hsi hsj _ _ => by rw [hC1 i hi hsi, hC1 j hj hsj], hro, hos, htape, hout⟩
  ·have h1 : i ≠ id := fun e => hi (.inl e)
   have h2 : i ∉ dl := fun e => hi (.inr e)
   exact ⟨by rw [lk_cons, if_neg h1, lk_erl, if_neg h2], hE i h1⟩
  ·have := hC1 i hi hs
   subst this
   rw [hsize]
   rcases hbs b hb with hb | ⟨k, k1, k2, k3⟩
   ·exact ⟨(h.mine i b hls hb).1, .inl ⟨i, .inl rfl, hls, hb⟩⟩
   ·exact ⟨(h.mine k b k2 k3).1, .inl ⟨k, .inr k1, k2, k3⟩⟩
 have hk : ∀ j T, (j = id → T → kill = []) → KeepId w E st.tb w' E' ((id, b1) :: erl dl st.tb) j T := fun j T hT => by
  by_cases hj : j = id
  ·subst hj
   by_cases ht : kill = []
   ·exact KeepId.all ⟨hkeep.box, fun e t l d hl => let ⟨e0, l0, d0, h1, h2, h3, h4⟩ := hkeep.row e t l d hl; ⟨e0, l0, d0, h1, h2, h3, fun _ => h4 ht⟩⟩ T
   ·exact hkeep.no fun hh => ht (hT rfl hh)
  ·by_cases hd : j ∈ dl
   ·have hn : lk ((id, b1) :: erl dl st.tb) j = none := by rw [lk_cons, if_neg hj, lk_erl, if_pos hd]
    exact ⟨fun f vs hl => by (rw [hn] at hl; cases hl), fun e t l d hl => by (rw [hn] at hl; cases hl)⟩
   ·exact hch.keep h (fun hc => hc.elim hj hd) T
 have hgood : ∀ (i : Nat) (y : AV), lk (killF kill st.fr) i = some y → lk st.fr i = some y ∧ GoodV w E st.tb w' E' ((id, b1) :: erl dl st.tb) y := fun i y hy => by
  rcases hkill with rfl | ⟨rfl, _⟩
  ·exact ⟨hy, goodV_all y fun j T => hk j T fun _ _ => rfl⟩
  ·obtain ⟨h1, h2⟩ := lk_dropT hy
   exact ⟨h2, goodV_kill h1 fun j T hT => hk j T fun e ht => absurd ht (hT (by simp [e]))⟩
 have e : Eff.app st dst { val := v, ins := [(id, b1)], del := dl, kill := kill } = ⟨fr', (id, b1) :: erl dl st.tb, st.nx⟩ := rfl
 rw [e]
 refine h.chg hch (fun j y hy => ?_) (fun j g vs hj hl' => ?_) (fun j b hj hl' => ?_) (fun j hj hc hs => ?_) ?_ ?_
 ·cases dst with
  | none => exact .inl ⟨(hgood j y hy).1, rfl, (hgood j y hy).2⟩
  | some d =>
   have hy2 : lk ((d, v) :: (killF kill st.fr)) j = some y := hy
   rw [lk_cons] at hy2
   by_cases e1 : j = d
   ·rw [if_pos e1] at hy2
    cases hy2
    subst e1
    exact .inr ⟨u, by simp [Act.put, h.size, hdN _ rfl], hv⟩
   ·rw [if_neg e1] at hy2
    exact .inl ⟨(hgood j y hy2).1, by simp only [Act.put]; rw [Array.getElem?_setIfInBounds_ne (fun e' => e1 e'.symm)], (hgood j y hy2).2⟩
 ·rcases hkill with rfl | ⟨rfl, hbT⟩
  ·exact goodL_all vs fun j T => hk j T fun _ _ => rfl
  ·exact goodL_kill (boxT_ok hbT j g vs hl') fun j T hT => hk j T fun e ht => absurd ht (hT (by simp [e]))
 ·have := hC1 j hj (by rw [hl']; rfl)
  subst this
  rw [lk_cons, if_pos rfl] at hl'
  injection hl' with hl'
  subst hl'
  exact hblk
 ·have := hC1 j hc hs
  subst this
  obtain ⟨g1, g2, g3⟩ := h.lent j hj hls
  refine ⟨by rw [hhd, g1], by rw [hhv, g2], fun b hb hlt => ?_⟩
  rcases hbs b hb with hb | ⟨k, k1, _⟩
  ·exact g3 b hb hlt
  ·rcases hlent with hl2 | rfl
   ·omega
   ·cases k1
 ·cases dst <;> exact h.defers
 ·cases dst <;> simp [Act.put, h.size]
end
end Go.Proofs.YtpgglbnagphgoaaGreat
/- copy; stores into boxes. -/
namespace Go.Proofs.YtpgglbnagphgoaaGreat
open Go.RowKit
open SR (opt)

section
variable {P : Program} {Γ : Cfg} {W0 w w' : World} {E0 E E' : Env} {nl N base : Nat} {st : ASt} {a : Act} {o : Oper} {tb : Tb}

theorem RepC.any {G F : Nat → Prop} {v : Value} {c : Cell} (h : RepC w G v c) (hc : ∀ t l, c ≠ ⟨.list t, l⟩) : RepC w' F v c := by
 cases h with
 | int h => exact .int h
 | bool => exact .bool
 | str h => exact .str h
 | junk h => exact .junk h
 | list => exact absurd rfl (hc _ _)
theorem row_flat {F B : Nat → Prop} {e : Option TypeId} {t : Ty} {l : List t.den} {d : Bool} {b c : Nat} {e0 : TypeId} {cur : Array Value} (hf : flat t = true) (hB : B b) (hh : w.heap[b]? = some (.cells cur e0 (0, 0))) (he : ∀ e', e = some e' → e0 = e')
  (hs : cur.size = c * t.wd) (hc : l.length ≤ c) (hm : c ≤ 9223372036854775807) (hcell : ∀ i x j u, l[i]? = some x → (t.cells x)[j]? = some u → ∃ v, cur[i * t.wd + j]? = some v ∧ ∃ w0 G, RepC w0 G v u) : RowOk w F B e (.slice (some ⟨b, 0, none⟩) l.length c) t l d := by
 refine .inr ⟨b, c, e0, cur, fun i j => (cur[i * t.wd + j]?).getD undef, fun _ _ _ => False, rfl, hB, hh, he, hs, hc, hm, fun i x j u hx hu => ?_, (fun i j d (hd : False) => hd.elim), (fun i j i' j' d (hd : False) => hd.elim), fun i x j u hx hu => ?_⟩
 ·obtain ⟨v, h1, _⟩ := hcell i x j u hx hu
  simp [h1]
 ·obtain ⟨v, h1, w0, G, h2⟩ := hcell i x j u hx hu
  simp only [h1, Option.getD_some]
  cases d with
  | true => simp only [if_true]; exact (h2.any (w' := w) (F := fun _ => False) (flat_cells hf x j u hu)).own (flat_cells hf x j u hu)
  | false => simp only [Bool.false_eq_true, if_false]; exact h2.any (flat_cells hf x j u hu)
theorem row_cells {F B : Nat → Prop} {e : Option TypeId} {v : Value} {t : Ty} {l : List t.den} {d : Bool} (h : RowOk w F B e v t l d) : (v = .slice none 0 0 ∧ l = []) ∨ ∃ (b c : Nat) (e0 : TypeId) (cur : Array Value),
  v = .slice (some ⟨b, 0, none⟩) l.length c ∧ B b ∧ w.heap[b]? = some (.cells cur e0 (0, 0)) ∧ (∀ e', e = some e' → e0 = e') ∧ cur.size = c * t.wd ∧ l.length ≤ c ∧ c ≤ 9223372036854775807 ∧
   ∀ i x j u, l[i]? = some x → (t.cells x)[j]? = some u → ∃ v, cur[i * t.wd + j]? = some v ∧ ∃ w0 G, RepC w0 G v u := by
 rcases h with h | ⟨b, c, e0, cur, g, S, hv, hB, hh, he, hs, hc, hm, hg, hS, hd, hr⟩
 ·exact .inl h
 ·refine .inr ⟨b, c, e0, cur, hv, hB, hh, he, hs, hc, hm, fun i x j u hx hu => ⟨g i j, hg i x j u hx hu, w, ?_⟩⟩
  have := hr i x j u hx hu
  split at this
  ·exact ⟨_, this.rep⟩
  ·exact ⟨_, this⟩
theorem flat_at {v v' : Value} {t t' : Ty} {l : List t.den} {l' : List t'.den} {q : Nat × Nat} {p : List (Nat × Nat)} (hf : flat t = true) (h : At w v t l (q :: p) v' t' l') : False := by
 cases h with
 | step hx hn hc h =>
  rw [nth_eq] at hn
  exact flat_cells hf _ _ _ hn _ _ rfl
theorem keep_flat {id : Nat} {e : Option TypeId} {t : Ty} {l l' : List t.den} {d d' : Bool} (hl : lk st.tb id = some (.row e t l d)) (hf : flat t = true) (hlen : l'.length = l.length) (T : Prop) : KeepId w E st.tb w' E ((id, .row e t l' d') :: erl [] st.tb) id T := by
 refine ⟨fun f vs h => ?_, fun e1 t1 l1 d1 h => ?_⟩
 ·rw [lk_cons, if_pos rfl] at h
  cases h
 ·rw [lk_cons, if_pos rfl] at h
  cases h
  refine ⟨e, l, d, hl, rfl, hlen, fun _ p v t1 l1 hat => ?_⟩
  cases p with
  | nil =>
   obtain ⟨h1, h2⟩ := hat.nil_inv
   cases h2
   exact ⟨l', by rw [h1]; exact .here, hlen⟩
  | cons q p => exact (flat_at hf hat).elim

theorem setRow_heap_ne (w : World) (b : Nat) (c : Array Value) (i : Nat) (h : i ≠ b) : (w.setRow b c).heap[i]? = w.heap[i]? := setRow_other w b i c h

theorem copy_core (h : Sat W0 E0 nl N st E a w) {id : Nat} {e : Option TypeId} {ty : Ty} {l : List ty.den} {d : Bool} (hl : lk st.tb id = some (.row e ty l d)) (hf : flat ty = true) (hwd : ty.wd = 1) {lo n cap : Nat} {Ad : Option Addr} (hlo : lo + n ≤ l.length)
  (hdst : 0 < n → ∃ b cap', E.hv id = .slice (some ⟨b, 0, none⟩) l.length cap' ∧ Ad = some ⟨b, lo, none⟩) {A : Option Addr} {c : Nat} {l2 : List ty.den} {G : Nat → Prop} (hr : RepC w G (.slice A l2.length c) ⟨.list ty, l2⟩) {T te el : TypeId}
  (hu : P.underlying T = some (.slice el)) (hs : (P.info? el).map (·.size) = some 1) {dst : Option Nat} (hdN : ∀ d, dst = some d → d < N) :
  ∃ w', (Builtin.copy_ #[T, T] te #[.slice Ad n cap, .slice A l2.length c]).run P w = .ok (goInt (min l2.length n : Nat)) w' ∧
   Sat W0 E0 nl N (Eff.app st dst { val := .one (.c (ci (min l2.length n : Nat))), ins := [(id, .row e ty (l.take lo ++ l2.take n ++ l.drop (lo + min l2.length n)) d)] }) E (a.put dst (goInt (min l2.length n : Nat))) w' := by
 have hrow : RowOk _ _ _ _ _ _ _ _ := h.blks id _ hl
 have hc2 : l2.length ≤ 9223372036854775807 := hr.okC
 have hval : ∀ (W : World) (tb' : Tb), RepV W E tb' (goInt (min l2.length n : Nat)) (.one (.c (ci (min l2.length n : Nat)))) := fun W tb' => RepC.int (k := .i64) (n := ((min l2.length n : Nat) : Int)) (by have := Nat.min_le_left l2.length n; simp only [okI]; omega)
 have hlen : (l.take lo ++ l2.take n ++ l.drop (lo + min l2.length n)).length = l.length := by simp; omega
 have turn := fun {w'} (hheap : ∀ b, b < w.heap.size → ¬ E.bs id b → w'.heap[b]? = w.heap[b]?) (hsize : w'.heap.size = w.heap.size) (hos : w'.os = w.os) (htape : w'.tape = w.tape) (hout : w'.output = w.output) (hblk : BlkOk W0 w' E ((id, .row e ty (l.take lo ++ l2.take n ++ l.drop (lo + min l2.length n)) d) :: erl [] st.tb) id (.row e ty (l.take lo ++ l2.take n ++ l.drop (lo + min l2.length n)) d)) =>
  h.turn (E' := E) (dl := []) (kill := []) (dst := dst) (u := goInt (min l2.length n : Nat)) (v := .one (.c (ci (min l2.length n : Nat)))) hdN hl (fun hh => by cases hh) (fun i _ => ⟨rfl, rfl, rfl⟩) rfl rfl (fun b hb => .inl hb) (.inr rfl) hheap hsize rfl hos htape hout hblk (keep_flat hl hf hlen _) (.inl rfl) (hval _ _)
 by_cases h0 : min l2.length n = 0
 ·have hsame : l.take lo ++ l2.take n ++ l.drop (lo + min l2.length n) = l := by
   have : l2.take n = [] := by
    rcases Nat.min_eq_zero_iff.1 h0 with h1 | h1
    ·simp [List.eq_nil_of_length_eq_zero h1]
    ·simp [h1]
   rw [this, h0]; simp
  refine ⟨w, ?_, turn (fun _ _ _ => rfl) rfl rfl rfl rfl ?_⟩
  ·have := run_copy_none (P := P) w T T te el Ad A n cap l2.length c hu hs h0
   rw [h0]; exact this
  ·show RowOk _ _ _ _ _ _ _ _
   rw [hsame]
   rcases row_cells hrow with ⟨k1, k2⟩ | ⟨b, c, e0, cur, hv, hB, hh, he, hs, hc, hm, hcell⟩
   ·exact .inl ⟨k1, k2⟩
   ·rw [hv]; exact row_flat hf hB hh he hs hc hm hcell
 ·have hn0 : 0 < n := by omega
  obtain ⟨b, cap', hv, rfl⟩ := hdst hn0
  rcases row_cells hrow with ⟨k1, k2⟩ | ⟨b', c', e0, cur, hv', hB, hh, he, hsz, hc, hm, hcell⟩
  ·subst k2; simp at hlo; omega
  rw [hv] at hv'
  injection hv' with q1 q2 q3
  injection q1 with q1
  injection q1 with q1 _
  subst q1
  have hA : ∃ ad, A = some ad := by
   cases A with
   | some ad => exact ⟨ad, rfl⟩
   | none => have := isNone_list hr rfl; subst this; simp at h0
  obtain ⟨ad, rfl⟩ := hA
  obtain ⟨news, n1, n2, n3, n4⟩ := src_cells hr
  rw [hwd, Nat.mul_one] at n1
  have hcs : cur.size = c' := by rw [hsz, hwd]; omega
  have hrun := run_copy_row (P := P) w T T te el b lo n cap ad l2.length c cur e0 (news.take n) hu hs hh (by simp only [List.length_take, n1]; exact Nat.min_comm _ _) (fun j v hj => by
   rw [List.getElem?_take] at hj
   split at hj
   ·exact n2 j v hj
   ·cases hj) (by simp only [List.length_take, n1]; omega) (fun v hv => n3 v (List.mem_of_mem_take hv))
  have hnl : (news.take n).length = min l2.length n := by simp only [List.length_take, n1]; exact Nat.min_comm _ _
  rw [hnl] at hrun
  refine ⟨_, hrun, turn (fun i hi hn => setRow_heap_ne w b _ i fun e1 => hn (e1 ▸ hB)) (size_setRow w b _) rfl rfl rfl ?_⟩
  show RowOk _ _ _ _ _ _ _ _
  rw [hv, show l.length = (l.take lo ++ l2.take n ++ l.drop (lo + min l2.length n)).length from hlen.symm]
  refine row_flat (c := cap') hf hB (setRow_heap w b cur _ e0 _ hh) he ?_ (by omega) (by omega) fun i x j u hi hj => ?_
  ·rw [hwd]; simp [n1]; omega
  ·have hj0 : j = 0 := by
    have := (List.getElem?_eq_some_iff.1 hj).1
    rw [ty.cells_len, hwd] at this
    omega
   subst hj0
   rw [hwd]
   simp only [Nat.mul_one, Nat.add_zero]
   by_cases c1 : i < lo
   ·rw [List.append_assoc, List.getElem?_append_left (by simp; omega), List.getElem?_take, if_pos c1] at hi
    obtain ⟨v, g1, g2⟩ := hcell i x 0 u hi hj
    rw [hwd] at g1
    simp only [Nat.mul_one, Nat.add_zero] at g1
    refine ⟨v, ?_, g2⟩
    have hsz2 : i < (cur.toList.take lo).length := by simp; omega
    simp only [List.getElem?_toArray, List.append_assoc]
    rw [List.getElem?_append_left hsz2, List.getElem?_take, if_pos c1]
    simpa using g1
   ·by_cases c2 : i < lo + min l2.length n
    ·rw [List.append_assoc, List.getElem?_append_right (by simp; omega), List.getElem?_append_left (by simp; omega)] at hi
     have hlo' : (l.take lo).length = lo := by simp; omega
     rw [hlo', List.getElem?_take, if_pos (by omega)] at hi
     obtain ⟨v, g1, g2, g3⟩ := n4 (i - lo) x 0 u hi hj
     rw [hwd] at g1
     simp only [Nat.mul_one, Nat.add_zero] at g1
     refine ⟨v, ?_, _, _, g3⟩
     have hl3 : (cur.toList.take lo).length = lo := by simp; omega
     simp only [List.getElem?_toArray, List.append_assoc]
     rw [List.getElem?_append_right (by omega), hl3, List.getElem?_append_left (by simp [n1]; omega), List.getElem?_take, if_pos (by omega)]
     exact g1
    ·have hl3 : (l.take lo ++ l2.take n).length = lo + min l2.length n := by simp; omega
     rw [List.getElem?_append_right (by omega), hl3, List.getElem?_drop, show lo + min l2.length n + (i - (lo + min l2.length n)) = i from by omega] at hi
     obtain ⟨v, g1, g2⟩ := hcell i x 0 u hi hj
     rw [hwd] at g1
     simp only [Nat.mul_one, Nat.add_zero] at g1
     refine ⟨v, ?_, g2⟩
     have hl4 : (cur.toList.take lo ++ news.take n).length = lo + min l2.length n := by simp [n1]; omega
     simp only [List.getElem?_toArray]
     rw [List.getElem?_append_right (by omega), hl4, List.getElem?_drop, show lo + min l2.length n + (i - (lo + min l2.length n)) = i from by omega]
     simpa using g1
end
end Go.Proofs.YtpgglbnagphgoaaGreat
/- copy; stores into boxes. -/
namespace Go.Proofs.YtpgglbnagphgoaaGreat
open Go.RowKit
open SR (opt)

section
variable {P : Program} {Γ : Cfg} {W0 w w' : World} {E0 E E' : Env} {nl N base : Nat} {st : ASt} {a : Act} {o : Oper} {tb : Tb}

theorem op_copy (h : Sat W0 E0 nl N st E a w) (hd : ∀ d, o.dst = some d → d < N) {c : Call} (ho : o.op = .call c) (hc : c.callee = .builtin .copy) (hp : (step P Γ base o st).pre) (Q : Exit → Act → World → Prop) : o.wp P a w (After W0 E0 nl N st o (step P Γ base o st)) Q := by
 simp only [step, ho, opt_pre, hc] at hp
 obtain ⟨args, hargs, hp⟩ := hp
 split at hp
 ·rename_i t t' y x ht
  obtain ⟨hb, hp2⟩ := bif_bad.1 hp
  have hb' := hb
  simp only [Bool.and_eq_true, decide_eq_true_eq] at hb
  have htt := (beq_iff _ _).1 hb.1
  subst htt
  obtain ⟨x1, m1, hl, hx1, hm⟩ := evL_cons hargs
  obtain ⟨x2, m2, hl2, hx2, hm2⟩ := evL_cons hm
  have := evL_nil hm2
  subst this
  subst hl2
  have hargs' : c.args = #[x1, x2] := by rw [← Array.toArray_toList (xs := c.args), hl]
  have htys : c.argTypes = #[t, t] := by rw [← Array.toArray_toList (xs := c.argTypes), ht]
  have hy : RepA w E st.tb (a.eval x1) y := h.ev hx1
  have hx : RepA w E st.tb (a.eval x2) x := h.ev hx2
  cases hel : sliceOf P t with
  | none => rw [hel] at hb; cases hb.2
  | some el =>
   rw [hel] at hb
   have hs1 : (P.info? el).map (·.size) = some 1 := hb.2
   have hrunb : ∀ v w1, (Builtin.copy_ #[t, t] o.type #[a.eval x1, a.eval x2]).run P w = .ok v w1 → (execOp a.eval o).run P w = .ok (.value v) w1 := fun v w1 hv => by
    rw [run_builtin ho hc, hargs', htys]
    simp [builtin, hv]
   have go : ∀ (id lo : Nat) (n : Option Nat), (copySR st id lo n x).pre → (∀ e ty l d, lk st.tb id = some (.row e ty l d) → ty.wd = 1 → ∃ (m cap : Nat) (Ad : Option Addr), (match n with | none => m = l.length ∧ lo = 0 | some n => m = n) ∧ a.eval x1 = .slice Ad m cap ∧ lo + m ≤ l.length ∧ (0 < m → ∃ b cap', E.hv id = .slice (some ⟨b, 0, none⟩) l.length cap' ∧ Ad = some ⟨b, lo, none⟩)) →
     ∃ v w1 e E1, (Builtin.copy_ #[t, t] o.type #[a.eval x1, a.eval x2]).run P w = .ok v w1 ∧ (copySR st id lo n x).outs e ∧ Sat W0 E0 nl N (e.app st o.dst) E1 (a.put o.dst v) w1 := fun id lo n hq hdst => by
    unfold copySR at hq ⊢
    cases hlk : lk st.tb id with
    | none => rw [hlk] at hq; exact hq.elim
    | some bl => cases bl with
     | box f vs => rw [hlk] at hq; exact hq.elim
     | row e ty l d =>
      simp only [hlk] at hq ⊢
      obtain ⟨hfw, hq⟩ := bif_bad.1 hq
      simp only [hfw, cond_true]
      simp only [Bool.and_eq_true] at hfw
      have hwd := (beq_iff _ _).1 hfw.2
      obtain ⟨ty2, l2, A, cc, G, e1, hr, hq2, hout, _⟩ := listOf_ok h hx hq
      by_cases h2 : ty2 = ty
      ·subst h2
       simp only [dite_true] at hq2 hout
       rw [e1] at hr
       obtain ⟨m, cap, Ad, hmn, e2, hlo, hA⟩ := hdst e ty2 l d hlk hwd
       obtain ⟨w1, k1, k2⟩ := copy_core (P := P) (te := o.type) (dst := o.dst) (el := el) (T := t) (cap := cap) h hlk hfw.1 hwd hlo hA hr (sliceOf_some hel) hs1 hd
       rw [e1, e2]
       cases n with
       | none =>
        obtain ⟨rfl, rfl⟩ := hmn
        have he : l.take 0 ++ l2.take l.length ++ l.drop (0 + min l2.length l.length) = l2.take l.length ++ l.drop (min l2.length l.length) := by simp
        rw [he] at k2
        exact ⟨_, w1, _, E, k1, hout _ rfl, k2⟩
       | some n =>
        have hmn : m = n := hmn
        subst hmn
        exact ⟨_, w1, _, E, k1, hout _ ⟨hlo, rfl⟩, k2⟩
      ·simp only [dif_neg h2] at hq2
       exact hq2.elim
   have fin : ∀ (id lo : Nat) (n : Option Nat), (∀ e, (copySR st id lo n x).outs e → (step P Γ base o st).outs e) → (∃ v w1 e E1, (Builtin.copy_ #[t, t] o.type #[a.eval x1, a.eval x2]).run P w = .ok v w1 ∧ (copySR st id lo n x).outs e ∧ Sat W0 E0 nl N (e.app st o.dst) E1 (a.put o.dst v) w1) →
     o.wp P a w (After W0 E0 nl N st o (step P Γ base o st)) Q := fun id lo n h1 ⟨v, w1, e, E1, h2, h3, h4⟩ => new_op (hrunb v w1 h2) (h1 e h3) h4 Q
   cases y with
   | sl id p => cases p with
    | cons q p => exact hp2.elim
    | nil =>
     refine fin id 0 none (fun e he => by simp only [step, ho, opt, hc, hargs, ht, hb', cond_true]; exact he) (go id 0 none hp2 fun e ty l d hlk hwd => ?_)
     obtain ⟨t3, l3, hat⟩ := hy.2 _ ty l d hlk
     obtain ⟨e1, _⟩ := hat.nil_inv
     have hrow : RowOk _ _ _ _ _ _ _ _ := h.blks id _ hlk
     rw [e1]
     rcases row_cells hrow with ⟨k1, k2⟩ | ⟨b, c, e0, cur, hv, _⟩
     ·subst k2
      exact ⟨0, 0, none, ⟨rfl, rfl⟩, k1, by simp, fun h0 => absurd h0 (by omega)⟩
     ·exact ⟨l.length, c, some ⟨b, 0, none⟩, ⟨rfl, rfl⟩, hv, by omega, fun _ => ⟨b, c, hv, rfl⟩⟩
   | sub id lo n =>
    refine fin id lo (some n) (fun e he => by simp only [step, ho, opt, hc, hargs, ht, hb', cond_true]; exact he) (go id lo (some n) hp2 fun e ty l d hlk hwd => ?_)
    obtain ⟨A, c, hv, hn, hc', hlo, hA⟩ := hy.2 _ ty l d hlk
    refine ⟨n, c, A, rfl, hv, hlo, fun h0 => ?_⟩
    obtain ⟨b, cap, g1, g2⟩ := hA h0
    exact ⟨b, cap, g1, by rw [g2, hwd, Nat.mul_one]⟩
   | _ => exact hp2.elim
 ·exact hp.elim
theorem run_store_row {t : TypeId} {x v : Operand} (ho : o.op = .store t x v) {n : Nat} {ag : Bool} (ht : tinfo P t = some (n, ag)) {b off : Nat} (hx : a.eval x = .pointer (some ⟨b, off, none⟩)) {ws : Array Value} (hws : (a.eval v).cells = ws) (hn : ws.size = n) {cur : Array Value} {e0 : TypeId}
  (hh : w.heap[b]? = some (.cells cur e0 (0, 0))) (hfit : off + n ≤ cur.size) (h1 : ∀ u ∈ ws.toList, u.oneCell' = true) :
  (execOp a.eval o).run P w = .ok .skip (w.setRow b (cur.toList.take off ++ ws.toList ++ cur.toList.drop (off + ws.toList.length)).toArray) := by
 have hst := run_storeCells_at P b off e0 ws.toList 0 cur w hh (by simpa [hn] using hfit) h1
 obtain ⟨i, d, h2, h3, h4, h5⟩ := tinfo_some ht
 subst hws
 simp [execOp, ho, hx, Instr.storeAt, Instr.sureAddr, storeVar, sizeOf, typeInfo, h2, h4, hn] at hst ⊢
 simp [hst]

theorem scal_own {x : A1} (h : num1 x = true) : own1 tb x = (true, []) := by
 cases x with
 | c y =>
  obtain ⟨ty, y⟩ := y
  cases ty with
  | list t => cases h
  | _ => rfl
 | lit b => rfl
 | _ => cases h
theorem scal_ownL {l : List A1} (h : l.all num1 = true) : ownL tb l = (true, []) := by
 induction l with
 | nil => rfl
 | cons x l ih =>
  simp only [List.all_cons, Bool.and_eq_true] at h
  simp [ownL, scal_own h.1, ih h.2]
theorem splice_get {cur ws : List Value} {off : Nat} (hfit : off + ws.length ≤ cur.length) (i : Nat) : (cur.take off ++ ws ++ cur.drop (off + ws.length))[i]? = if off ≤ i ∧ i < off + ws.length then ws[i - off]? else cur[i]? := by
 have hl : (cur.take off).length = off := by simp; omega
 by_cases c1 : i < off
 ·rw [if_neg (by omega), List.append_assoc, List.getElem?_append_left (by omega), List.getElem?_take, if_pos c1]
 ·by_cases c2 : i < off + ws.length
  ·rw [if_pos (by omega), List.append_assoc, List.getElem?_append_right (by omega), hl, List.getElem?_append_left (by omega)]
  ·rw [if_neg (by omega), List.getElem?_append_right (by simp; omega), List.getElem?_drop]
   congr 1
   simp
   omega
theorem box_store (h : Sat W0 E0 nl N st E a w) (hd : ∀ d, o.dst = some d → d < N) {t : TypeId} {x v : Operand} (ho : o.op = .store t x v) {n : Nat} {ag : Bool} (ht : tinfo P t = some (n, ag)) {id off : Nat} (hx : st.ev1 x = some (.ref id off)) {y : AV} {vs : List A1} (hv : st.ev v = some y) (hvs : y.cells = some vs) (hn : vs.length = n)
  {b : Bool} {ws l : List A1} (hl : lk st.tb id = some (.box b ws)) (hb : b = true → vs.all num1 = true ∧ ∃ old, cut ws off n = some old ∧ old.all num1 = true) (hov : ovr ws off vs = some l) {r : SR} (hout : r.outs { val := .one (.val undef), ins := [(id, .box b l)] }) (Q : Exit → Act → World → Prop) :
  o.wp P a w (After W0 E0 nl N st o r) Q := by
 obtain ⟨cur, T, g1, g2, g3, g4⟩ := (h.blks id _ hl : BlkOk _ _ _ _ _ (.box b ws))
 have hxa : a.eval x = .pointer (some ⟨E.hd id, off, none⟩) := (h.ev1 hx).2 b ws hl
 have hr := cells_ok (h.ev hv) hvs
 obtain ⟨ov1, ov2, ov3⟩ := ovr_get hov
 have hfit : off + n ≤ cur.size := by rw [g3.1, ← hn]; exact ov2
 have hsz : (a.eval v).cells.size = n := by rw [hr.1, hn]
 have hrun := run_store_row (P := P) ho ht hxa rfl hsz g1 hfit (fun u hu => by
  obtain ⟨i, hi⟩ := List.getElem?_of_mem hu
  have hlt : i < vs.length := by rw [← hr.1]; simpa using (List.getElem?_eq_some_iff.1 hi).1
  obtain ⟨u', k1, k2, _⟩ := hr.2 i _ (List.getElem?_eq_getElem hlt)
  have : u' = u := by
   rw [← Array.getElem?_toList, hi] at k1
   injection k1 with k1
   exact k1.symm
  rw [← this]; exact k2)
 have hls : (lk st.tb id).isSome = true := by rw [hl]; rfl
 have key := h.turn (w' := w.setRow (E.hd id) (cur.toList.take off ++ (a.eval v).cells.toList ++ cur.toList.drop (off + (a.eval v).cells.toList.length)).toArray) (E' := E) (b1 := .box b l) (dl := []) (kill := []) (dst := o.dst) (u := undef) (v := .one (.val undef)) hd hl (fun hh => by cases hh) (fun i _ => ⟨rfl, rfl, rfl⟩) rfl rfl (fun b hb => .inl hb) (.inr rfl)
  (fun i hi hni => setRow_other w _ _ _ fun e1 => hni (e1 ▸ g2)) (size_setRow w _ _) rfl rfl rfl rfl ?_ ?_ (.inl rfl) rfl
 ·unfold Oper.wp
  rw [hrun]
  exact ⟨_, E, hout, key⟩
 ·have hch : ∀ b', Fz w E st.tb b' → Fz (w.setRow (E.hd id) (cur.toList.take off ++ (a.eval v).cells.toList ++ cur.toList.drop (off + (a.eval v).cells.toList.length)).toArray) E ((id, Blk.box b l) :: erl [] st.tb) b' ∧ (w.setRow (E.hd id) (cur.toList.take off ++ (a.eval v).cells.toList ++ cur.toList.drop (off + (a.eval v).cells.toList.length)).toArray).heap[b']? = w.heap[b']? := fun b' hb' => by
   refine ⟨⟨by rw [size_setRow]; exact hb'.1, hb'.2.1, fun i hi hbi => ?_⟩, setRow_other w _ _ _ fun e1 => hb'.2.2 id hls (e1 ▸ g2)⟩
   refine hb'.2.2 i ?_ hbi
   rw [lk_cons] at hi
   by_cases e1 : i = id
   ·rw [e1]; exact hls
   ·rw [if_neg e1, erl_nil] at hi; exact hi
  have hk : ∀ i T, KeepId w E st.tb (w.setRow (E.hd id) (cur.toList.take off ++ (a.eval v).cells.toList ++ cur.toList.drop (off + (a.eval v).cells.toList.length)).toArray) E ((id, Blk.box b l) :: erl [] st.tb) i T := fun i T => by
   by_cases e1 : i = id
   ·subst e1
    exact ⟨fun f us hh => ⟨⟨b, ws, hl⟩, rfl⟩, fun e t l d hh => by rw [lk_cons, if_pos rfl] at hh; cases hh⟩
   ·refine ⟨fun f us hh => ?_, fun e t l d hh => ?_⟩
    ·rw [lk_cons, if_neg e1, erl_nil] at hh
     exact ⟨⟨f, us, hh⟩, rfl⟩
    ·rw [lk_cons, if_neg e1, erl_nil] at hh
     refine ⟨e, l, d, hh, rfl, rfl, fun _ p v t1 l1 hat => ⟨l1, ?_, rfl⟩⟩
     have hrw : RowOk _ _ _ _ _ _ _ _ := h.blks i _ hh
     refine hat.mono hrw.rep fun b' hb' _ => setRow_other w _ _ _ fun e2 => ?_
     subst e2
     rcases hb' with hb' | hb'
     ·exact hb'.2.2 id hls g2
     ·exact e1 (h.disj i id _ (by rw [hh]; rfl) hls hb' g2)
  have hcs : (a.eval v).cells.toList.length = n := by simpa using hsz
  have hget : ∀ i, (cur.toList.take off ++ (a.eval v).cells.toList ++ cur.toList.drop (off + (a.eval v).cells.toList.length))[i]? = if off ≤ i ∧ i < off + n then (a.eval v).cells[i - off]? else cur[i]? := fun i => by
   rw [splice_get (by rw [hcs]; simpa using hfit), hcs]
   simp
  refine ⟨_, T, setRow_heap w _ cur _ T _ g1, g2, ⟨?_, fun i x' hi => ?_⟩, fun hb' => ?_⟩
  ·have h1 := g3.1
   simp only [List.size_toArray, List.length_append, List.length_take, List.length_drop, Array.length_toList, hcs]
   rw [hcs] at *
   omega
  ·have e1 : (cur.toList.take off ++ (a.eval v).cells.toList ++ cur.toList.drop (off + (a.eval v).cells.toList.length)).toArray[i]? = if off ≤ i ∧ i < off + n then (a.eval v).cells[i - off]? else cur[i]? := by
    rw [List.getElem?_toArray]; exact hget i
   rw [e1]
   rw [ov3 i, hn] at hi
   split at hi
   ·rename_i hc
    obtain ⟨u, k1, k2, k3⟩ := hr.2 _ _ hi
    exact ⟨u, by rw [if_pos hc]; exact k1, k2, k3.keep hch (by rw [size_setRow]; exact Nat.le_refl _) fun j _ => hk j _⟩
   ·rename_i hc
    obtain ⟨u, k1, k2, k3⟩ := g3.2 _ _ hi
    exact ⟨u, by rw [if_neg hc]; exact k1, k2, k3.keep hch (by rw [size_setRow]; exact Nat.le_refl _) fun j _ => hk j _⟩
  ·obtain ⟨g5, g6⟩ := g4 hb'
   obtain ⟨hnum, old, hcut, hold⟩ := hb hb'
   refine ⟨g5, fun off' x' ho' hnx => ?_⟩
   rw [ov3 off', hn] at ho'
   split at ho'
   ·have := (List.all_eq_true.1 hnum) _ (List.mem_of_getElem? ho')
    rw [this] at hnx
    cases hnx
   ·rename_i hc
    rw [← g6 off' x' ho' hnx]
    rw [cell_of_row _ _ _ _ T (0, 0) (setRow_heap w _ cur _ T _ g1), cell_of_row w _ _ cur T (0, 0) g1]
    rw [List.getElem?_toArray, hget, if_neg hc]
 ·refine ⟨fun f us hh => ⟨⟨b, ws, hl⟩, rfl⟩, fun e t l d hh => ?_⟩
  rw [lk_cons, if_pos rfl] at hh
  cases hh
end
end Go.Proofs.YtpgglbnagphgoaaGreat
/- A store into a row's element. -/
namespace Go.Proofs.YtpgglbnagphgoaaGreat
open Go.RowKit
open SR (opt)

section
variable {P : Program} {Γ : Cfg} {W0 w w' : World} {E0 E E' : Env} {nl N base : Nat} {st : ASt} {a : Act} {o : Oper} {tb : Tb}

theorem num_not_list {G : Nat → Prop} {x : A1} {u : Value} {t : Ty} {l : List t.den} (hx : num1 x = true) (hu : RepA w E tb u x) (hr : RepC w G u ⟨.list t, l⟩) : False := by
 cases x with
 | c y =>
  have hu : RepC w (Fz w E tb) u y := hu
  obtain ⟨A, c, rfl, _⟩ := list_of hr
  obtain ⟨ty, y⟩ := y
  generalize l.length = m at hu
  cases ty with
  | list t => cases hx
  | int k => cases hu
  | bool => cases hu
  | str => cases hu
  | st s => cases hu
  | hol s => cases hu
  | junk => cases hx
 | lit b =>
  have hu : u = .bool b := hu
  subst hu
  cases hr
 | _ => cases hx
theorem idx_in {i j k off n wd : Nat} (hj : j < wd) (hn : off + n ≤ wd) : (k * wd + off ≤ i * wd + j ∧ i * wd + j < k * wd + off + n) ↔ (i = k ∧ off ≤ j ∧ j < off + n) := by
 constructor
 ·intro ⟨h1, h2⟩
  have : i = k := by
   rcases Nat.lt_trichotomy i k with h | h | h
   ·have : (i + 1) * wd ≤ k * wd := Nat.mul_le_mul_right _ h
    rw [Nat.succ_mul] at this; omega
   ·exact h
   ·have : (k + 1) * wd ≤ i * wd := Nat.mul_le_mul_right _ h
    rw [Nat.succ_mul] at this; omega
  subst this
  omega
 ·rintro ⟨rfl, h1, h2⟩
  omega

def Env.turn (E : Env) (tb : Tb) (id own : Nat) (deep : Bool) (dl : List Nat) : Env := {
 hd := E.hd
 hv := E.hv
 ro := E.ro
 bs := fun i b => if i = id then (if deep then E.bs id b ∨ ∃ k, k ∈ dl ∧ (lk tb k).isSome = true ∧ E.bs k b else b = own) else E.bs i b }

theorem row_store (h : Sat W0 E0 nl N st E a w) (hd : ∀ d, o.dst = some d → d < N) {t : TypeId} {x v : Operand} (ho : o.op = .store t x v) {n : Nat} {ag : Bool} (ht : tinfo P t = some (n, ag)) {id k off : Nat} (hx : st.ev1 x = some (.ptr id [] k off)) {y : AV} {vs : List A1} (hv : st.ev v = some y) (hvs : y.cells = some vs) (hn : vs.length = n)
  {e : Option TypeId} {ty : Ty} {l : List ty.den} {deep ow : Bool} {dl : List Nat} (hl : lk st.tb id = some (.row e ty l deep)) (hol : ownL st.tb vs = (ow, dl)) (hcond : (vs.all num1 || (nodup? dl && !boxT [id] st.tb && !mem? dl id && (Nat.ble 20 id || isNil dl))) = true)
  {sg : List Ty} (hsg : cut ty.sig off n = some sg) {f : List ty.den → SR} (hp : (decL st.tb sg vs fun cs => elemSR k off cs ty l f).pre) (Q : Exit → Act → World → Prop) {r : SR}
  (hf : ∀ l', f l' = .ret { val := .one (.val undef), ins := [(id, .row e ty l' (deep && ow))], del := dl, kill := (bif vs.all num1 then [] else [id]) })
  (hout : ∀ e, (decL st.tb sg vs fun cs => elemSR k off cs ty l f).outs e → r.outs e) : o.wp P a w (After W0 E0 nl N st o r) Q := by
 have hls : (lk st.tb id).isSome = true := by rw [hl]; rfl
 have hrow : RowOk _ _ _ _ _ _ _ _ := h.blks id _ hl
 -- the address
 obtain ⟨b0, o0, n0, c0, t0, l0, hat, hk, hpt⟩ := (h.ev1 hx).2 e ty l deep hl
 obtain ⟨e1, e2⟩ := hat.nil_inv
 cases e2
 rw [← e1] at hrow
 rcases hrow with ⟨h0, _⟩ | ⟨b, c, eT, cur, g, S, hs, hB, hh, he, hsz, hc, hm, hg, hS, hSd, hr⟩
 ·cases h0
 injection hs with q1 q2 q3
 injection q1 with q1
 injection q1 with q1 q4
 subst q1 q4 q2 q3
 rw [Nat.zero_add] at hpt
 -- the cells
 have hcl := cells_ok (h.ev hv) hvs
 obtain ⟨cs, k1, kp2, k3, k4⟩ := decL_ok h (us := fun j => ((a.eval v).cells[j]?).getD undef) (k := 0) (fun j z hj => by
  obtain ⟨u, g1, _, g3⟩ := hcl.2 j z hj
  rw [Nat.zero_add, g1]
  exact g3) hp
 have hxk : l[k]? = some l[k] := List.getElem?_eq_getElem hk
 have hp2 := elSR0_pre hxk kp2
 simp only [opt_pre] at hp2
 obtain ⟨cs', hov, x', hmk, _⟩ := hp2
 have hx' := Ty.mk_eq hmk
 obtain ⟨ov1, ov2, ov3⟩ := ovr_get hov
 obtain ⟨cu1, cu2, cu3⟩ := cut_get hsg
 have hcsl : cs.length = n := by rw [← List.length_map (f := (·.t)), k1, cu1]
 have hwd : off + n ≤ ty.wd := by rw [← ty.cells_len l[k], ← hcsl]; exact ov2
 have hlen : (l.set k x').length = l.length := by simp
 have hbsz : b0 < w.heap.size := (Array.getElem?_eq_some_iff.1 hh).1
 have hout2 := hout _ (k3 { val := .one (.val undef), ins := [(id, .row e ty (l.set k x') (deep && ow))], del := dl, kill := (bif vs.all num1 then [] else [id]) } (elSR0_outs hxk kp2 ((opt_outs _ _ _).2 ⟨cs', hov, (opt_outs _ _ _).2 ⟨x', hmk, by rw [hf]; rfl⟩⟩)))
 -- the conditions
 have hnd : nodup? dl = true ∧ id ∉ dl ∧ (20 ≤ id ∨ dl = []) ∧ (vs.all num1 = false → boxT [id] st.tb = false) ∧ (vs.all num1 = true → ow = true ∧ dl = []) := by
  cases hsc : vs.all num1 with
  | true =>
   have := scal_ownL (tb := st.tb) hsc
   rw [hol] at this
   injection this with w1 w2
   subst w1 w2
   exact ⟨rfl, (fun hh => by cases hh), .inr rfl, (fun hh => by cases hh), fun _ => ⟨rfl, rfl⟩⟩
  | false =>
   rw [hsc] at hcond
   simp only [Bool.false_or, Bool.and_eq_true, Bool.not_eq_true', Bool.or_eq_true] at hcond
   obtain ⟨⟨⟨c1, c2⟩, c3⟩, c4⟩ := hcond
   refine ⟨c1, fun hh => ?_, ?_, fun _ => c2, fun hh => by cases hh⟩
   ·rw [(mem?_iff _ _).2 hh] at c3; cases c3
   ·rcases c4 with c4 | c4
    ·exact .inl (Nat.le_of_ble_eq_true c4)
    ·cases dl with
     | nil => exact .inr rfl
     | cons => cases c4
 obtain ⟨n1, n2, n3, n4, n5⟩ := hnd
 obtain ⟨o1, o2, o3⟩ := ownL_ok hol
 have o3 := o3 n1
 have hvsz : (a.eval v).cells.size = n := by rw [hcl.1, hn]
 have hcurl : l.length * ty.wd ≤ cur.size := by rw [hsz]; exact Nat.mul_le_mul_right _ hc
 have hklt : (k + 1) * ty.wd ≤ l.length * ty.wd := Nat.mul_le_mul_right _ hk
 rw [Nat.succ_mul] at hklt
 have hfit : (k * ty.wd + off) + n ≤ cur.size := by omega
 have hrun := run_store_row (P := P) ho ht hpt rfl hvsz hh hfit (fun u hu => by
  obtain ⟨i, hi⟩ := List.getElem?_of_mem hu
  have hlt : i < vs.length := by rw [← hcl.1]; simpa using (List.getElem?_eq_some_iff.1 hi).1
  obtain ⟨u', g1, g2, _⟩ := hcl.2 i _ (List.getElem?_eq_getElem hlt)
  have : u' = u := by
   rw [← Array.getElem?_toList, hi] at g1
   injection g1 with g1
   exact g1.symm
  rw [← this]; exact g2)
 have hcs : (a.eval v).cells.toList.length = n := by simpa using hvsz
 generalize hcur' : (cur.toList.take (k * ty.wd + off) ++ (a.eval v).cells.toList ++ cur.toList.drop (k * ty.wd + off + (a.eval v).cells.toList.length)).toArray = cur' at hrun
 have hcsz : cur'.size = cur.size := by
  rw [← hcur']
  simp only [List.size_toArray, List.length_append, List.length_take, List.length_drop, Array.length_toList, hcs]
  omega
 have hget : ∀ i, cur'[i]? = if k * ty.wd + off ≤ i ∧ i < k * ty.wd + off + n then (a.eval v).cells[i - (k * ty.wd + off)]? else cur[i]? := fun i => by
  rw [← hcur', List.getElem?_toArray, splice_get (by rw [hcs]; simpa using hfit), hcs]
  simp
 have hget2 : ∀ i j, j < ty.wd → cur'[i * ty.wd + j]? = if i = k ∧ off ≤ j ∧ j < off + n then (a.eval v).cells[j - off]? else cur[i * ty.wd + j]? := fun i j hj => by
  rw [hget]
  by_cases hc : i = k ∧ off ≤ j ∧ j < off + n
  ·rw [if_pos ((idx_in hj hwd).2 hc), if_pos hc]
   obtain ⟨rfl, h1, h2⟩ := hc
   congr 1
   omega
  ·rw [if_neg (fun hh => hc ((idx_in hj hwd).1 hh)), if_neg hc]
 -- the elements behind it
 have hnew : ∀ i z j cl, (l.set k x')[i]? = some z → (ty.cells z)[j]? = some cl → (i = k ∧ off ≤ j ∧ j < off + n ∧ cs[j - off]? = some cl) ∨ (¬ (i = k ∧ off ≤ j ∧ j < off + n) ∧ ∃ z0, l[i]? = some z0 ∧ (ty.cells z0)[j]? = some cl) := fun i z j cl hi hj => by
  rw [List.getElem?_set] at hi
  by_cases hik : k = i
  ·subst hik
   rw [if_pos rfl, if_pos hk] at hi
   injection hi with hi
   subst hi
   rw [hx', ov3 j, hcsl] at hj
   by_cases hc : off ≤ j ∧ j < off + n
   ·rw [if_pos hc] at hj
    exact .inl ⟨rfl, hc.1, hc.2, hj⟩
   ·rw [if_neg hc] at hj
    exact .inr ⟨fun hh => hc hh.2, _, hxk, hj⟩
  ·rw [if_neg hik] at hi
   exact .inr ⟨fun hh => hik hh.1.symm, z, hi, hj⟩
 have hjl : ∀ {z : ty.den} {j : Nat} {cl : Cell}, (ty.cells z)[j]? = some cl → j < ty.wd := fun {z j cl} hj => by
  rw [← ty.cells_len z]; exact (List.getElem?_eq_some_iff.1 hj).1
 have hfact : ∀ j cl, off ≤ j → j < off + n → cs[j - off]? = some cl → ∃ z u, vs[j - off]? = some z ∧ (a.eval v).cells[j - off]? = some u ∧ CellFact w E st.tb z u cl ∧ RepA w E st.tb u z := fun j cl h1 h2 hj => by
  obtain ⟨z, g1, g2⟩ := k4 _ _ hj
  obtain ⟨u, g3, _, g5⟩ := hcl.2 _ _ g1
  rw [Nat.zero_add, g3] at g2
  exact ⟨z, u, g1, g3, g2, g5⟩
 -- the row's own block
 have hEhv : ∀ b', b' ≠ b0 → (w.setRow b0 cur').heap[b']? = w.heap[b']? := fun b' hb' => setRow_other w _ _ _ hb'
 let E1 : Env := E.turn st.tb id b0 (deep && ow) dl
 have hE1 : ∀ i, i ≠ id → E1.bs i = E.bs i := fun i hi => by funext b'; simp [E1, Env.turn, hi]
 have hEid : ∀ b', E1.bs id b' ↔ if (deep && ow) = true then E.bs id b' ∨ ∃ k, k ∈ dl ∧ (lk st.tb k).isSome = true ∧ E.bs k b' else b' = b0 := fun b' => by simp [E1, Env.turn]
 have hsub : ∀ b', E1.bs id b' → E.bs id b' ∨ ∃ k, k ∈ dl ∧ (lk st.tb k).isSome = true ∧ E.bs k b' := fun b' hb' => by
  rw [hEid] at hb'
  split at hb'
  ·exact hb'
  ·subst hb'; exact .inl hB
 have hblk : RowOk (w.setRow b0 cur') (Fz (w.setRow b0 cur') E1 ((id, .row e ty (l.set k x') (deep && ow)) :: erl dl st.tb)) (E1.bs id) e (.slice (some ⟨b0, 0, none⟩) (l.set k x').length c0) ty (l.set k x') (deep && ow) := by
  have hSof : ∀ z b', z ∈ vs → Sof E st.tb z b' → ∃ k, k ∈ dl ∧ (lk st.tb k).isSome = true ∧ E.bs k b' := fun z b' hz ⟨q, q1, q2, q3⟩ => ⟨q, o2 z hz q q1, q2, q3⟩
  have hdlne : ∀ b', (∃ k, k ∈ dl ∧ (lk st.tb k).isSome = true ∧ E.bs k b') → b' ≠ b0 := fun b' ⟨q, q1, q2, q3⟩ e3 => by
   subst e3
   exact n2 (h.disj q id _ q2 hls q3 hB ▸ q1)
  refine .inr ⟨b0, c0, eT, cur', fun i j => (cur'[i * ty.wd + j]?).getD undef,
   fun i j b' => (deep && ow) = true ∧ j < ty.wd ∧ if i = k ∧ off ≤ j ∧ j < off + n then ∃ z, vs[j - off]? = some z ∧ Sof E st.tb z b' else S i j b',
   rfl, (hEid _).2 ?_, setRow_heap w _ _ _ _ _ hh, he, by rw [hcsz]; exact hsz, by rw [hlen]; exact hc, hm, fun i z j cl hi hj => ?_, fun i j b' hb' => ?_, fun i j i' j' b' hb' hb'' => ?_, fun i z j cl hi hj => ?_⟩
  ·split
   ·exact .inl hB
   ·rfl
  ·have hj' := hjl hj
   show cur'[i * ty.wd + j]? = some ((cur'[i * ty.wd + j]?).getD undef)
   rw [hget2 i j hj']
   rcases hnew i z j cl hi hj with ⟨c1, c2, c3, c4⟩ | ⟨c1, z0, c2, c3⟩
   ·obtain ⟨z', u, g1, g2, _⟩ := hfact j cl c2 c3 c4
    rw [if_pos ⟨c1, c2, c3⟩, g2]; rfl
   ·rw [if_neg c1, hg i z0 j cl c2 c3]; rfl
  ·obtain ⟨d1, d2, d3⟩ := hb'
   rw [hEid, if_pos d1]
   split at d3
   ·obtain ⟨z, hz, hz2⟩ := d3
    have := hSof z b' (List.mem_of_getElem? hz) hz2
    exact ⟨.inr this, hdlne b' this⟩
   ·exact ⟨.inl (hS i j b' d3).1, (hS i j b' d3).2⟩
  ·obtain ⟨_, d2, d3⟩ := hb'
   obtain ⟨_, f2, f3⟩ := hb''
   split at d3
   ·rename_i hc1
    obtain ⟨z, hz, q, q1, q2, q3⟩ := d3
    split at f3
    ·rename_i hc2
     obtain ⟨z', hz', q', q1', q2', q3'⟩ := f3
     have := h.disj q q' b' q2 q2' q3 q3'
     subst this
     have := o3 _ _ z z' q hz hz' q1 q1'
     omega
    ·exact absurd (hS i' j' b' f3).1 (fun hh => n2 (h.disj q id b' q2 hls q3 hh ▸ o2 z (List.mem_of_getElem? hz) q q1))
   ·split at f3
    ·obtain ⟨z, hz, q, q1, q2, q3⟩ := f3
     exact absurd (hS i j b' d3).1 (fun hh => n2 (h.disj q id b' q2 hls q3 hh ▸ o2 z (List.mem_of_getElem? hz) q q1))
    ·exact hSd i j i' j' b' d3 f3
  ·have hj' := hjl hj
   have hfz : ∀ b', Fz w E st.tb b' → Fz (w.setRow b0 cur') E1 ((id, .row e ty (l.set k x') (deep && ow)) :: erl dl st.tb) b' := fun b' hb' => by
    refine ⟨by rw [size_setRow]; exact hb'.1, hb'.2.1, fun i hi hbi => ?_⟩
    by_cases e3 : i = id
    ·subst e3
     rcases hsub b' hbi with hbi | ⟨q, _, q2, q3⟩
     ·exact hb'.2.2 i hls hbi
     ·exact hb'.2.2 q q2 q3
    ·rw [lk_cons, if_neg e3, lk_erl] at hi
     split at hi
     ·cases hi
     ·rw [hE1 i e3] at hbi
      exact hb'.2.2 i hi hbi
   have hrel : (deep && ow) = false → ∀ b', b' < w.heap.size → b' ≠ b0 → (E.bs id b' ∨ ∃ k, k ∈ dl ∧ (lk st.tb k).isSome = true ∧ E.bs k b') → Fz (w.setRow b0 cur') E1 ((id, .row e ty (l.set k x') (deep && ow)) :: erl dl st.tb) b' := fun hdo b' hlt hne hb' => by
    refine ⟨by rw [size_setRow]; exact hlt, hb'.elim (fun hb' => h.rok hls hb') (fun ⟨q, _, q2, q3⟩ => h.rok q2 q3), fun i hi hbi => ?_⟩
    by_cases e3 : i = id
    ·subst e3
     rw [hEid, hdo] at hbi
     exact hne (by simpa using hbi)
    ·rw [lk_cons, if_neg e3, lk_erl] at hi
     split at hi
     ·cases hi
     ·rename_i hnd
      rw [hE1 i e3] at hbi
      rcases hb' with hb' | ⟨q, q1, q2, q3⟩
      ·exact e3 (h.disj i id b' hi hls hbi hb')
      ·exact hnd (h.disj q i b' q2 hi q3 hbi ▸ q1)
   show if (deep && ow) = true then OwnC _ (fun b' => (deep && ow) = true ∧ j < ty.wd ∧ if i = k ∧ off ≤ j ∧ j < off + n then ∃ z, vs[j - off]? = some z ∧ Sof E st.tb z b' else S i j b') ((cur'[i * ty.wd + j]?).getD undef) cl else RepC _ _ ((cur'[i * ty.wd + j]?).getD undef) cl
   rw [hget2 i j hj']
   rcases hnew i z j cl hi hj with ⟨c1, c2, c3, c4⟩ | ⟨c1, z0, c2, c3⟩
   ·obtain ⟨z', u, g1, g2, g3, _⟩ := hfact j cl c2 c3 c4
    have hzm := List.mem_of_getElem? g1
    rw [if_pos (⟨c1, c2, c3⟩ : i = k ∧ off ≤ j ∧ j < off + n), g2]
    simp only [Option.getD_some]
    cases hdo : (deep && ow) with
    | true =>
     simp only [if_true, true_and]
     simp only [Bool.and_eq_true] at hdo
     refine (g3.2 (o1 hdo.2 z' hzm)).mono fun b' hb' => ⟨⟨hj', by rw [if_pos ⟨c1, c2, c3⟩]; exact ⟨z', g1, hb'⟩⟩, hEhv b' (hdlne b' (hSof z' b' hzm hb'))⟩
    | false =>
     simp only [Bool.false_eq_true, if_false]
     refine g3.1.mono (fun b' hb' hlt => ?_) (by rw [size_setRow]; exact Nat.le_refl _)
     rcases hb' with hb' | ⟨q, q1, q2, q3⟩
     ·have := hfz b' hb'
      rw [hdo] at this
      exact ⟨this, hEhv b' fun e3 => hb'.2.2 id hls (e3 ▸ hB)⟩
     ·have hq : ∃ k, k ∈ dl ∧ (lk st.tb k).isSome = true ∧ E.bs k b' := ⟨q, o2 z' hzm q (rows_own q1), q2, q3⟩
      have hne := hdlne b' hq
      have := hrel hdo b' hlt hne (.inr hq)
      rw [hdo] at this
      exact ⟨this, hEhv b' hne⟩
   ·rw [if_neg c1, hg i z0 j cl c2 c3]
    have hold := hr i z0 j cl c2 c3
    simp only [Option.getD_some]
    cases hdo : (deep && ow) with
    | true =>
     simp only [if_true, true_and]
     simp only [Bool.and_eq_true] at hdo
     rw [hdo.1] at hold
     simp only [if_true] at hold
     exact hold.mono fun b' hb' => ⟨⟨hj', by rw [if_neg c1]; exact hb'⟩, hEhv b' (hS i j b' hb').2⟩
    | false =>
     simp only [Bool.false_eq_true, if_false]
     cases deep with
     | true =>
      simp only [if_true] at hold
      refine hold.rep.mono (fun b' hb' hlt => ?_) (by rw [size_setRow]; exact Nat.le_refl _)
      have := hrel hdo b' hlt (hS i j b' hb').2 (.inl (hS i j b' hb').1)
      rw [hdo] at this
      exact ⟨this, hEhv b' (hS i j b' hb').2⟩
     | false =>
      simp only [Bool.false_eq_true, if_false] at hold
      refine hold.mono (fun b' hb' hlt => ?_) (by rw [size_setRow]; exact Nat.le_refl _)
      have := hfz b' hb'
      rw [hdo] at this
      exact ⟨this, hEhv b' fun e3 => hb'.2.2 id hls (e3 ▸ hB)⟩
 have hkeep : KeepId w E st.tb (w.setRow b0 cur') E1 ((id, .row e ty (l.set k x') (deep && ow)) :: erl dl st.tb) id ((bif vs.all num1 then [] else [id]) = []) := by
  refine ⟨(fun f us hh => by rw [lk_cons, if_pos rfl] at hh; cases hh), fun e' t' l' d' hh => ?_⟩
  rw [lk_cons, if_pos rfl] at hh
  cases hh
  refine ⟨e, l, deep, hl, rfl, hlen, fun hT p v' t1 l1 hat' => ?_⟩
  have hsc : vs.all num1 = true := by
   cases hh : vs.all num1 with
   | true => rfl
   | false => rw [hh] at hT; cases hT
  rw [← e1] at hat'
  cases hat' with
  | here => exact ⟨l.set k x', by rw [← e1]; exact .here, hlen⟩
  | @step _ _ _ _ k2 off2 _ tt _ _ lt _ _ z v1 _ hxx hnn hcc hin =>
   rw [nth_eq] at hnn
   have hj' := hjl hnn
   have hnc : ¬ (k2 = k ∧ off ≤ off2 ∧ off2 < off + n) := fun ⟨g1, g2, g3⟩ => by
    subst g1
    rw [hxk] at hxx
    injection hxx with hxx
    subst hxx
    have hs2 : (ty.sig)[off2]? = some (.list tt) := Ty.cells_list hnn
    have hs3 : sg[off2 - off]? = some (.list tt) := by rw [cu3 _ (by omega), show off + (off2 - off) = off2 from by omega]; exact hs2
    rw [← k1, List.getElem?_map] at hs3
    simp only [Option.map_eq_some_iff] at hs3
    obtain ⟨cl, g4, g5⟩ := hs3
    obtain ⟨z', u, g6, _, g7, g8⟩ := hfact off2 cl g2 g3 g4
    obtain ⟨tcl, xcl⟩ := cl
    subst g5
    exact num_not_list ((List.all_eq_true.1 hsc) z' (List.mem_of_getElem? g6)) g8 g7.1
   obtain ⟨z2, g1, g2⟩ : ∃ z2, (l.set k x')[k2]? = some z2 ∧ (ty.cells z2)[off2]? = some ⟨.list tt, lt⟩ := by
    rw [List.getElem?_set]
    by_cases hik : k = k2
    ·subst hik
     rw [if_pos rfl, if_pos hk]
     refine ⟨x', rfl, ?_⟩
     rw [hx', ov3 off2, hcsl, if_neg (fun hh => hnc ⟨rfl, hh⟩)]
     rw [hxk] at hxx
     injection hxx with hxx
     rw [hxx]; exact hnn
    ·rw [if_neg hik]; exact ⟨z, hxx, hnn⟩
   have hcell : w.cell? ⟨b0, 0 + (k2 * ty.wd + off2), none⟩ = some (g k2 off2) := by
    rw [cell_of_row w b0 _ cur eT (0, 0) hh, Nat.zero_add]
    exact hg k2 z off2 _ hxx hnn
   rw [hcell] at hcc
   injection hcc with hcc
   subst hcc
   have hcell' : (w.setRow b0 cur').cell? ⟨b0, 0 + (k2 * ty.wd + off2), none⟩ = some (g k2 off2) := by
    rw [cell_of_row _ b0 _ cur' eT (0, 0) (setRow_heap w _ _ _ _ _ hh), Nat.zero_add, hget2 k2 off2 hj', if_neg hnc]
    exact hg k2 z off2 _ hxx hnn
   have hold := hr k2 z off2 _ hxx hnn
   refine ⟨l1, ?_, rfl⟩
   show At (w.setRow b0 cur') (E.hv id) ty (l.set k x') _ _ _ _
   rw [← e1]
   refine .step g1 (by rw [nth_eq]; exact g2) hcell' ?_
   cases deep with
   | true =>
    simp only [if_true] at hold
    exact hin.mono hold.rep fun b' hb' _ => hEhv b' (hS k2 off2 b' hb').2
   | false =>
    simp only [Bool.false_eq_true, if_false] at hold
    exact hin.mono hold fun b' hb' _ => hEhv b' fun e3 => hb'.2.2 id hls (e3 ▸ hB)
 have key := h.turn (w' := w.setRow b0 cur') (E' := E1) (b1 := .row e ty (l.set k x') (deep && ow)) (dl := dl) (kill := (bif vs.all num1 then [] else [id])) (dst := o.dst) (u := undef) (v := .one (.val undef)) hd hl n2 (fun i hi => ⟨rfl, rfl, hE1 i hi⟩) rfl rfl hsub n3
  (fun i hi hni => hEhv i fun e3 => hni (e3 ▸ hB)) (size_setRow w _ _) rfl rfl rfl rfl (by
   show RowOk _ _ _ _ _ _ _ _
   have : E1.hv id = .slice (some ⟨b0, 0, none⟩) (l.set k x').length c0 := by rw [hlen]; exact e1.symm
   rw [this]
   exact hblk) hkeep (by
   cases hsc : vs.all num1 with
   | true => exact .inl rfl
   | false => exact .inr ⟨rfl, n4 hsc⟩) rfl
 unfold Oper.wp
 rw [hrun]
 exact ⟨_, E1, hout2, key⟩
end
end Go.Proofs.YtpgglbnagphgoaaGreat
/- A list at a path below a row of ours is turned: what is known of the whole. No program is in sight. -/
namespace Go.Proofs.YtpgglbnagphgoaaGreat
open Go.RowKit
open SR (opt)

section
variable {w w' : World}

def Pres (w w' : World) (v : Value) {t t' : Ty} (l : List t.den) (l' : List t'.den) : Prop := ∀ q v2 t2 (l2 : List t2.den), At w v t l q v2 t2 l2 → ∃ l3 : List t2.den, At w' v t' l' q v2 t2 l3 ∧ l3.length = l2.length

theorem OwnC.mono' {B B' : Nat → Prop} {v : Value} {c : Cell} (h : OwnC w B v c) (hB : ∀ b, B b → B' b) : OwnC w B' v c := h.mono fun b hb => ⟨hB b hb, rfl⟩
theorem ownC_scalar {B : Nat → Prop} {u : Value} {c : Cell} (h : OwnC w B u c) (hc : ∀ t l, c ≠ ⟨.list t, l⟩) (w' : World) (B' : Nat → Prop) : OwnC w' B' u c := by
 cases h with
 | int h => exact .int h
 | bool => exact .bool
 | str h => exact .str h
 | junk h => exact .junk h
 | nil => exact absurd rfl (hc _ _)
 | list => exact absurd rfl (hc _ _)

theorem updSR_ok {v v' : Value} {t t' : Ty} {l : List t.den} {l' : List t'.den} {p : List (Nat × Nat)} (hat : At w v t l p v' t' l') : ∀ {B : Nat → Prop} {g : (t : Ty) → List t.den → (List t.den → SR) → SR} {f : List t.den → SR},
  OwnC w B v ⟨.list t, l⟩ → (updSR t l p g f).pre →
  ∃ (B' : Nat → Prop) (F : List t'.den → SR), (∀ b, B' b → B b) ∧ OwnC w B' v' ⟨.list t', l'⟩ ∧ (g t' l' F).pre ∧ (∀ e, (g t' l' F).outs e → (updSR t l p g f).outs e) ∧
   ∀ l1 : List t'.den, l1.length = l'.length → (F l1).pre → ∃ l2 : List t.den, (f l2).pre ∧ (∀ e, (f l2).outs e → (F l1).outs e) ∧ l2.length = l.length ∧
    ∀ (w' : World) (B'' : Nat → Prop), (∀ b, B b → ¬ B' b → w'.heap[b]? = w.heap[b]?) → (∀ b, B'' b → B b → B' b) → OwnC w' B'' v' ⟨.list t', l1⟩ →
     OwnC w' (fun b => (B b ∧ ¬ B' b) ∨ B'' b) v ⟨.list t, l2⟩ ∧ (Pres w w' v' l' l1 → Pres w w' v l l2) := by
 induction hat with
 | @here v t l =>
  intro B g f ho hp
  refine ⟨B, f, fun b h => h, ho, hp, fun e he => he, fun l1 hl1 hf => ⟨l1, hf, fun e he => he, hl1, fun w' B'' _ _ h => ⟨h.mono' (fun b hb => .inr hb), fun h => h⟩⟩⟩
 | @step b o n c k off t t1 t' l l1 l' p x v1 v' hx hn hc hat ih =>
  intro B g f ho hp
  have hp0 := elSR_pre hx hp
  simp only [hn] at hp0
  rw [nth_eq] at hn
  generalize hv0 : Value.slice (some ⟨b, o, none⟩) n c = v0 at ho
  generalize hcell : (⟨.list t, l⟩ : Cell) = c0 at ho
  cases ho with
  | junk => cases hcell
  | int => cases hcell
  | bool => cases hcell
  | str => cases hcell
  | nil => cases hv0
  | @list _ t0 l0 b0 c0 e0 cur G S hB hh hs hcc hm hg hS hSd hr =>
   injection hcell with e1 e2
   injection e1 with e1
   subst e1
   cases e2
   injection hv0 with e3 e4 e5
   injection e3 with e3
   injection e3 with e6 e7
   subst e6 e7 e4 e5
   have hG : v1 = G k off := by
    rw [cell_of_row w b _ cur e0 (0, 0) hh, Nat.zero_add, hg k x off _ hx hn] at hc
    injection hc with hc
    exact hc.symm
   subst hG
   obtain ⟨B', F, h1, h2, h3, h4, h5⟩ := ih (hr k x off _ hx hn) hp0
   refine ⟨B', F, fun b hb => (hS k off b (h1 b hb)).1, h2, h3, fun e he => elSR_outs hx hn (by rw [nth_eq, hn]; exact h4 e he), fun l1' hl1 hf => ?_⟩
   obtain ⟨l2, g1, g2, g3, g4⟩ := h5 l1' hl1 hf
   obtain ⟨cs, hov, g1⟩ := (opt_pre _ _).1 g1
   obtain ⟨x', hmk, g1⟩ := (opt_pre _ _).1 g1
   have hx' := Ty.mk_eq hmk
   obtain ⟨ov1, ov2, ov3⟩ := ovr_get hov
   have hkl : k < l.length := (List.getElem?_eq_some_iff.1 hx).1
   have hcx : ∀ j, (t.cells x')[j]? = if j = off then some ⟨.list t1, l2⟩ else (t.cells x)[j]? := fun j => by
    rw [hx', ov3 j]
    by_cases hj : j = off
    ·subst hj; simp
    ·rw [if_neg (by simp; omega), if_neg hj]
   have hnew : ∀ (i : Nat) (z : t.den) (j : Nat) (u : Cell), (l.set k x')[i]? = some z → (t.cells z)[j]? = some u → (i = k ∧ j = off ∧ u = ⟨.list t1, l2⟩) ∨ (¬ (i = k ∧ j = off) ∧ ∃ z0, l[i]? = some z0 ∧ (t.cells z0)[j]? = some u) := fun i z j u hi hj => by
    rw [List.getElem?_set] at hi
    by_cases hik : k = i
    ·subst hik
     rw [if_pos rfl, if_pos hkl] at hi
     injection hi with hi
     subst hi
     rw [hcx] at hj
     by_cases hjo : j = off
     ·rw [if_pos hjo] at hj; injection hj with hj; exact .inl ⟨rfl, hjo, hj.symm⟩
     ·rw [if_neg hjo] at hj; exact .inr ⟨fun hh => hjo hh.2, x, hx, hj⟩
    ·rw [if_neg hik] at hi
     exact .inr ⟨fun hh => hik hh.1.symm, z, hi, hj⟩
   refine ⟨l.set k x', g1, fun e he => g2 e ((opt_outs _ _ _).2 ⟨cs, hov, (opt_outs _ _ _).2 ⟨x', hmk, he⟩⟩), by simp, fun w' B'' hheap hB'' hown => ?_⟩
   have hbB' : ¬ B' b := fun hb => (hS k off b (h1 b hb)).2 rfl
   have hbb : w'.heap[b]? = w.heap[b]? := hheap b hB hbB'
   obtain ⟨k1, k2⟩ := g4 w' B'' (fun d hd hn => hheap d (hS k off d hd).1 hn) (fun d hd hd' => hB'' d hd (hS k off d hd').1) hown
   have hB''b : ¬ B'' b := fun hb => hbB' (hB'' b hb hB)
   have hoth : ∀ i j d, ¬ (i = k ∧ j = off) → S i j d → ¬ B' d ∧ ¬ B'' d ∧ w'.heap[d]? = w.heap[d]? := fun i j d hij hd => by
    have hn : ¬ B' d := fun hh => hij (hSd i j k off d hd (h1 d hh))
    exact ⟨hn, fun hh => hn (hB'' d hh (hS i j d hd).1), hheap d (hS i j d hd).1 hn⟩
   refine ⟨?_, fun hpr => ?_⟩
   ·have hlen : (l.set k x').length = l.length := by simp
    rw [← hlen]
    refine .list (b := b) (cur := cur) (e := e0) G (fun i j d => if i = k ∧ j = off then (S k off d ∧ ¬ B' d) ∨ B'' d else S i j d) (.inl ⟨hB, hbB'⟩) (by rw [hbb]; exact hh) hs (by rw [hlen]; exact hcc) hm (fun i z j u hi hj => ?_) (fun i j d hd => ?_) (fun i j i' j' d hd hd' => ?_) (fun i z j u hi hj => ?_)
    ·rcases hnew i z j u hi hj with ⟨rfl, rfl, _⟩ | ⟨_, z0, q1, q2⟩
     ·exact hg _ x _ _ hx hn
     ·exact hg i z0 j u q1 q2
    ·by_cases hij : i = k ∧ j = off
     ·rw [if_pos hij] at hd
      rcases hd with ⟨q1, q2⟩ | q
      ·exact ⟨.inl ⟨(hS k off d q1).1, q2⟩, (hS k off d q1).2⟩
      ·exact ⟨.inr q, fun e => hB''b (e ▸ q)⟩
     ·rw [if_neg hij] at hd
      exact ⟨.inl ⟨(hS i j d hd).1, (hoth i j d hij hd).1⟩, (hS i j d hd).2⟩
    ·by_cases hij : i = k ∧ j = off <;> by_cases hij' : i' = k ∧ j' = off
     ·exact ⟨hij.1.trans hij'.1.symm, hij.2.trans hij'.2.symm⟩
     ·rw [if_pos hij] at hd; rw [if_neg hij'] at hd'
      rcases hd with ⟨q1, q2⟩ | q
      ·exact absurd (hSd i' j' k off d hd' q1) hij'
      ·exact absurd q (hoth i' j' d hij' hd').2.1
     ·rw [if_neg hij] at hd; rw [if_pos hij'] at hd'
      rcases hd' with ⟨q1, q2⟩ | q
      ·exact absurd (hSd i j k off d hd q1) hij
      ·exact absurd q (hoth i j d hij hd).2.1
     ·rw [if_neg hij] at hd; rw [if_neg hij'] at hd'
      exact hSd i j i' j' d hd hd'
    ·rcases hnew i z j u hi hj with ⟨rfl, rfl, rfl⟩ | ⟨hij, z0, q1, q2⟩
     ·exact k1.mono' fun d hd => by rw [if_pos ⟨rfl, rfl⟩]; exact hd
     ·refine (hr i z0 j u q1 q2).mono fun d hd => ⟨by rw [if_neg hij]; exact hd, (hoth i j d hij hd).2.2⟩
   ·intro q v2 t2 l3 hq
    generalize hvq : Value.slice (some ⟨b, 0, none⟩) l.length c = vq at hq
    cases hq with
    | here => exact ⟨l.set k x', .here, by simp⟩
    | @step b2 o2 n2 c2 k2 off2 _ tt _ _ lt _ q' y v3 _ hy hny hcy hin =>
     injection hvq with m1 m2 m3
     injection m1 with m1
     injection m1 with m4 m5
     subst m4 m5 m2 m3
     rw [nth_eq] at hny
     have hv3 : v3 = G k2 off2 := by
      rw [cell_of_row w b _ cur e0 (0, 0) hh, Nat.zero_add, hg k2 y off2 _ hy hny] at hcy
      injection hcy with hcy
      exact hcy.symm
     subst hv3
     have hcy' : w'.cell? ⟨b, 0 + (k2 * t.wd + off2), none⟩ = some (G k2 off2) := by
      rw [World.cell?_of_block (w := w) (a := ⟨b, 0 + (k2 * t.wd + off2), none⟩) hbb]; exact hcy
     by_cases hij : k2 = k ∧ off2 = off
     ·obtain ⟨rfl, rfl⟩ := hij
      rw [hx] at hy
      injection hy with hy
      subst hy
      rw [hn] at hny
      injection hny with hny
      injection hny with r1 r2
      injection r1 with r1
      subst r1
      cases r2
      obtain ⟨l4, s1, s2⟩ := k2 hpr q' v2 t2 l3 hin
      exact ⟨l4, .step (x := x') (by rw [List.getElem?_set, if_pos rfl, if_pos hkl]) (by rw [nth_eq, hcx, if_pos rfl]) hcy' s1, s2⟩
     ·have hin' : At w' (G k2 off2) tt lt q' v2 t2 l3 := hin.mono (hr k2 y off2 _ hy hny).rep fun d hd _ => (hoth k2 off2 d hij hd).2.2
      by_cases hkk : k = k2
      ·subst hkk
       rw [hx] at hy
       injection hy with hy
       subst hy
       have hjo : off2 ≠ off := fun e => hij ⟨rfl, e⟩
       exact ⟨l3, .step (x := x') (by rw [List.getElem?_set, if_pos rfl, if_pos hkl]) (by rw [nth_eq, hcx, if_neg hjo]; exact hny) hcy' hin', rfl⟩
      ·exact ⟨l3, .step (x := y) (by rw [List.getElem?_set, if_neg hkk]; exact hy) (by rw [nth_eq]; exact hny) hcy' hin', rfl⟩

theorem own_store {B : Nat → Prop} {b n c m k off : Nat} {t : Ty} {l : List t.den} {x x' : t.den} {cs cs' : List Cell} {us : Array Value} {cur cur' : Array Value} {e : TypeId} (h : OwnC w B (.slice (some ⟨b, 0, none⟩) n c) ⟨.list t, l⟩) (hx : l[k]? = some x)
  (hov : ovr (t.cells x) off cs = some cs') (hmk : t.mk cs' = some x') (hm : cs.length = m) (hh : w.heap[b]? = some (.cells cur e (0, 0))) (hh' : w'.heap[b]? = some (.cells cur' e (0, 0))) (hsz : cur'.size = cur.size)
  (hget : ∀ i j : Nat, j < t.wd → cur'[i * t.wd + j]? = if i = k ∧ off ≤ j ∧ j < off + m then us[j - off]? else cur[i * t.wd + j]?) (hoth : ∀ b', b' ≠ b → w'.heap[b']? = w.heap[b']?)
  (hnum : ∀ (j : Nat) (cl : Cell), cs[j]? = some cl → (∀ t l, cl ≠ ⟨.list t, l⟩) ∧ ∃ u, us[j]? = some u ∧ ∀ B, OwnC w' B u cl) : OwnC w' B (.slice (some ⟨b, 0, none⟩) n c) ⟨.list t, l.set k x'⟩ ∧ Pres w w' (.slice (some ⟨b, 0, none⟩) n c) l (l.set k x') := by
 obtain ⟨ov1, ov2, ov3⟩ := ovr_get hov
 have hx' := Ty.mk_eq hmk
 have hkl : k < l.length := (List.getElem?_eq_some_iff.1 hx).1
 have hcx : ∀ j, (t.cells x')[j]? = if off ≤ j ∧ j < off + m then cs[j - off]? else (t.cells x)[j]? := fun j => by rw [hx', ov3 j, hm]
 have hjl : ∀ {z : t.den} {j : Nat} {cl : Cell}, (t.cells z)[j]? = some cl → j < t.wd := fun {z j cl} hj => by
  rw [← t.cells_len z]; exact (List.getElem?_eq_some_iff.1 hj).1
 have hnew : ∀ (i : Nat) (z : t.den) (j : Nat) (u : Cell), (l.set k x')[i]? = some z → (t.cells z)[j]? = some u → ((i = k ∧ off ≤ j ∧ j < off + m) ∧ cs[j - off]? = some u) ∨ (¬ (i = k ∧ off ≤ j ∧ j < off + m) ∧ ∃ z0, l[i]? = some z0 ∧ (t.cells z0)[j]? = some u) := fun i z j u hi hj => by
  rw [List.getElem?_set] at hi
  by_cases hik : k = i
  ·subst hik
   rw [if_pos rfl, if_pos hkl] at hi
   injection hi with hi
   subst hi
   rw [hcx] at hj
   by_cases hc : off ≤ j ∧ j < off + m
   ·rw [if_pos hc] at hj; exact .inl ⟨⟨rfl, hc⟩, hj⟩
   ·rw [if_neg hc] at hj; exact .inr ⟨fun hh => hc hh.2, x, hx, hj⟩
  ·rw [if_neg hik] at hi
   exact .inr ⟨fun hh => hik hh.1.symm, z, hi, hj⟩
 generalize hv0 : Value.slice (some ⟨b, 0, none⟩) n c = v0 at h
 generalize hcell : (⟨.list t, l⟩ : Cell) = c0 at h
 cases h with
 | junk => cases hcell
 | int => cases hcell
 | bool => cases hcell
 | str => cases hcell
 | nil => cases hv0
 | @list _ t0 l0 b0 c0 e0 cur0 G S hB hh0 hs hcc hm' hg hS hSd hr =>
  injection hcell with e1 e2
  injection e1 with e1
  subst e1
  cases e2
  injection hv0 with e3 e4 e5
  injection e3 with e3
  injection e3 with e6 e7
  subst e6 e4 e5
  rw [hh] at hh0
  injection hh0 with hh0
  injection hh0 with q1 q2 q3
  subst q1 q2
  have hlen : (l.set k x').length = l.length := by simp
  have hnl : ∀ i j z tt ll, l[i]? = some z → (t.cells z)[j]? = some ⟨.list tt, ll⟩ → ¬ (i = k ∧ off ≤ j ∧ j < off + m) := fun i j z tt ll hi hj ⟨r1, r2, r3⟩ => by
   subst r1
   rw [hx] at hi
   injection hi with hi
   subst hi
   have hs1 : (t.sig)[j]? = some (.list tt) := Ty.cells_list hj
   rw [← Ty.mk_sig hmk, List.getElem?_map, hcx j, if_pos ⟨r2, r3⟩] at hs1
   simp only [Option.map_eq_some_iff] at hs1
   obtain ⟨cl, s1, s2⟩ := hs1
   obtain ⟨tc, xc⟩ := cl
   subst s2
   exact (hnum _ _ s1).1 _ _ rfl
  refine ⟨?_, fun q v2 t2 l3 hq => ?_⟩
  ·rw [← hlen]
   refine .list (b := b) (cur := cur') (e := e) (fun i j => (cur'[i * t.wd + j]?).getD undef) S hB hh' (by rw [hsz]; exact hs) (by rw [hlen]; exact hcc) hm' (fun i z j u hi hj => ?_) hS hSd (fun i z j u hi hj => ?_)
   ·have hj' := hjl hj
    rw [hget i j hj']
    rcases hnew i z j u hi hj with ⟨r1, r2⟩ | ⟨r1, z0, r2, r3⟩
    ·obtain ⟨_, u', s1, _⟩ := hnum _ _ r2
     rw [if_pos r1, s1]; rfl
    ·rw [if_neg r1, hg i z0 j u r2 r3]; rfl
   ·have hj' := hjl hj
    show OwnC w' (S i j) ((cur'[i * t.wd + j]?).getD undef) u
    rw [hget i j hj']
    rcases hnew i z j u hi hj with ⟨r1, r2⟩ | ⟨r1, z0, r2, r3⟩
    ·obtain ⟨_, u', s1, s2⟩ := hnum _ _ r2
     rw [if_pos r1, s1]; exact s2 _
    ·rw [if_neg r1, hg i z0 j u r2 r3]
     exact (hr i z0 j u r2 r3).mono fun d hd => ⟨hd, hoth d (hS i j d hd).2⟩
  ·generalize hvq : Value.slice (some ⟨b, 0, none⟩) l.length c = vq at hq
   cases hq with
   | here => exact ⟨l.set k x', .here, by simp⟩
   | @step b2 o2 n2 c2 k2 off2 _ tt _ _ lt _ q' y v3 _ hy hny hcy hin =>
    injection hvq with m1 m2 m3
    injection m1 with m1
    injection m1 with m4 m5
    subst m4 m5 m2 m3
    rw [nth_eq] at hny
    have hj' := hjl hny
    have hno := hnl k2 off2 y tt lt hy hny
    have hv3 : v3 = G k2 off2 := by
     rw [cell_of_row w b _ cur e (0, 0) hh, Nat.zero_add, hg k2 y off2 _ hy hny] at hcy
     injection hcy with hcy
     exact hcy.symm
    subst hv3
    have hcy' : w'.cell? ⟨b, 0 + (k2 * t.wd + off2), none⟩ = some (G k2 off2) := by
     rw [cell_of_row w' b _ cur' e (0, 0) hh', Nat.zero_add, hget k2 off2 hj', if_neg hno]
     exact hg k2 y off2 _ hy hny
    have hin' : At w' (G k2 off2) tt lt q' v2 t2 l3 := hin.mono (hr k2 y off2 _ hy hny).rep fun d hd _ => hoth d (hS k2 off2 d hd).2
    by_cases hkk : k = k2
    ·subst hkk
     rw [hx] at hy
     injection hy with hy
     subst hy
     exact ⟨l3, .step (x := x') (by rw [List.getElem?_set, if_pos rfl, if_pos hkl]) (by rw [nth_eq, hcx, if_neg fun hh => hno ⟨rfl, hh⟩]; exact hny) hcy' hin', rfl⟩
    ·exact ⟨l3, .step (x := y) (by rw [List.getElem?_set, if_neg hkk]; exact hy) (by rw [nth_eq]; exact hny) hcy' hin', rfl⟩
theorem OwnC.row_e {F B : Nat → Prop} {e : Option TypeId} {v : Value} {t : Ty} {l : List t.den} (h : OwnC w B v ⟨.list t, l⟩) (he : ∀ e', e = some e' → ∀ b n c, v = .slice (some ⟨b, 0, none⟩) n c → ∀ cur e0, w.heap[b]? = some (.cells cur e0 (0, 0)) → e0 = e') : RowOk w F B e v t l true := by
 cases h with
 | nil => exact .inl ⟨rfl, rfl⟩
 | list g S hB hh hs hc hm hg hS hd hr => exact .inr ⟨_, _, _, _, g, S, rfl, hB, hh, (fun e' h' => he e' h' _ _ _ rfl _ _ hh), hs, hc, hm, hg, hS, hd, fun i x j u hx hu => by simpa using hr i x j u hx hu⟩
end

section
variable {P : Program} {Γ : Cfg} {W0 w w' : World} {E0 E E' : Env} {nl N base : Nat} {st : ASt} {a : Act} {o : Oper} {tb : Tb}
theorem path_store (h : Sat W0 E0 nl N st E a w) (hd : ∀ d, o.dst = some d → d < N) {t : TypeId} {x v : Operand} (ho : o.op = .store t x v) {n : Nat} {ag : Bool} (ht : tinfo P t = some (n, ag)) {id k off : Nat} {p : List (Nat × Nat)} (hx : st.ev1 x = some (.ptr id p k off)) {y : AV} {vs : List A1} (hv : st.ev v = some y) (hvs : y.cells = some vs) (hn : vs.length = n)
  {e : Option TypeId} {ty : Ty} {l : List ty.den} (hl : lk st.tb id = some (.row e ty l true)) (hsc : vs.all num1 = true) (hp : (updSR ty l p (fun ty' l' f => opt (cut ty'.sig off n) fun sg => decL st.tb sg vs fun cs => elemSR k off cs ty' l' f) fun l'' => .ret { val := .one (.val undef), ins := [(id, .row e ty l'' true)] }).pre) (Q : Exit → Act → World → Prop) {r : SR}
  (hout : ∀ e', (updSR ty l p (fun ty' l' f => opt (cut ty'.sig off n) fun sg => decL st.tb sg vs fun cs => elemSR k off cs ty' l' f) fun l'' => .ret { val := .one (.val undef), ins := [(id, .row e ty l'' true)] }).outs e' → r.outs e') : o.wp P a w (After W0 E0 nl N st o r) Q := by
 have hls : (lk st.tb id).isSome = true := by rw [hl]; rfl
 have hrow : RowOk _ _ _ _ _ _ _ true := h.blks id _ hl
 obtain ⟨b0, o0, n0, c0, t0, l0, hat, hk, hpt⟩ := (h.ev1 hx).2 e ty l true hl
 have hown := hrow.own
 obtain ⟨B', F, hBB, hin, hp1, hout1, hput⟩ := updSR_ok hat hown hp
 obtain ⟨sg, hsg, hp1⟩ := (opt_pre _ _).1 hp1
 have hcl := cells_ok (h.ev hv) hvs
 obtain ⟨cs, k1, kp2, k3, k4⟩ := decL_ok h (us := fun j => ((a.eval v).cells[j]?).getD undef) (k := 0) (fun j z hj => by
  obtain ⟨u, g1, _, g3⟩ := hcl.2 j z hj
  rw [Nat.zero_add, g1]
  exact g3) hp1
 have hxk : l0[k]? = some l0[k] := List.getElem?_eq_getElem hk
 have hp2 := elSR0_pre hxk kp2
 obtain ⟨cs', hov, hp2⟩ := (opt_pre _ _).1 hp2
 obtain ⟨x', hmk, hp2⟩ := (opt_pre _ _).1 hp2
 obtain ⟨cu1, cu2, cu3⟩ := cut_get hsg
 obtain ⟨ov1, ov2, ov3⟩ := ovr_get hov
 have hcsl : cs.length = n := by rw [← List.length_map (f := (·.t)), k1, cu1]
 have hwd : off + n ≤ t0.wd := by rw [← t0.cells_len l0[k], ← hcsl]; exact ov2
 obtain ⟨l2, f1, f2, f3, f4⟩ := hput (l0.set k x') (by simp) hp2
 have hout2 := hout _ (hout1 _ ((opt_outs _ _ _).2 ⟨sg, hsg, k3 _ (elSR0_outs hxk kp2 ((opt_outs _ _ _).2 ⟨cs', hov, (opt_outs _ _ _).2 ⟨x', hmk, f2 _ rfl⟩⟩))⟩))
 -- the inner list's block
 obtain ⟨bq, cur, eT, hb0, hB0, hh, hsz, hc⟩ : ∃ (bq : Nat) (cur : Array Value) (eT : TypeId), o0 = 0 ∧ B' b0 ∧ w.heap[b0]? = some (.cells cur eT (0, 0)) ∧ cur.size = c0 * t0.wd ∧ l0.length ≤ c0 := by
  generalize hv0 : Value.slice (some ⟨b0, o0, none⟩) n0 c0 = v0 at hin
  generalize hcell : (⟨.list t0, l0⟩ : Cell) = cc at hin
  cases hin with
  | junk => cases hcell
  | int => cases hcell
  | bool => cases hcell
  | str => cases hcell
  | nil => cases hv0
  | list G S hB hh hs hcc hm hg hS hSd hr =>
   injection hcell with e1 e2
   injection e1 with e1
   subst e1
   cases e2
   injection hv0 with e3 e4 e5
   injection e3 with e3
   injection e3 with e6 e7
   subst e6 e7 e5
   exact ⟨b0, _, _, rfl, hB, hh, hs, hcc⟩
 subst hb0
 rw [Nat.zero_add] at hpt
 have hvsz : (a.eval v).cells.size = n := by rw [hcl.1, hn]
 have hcurl : l0.length * t0.wd ≤ cur.size := by rw [hsz]; exact Nat.mul_le_mul_right _ hc
 have hklt : (k + 1) * t0.wd ≤ l0.length * t0.wd := Nat.mul_le_mul_right _ hk
 rw [Nat.succ_mul] at hklt
 have hfit : (k * t0.wd + off) + n ≤ cur.size := by omega
 have hrun := run_store_row (P := P) ho ht hpt rfl hvsz hh hfit (fun u hu => by
  obtain ⟨i, hi⟩ := List.getElem?_of_mem hu
  have hlt : i < vs.length := by rw [← hcl.1]; simpa using (List.getElem?_eq_some_iff.1 hi).1
  obtain ⟨u', g1, g2, _⟩ := hcl.2 i _ (List.getElem?_eq_getElem hlt)
  have : u' = u := by
   rw [← Array.getElem?_toList, hi] at g1
   injection g1 with g1
   exact g1.symm
  rw [← this]; exact g2)
 have hcs : (a.eval v).cells.toList.length = n := by simpa using hvsz
 generalize hcur' : (cur.toList.take (k * t0.wd + off) ++ (a.eval v).cells.toList ++ cur.toList.drop (k * t0.wd + off + (a.eval v).cells.toList.length)).toArray = cur' at hrun
 have hcsz : cur'.size = cur.size := by
  rw [← hcur']
  simp only [List.size_toArray, List.length_append, List.length_take, List.length_drop, Array.length_toList, hcs]
  omega
 have hget : ∀ i, cur'[i]? = if k * t0.wd + off ≤ i ∧ i < k * t0.wd + off + n then (a.eval v).cells[i - (k * t0.wd + off)]? else cur[i]? := fun i => by
  rw [← hcur', List.getElem?_toArray, splice_get (by rw [hcs]; simpa using hfit), hcs]
  simp
 have hget2 : ∀ i j, j < t0.wd → cur'[i * t0.wd + j]? = if i = k ∧ off ≤ j ∧ j < off + n then (a.eval v).cells[j - off]? else cur[i * t0.wd + j]? := fun i j hj => by
  rw [hget]
  by_cases hc : i = k ∧ off ≤ j ∧ j < off + n
  ·rw [if_pos ((idx_in hj hwd).2 hc), if_pos hc]
   obtain ⟨rfl, h1, h2⟩ := hc
   congr 1
   omega
  ·rw [if_neg (fun hh => hc ((idx_in hj hwd).1 hh)), if_neg hc]
 have hoth : ∀ b', b' ≠ b0 → (w.setRow b0 cur').heap[b']? = w.heap[b']? := fun b' hb' => setRow_other w _ _ _ hb'
 have hbid : E.bs id b0 := hBB b0 hB0
 obtain ⟨s1, s2⟩ := own_store (w' := w.setRow b0 cur') (us := (a.eval v).cells) hin hxk hov hmk hcsl hh (setRow_heap w _ _ _ _ _ hh) hcsz hget2 hoth (fun j cl hj => by
  obtain ⟨z, g1, g2⟩ := k4 j cl hj
  obtain ⟨u, g3, _, g5⟩ := hcl.2 j z g1
  rw [Nat.zero_add, g3] at g2
  have hz := (List.all_eq_true.1 hsc) z (List.mem_of_getElem? g1)
  have hnl : ∀ t l, cl ≠ ⟨.list t, l⟩ := fun t l e => by
   subst e
   exact num_not_list hz g5 g2.1
  exact ⟨hnl, u, g3, fun B => ownC_scalar (g2.2 (by rw [scal_own hz])) hnl _ _⟩)
 obtain ⟨u1, u2⟩ := f4 (w.setRow b0 cur') B' (fun b _ hnb => hoth b fun e => hnb (e ▸ hB0)) (fun b hb _ => hb) s1
 have u3 := u2 s2
 have u4 : OwnC (w.setRow b0 cur') (E.bs id) (E.hv id) ⟨.list ty, l2⟩ := u1.mono' fun b hb => hb.elim (fun hb => hb.1) (fun hb => hBB b hb)
 have key := h.turn (w' := w.setRow b0 cur') (E' := E) (b1 := .row e ty l2 true) (dl := []) (kill := []) (dst := o.dst) (u := undef) (v := .one (.val undef)) hd hl (by simp) (fun i hi => ⟨rfl, rfl, rfl⟩) rfl rfl (fun b hb => .inl hb) (.inr rfl)
  (fun i hi hni => hoth i fun e3 => hni (e3 ▸ hbid)) (size_setRow w _ _) rfl rfl rfl rfl (by
   refine u4.row_e fun e' he' b n c hvb cur2 e2 hh2 => ?_
   have horig : ∀ cur3 e3, w.heap[b]? = some (.cells cur3 e3 (0, 0)) → e3 = e' := fun cur3 e3 hh3 => by
    rcases hrow with ⟨r1, _⟩ | ⟨b1, c1, er, cr, g, S, r1, _, r2, r3, _⟩
    ·rw [r1] at hvb; cases hvb
    ·rw [r1] at hvb
     injection hvb with q1 _ _
     injection q1 with q1
     injection q1 with q1
     subst q1
     rw [r2] at hh3
     injection hh3 with hh3
     injection hh3 with _ q2 _
     rw [← q2]; exact r3 e' he'
   by_cases hbb : b = b0
   ·subst hbb
    rw [setRow_heap w _ _ _ _ _ hh] at hh2
    injection hh2 with hh2
    injection hh2 with _ q2 _
    rw [← q2]; exact horig _ _ hh
   ·rw [hoth b hbb] at hh2
    exact horig _ _ hh2) (by
   refine ⟨(fun f us hh => by rw [lk_cons, if_pos rfl] at hh; cases hh), fun e' t' l' d' hh => ?_⟩
   rw [lk_cons, if_pos rfl] at hh
   cases hh
   exact ⟨e, l, true, hl, rfl, f3, fun _ q v1 t1 l1 hq => let ⟨l3, z1, z2⟩ := u3 q v1 t1 l1 hq; ⟨l3, z1, z2⟩⟩) (.inl rfl) rfl
 unfold Oper.wp
 rw [hrun]
 exact ⟨_, E, hout2, key⟩

theorem op_store (h : Sat W0 E0 nl N st E a w) (hd : ∀ d, o.dst = some d → d < N) {t : TypeId} {x v : Operand} (ho : o.op = .store t x v) (hp : (step P Γ base o st).pre) (Q : Exit → Act → World → Prop) : o.wp P a w (After W0 E0 nl N st o (step P Γ base o st)) Q := by
 simp only [step, ho, opt_pre] at hp
 obtain ⟨⟨n, ag⟩, ht, x1, hx, vs, hvs, hp⟩ := hp
 obtain ⟨hb, hp⟩ := bif_bad.1 hp
 have hvs' := hvs
 simp only [Option.bind_eq_some_iff] at hvs
 obtain ⟨y, hy, hyc⟩ := hvs
 have hn := (beq_iff _ _).1 hb
 cases x1 with
 | ref id off =>
  cases hl : lk st.tb id with
  | none => simp only [hl] at hp; exact hp.elim
  | some bl => cases bl with
   | row e ty l d => simp only [hl] at hp; exact hp.elim
   | box b ws =>
    simp only [hl] at hp
    obtain ⟨hc, hp⟩ := bif_bad.1 hp
    simp only [opt_pre] at hp
    obtain ⟨l, hov, _⟩ := hp
    refine box_store (b := b) (ws := ws) (l := l) h hd ho ht hx hy hyc hn hl (fun hb' => ?_) hov ?_ Q
    ·subst hb'
     simp only [Bool.not_true, Bool.false_or, Bool.and_eq_true] at hc
     refine ⟨hc.1, ?_⟩
     have := hc.2
     split at this
     ·rename_i old ho'
      exact ⟨old, ho', this⟩
     ·cases this
    ·simp only [step, ho, opt, ht, hx, hvs', hb, cond_true, hl, hc, hov]
     exact rfl
 | ptr id p k off => cases p with
  | cons q p =>
   cases hl : lk st.tb id with
   | none => simp only [hl] at hp; exact hp.elim
   | some bl => cases bl with
    | box f vs => simp only [hl] at hp; exact hp.elim
    | row e ty l d => cases d with
     | false => simp only [hl] at hp; exact hp.elim
     | true =>
      simp only [hl] at hp
      obtain ⟨hc, hp⟩ := bif_bad.1 hp
      refine path_store h hd ho ht hx hy hyc hn hl hc hp Q fun e' he' => ?_
      simp only [step, ho, opt, ht, hx, hvs', hb, cond_true, hl, hc]
      exact he'
  | nil =>
   cases hl : lk st.tb id with
   | none => simp only [hl] at hp; exact hp.elim
   | some bl => cases bl with
    | box f vs => simp only [hl] at hp; exact hp.elim
    | row e ty l d =>
     simp only [hl] at hp
     cases hol : ownL st.tb vs with
     | mk ow dl =>
      rw [hol] at hp
      simp only at hp
      obtain ⟨hc, hp⟩ := bif_bad.1 hp
      simp only [opt_pre] at hp
      obtain ⟨sg, hsg, hp⟩ := hp
      refine row_store h hd ho ht hx hy hyc hn hl hol hc hsg hp Q (fun l' => rfl) fun e' he' => ?_
      simp only [step, ho, opt, ht, hx, hvs', hb, cond_true, hl, hol, hc, hsg]
      exact he'
 | _ => exact hp.elim
end
end Go.Proofs.YtpgglbnagphgoaaGreat
/- A call: what is handed over. -/
namespace Go.Proofs.YtpgglbnagphgoaaGreat
open Go.RowKit
open SR (opt)

theorem from_len (n m : Nat) : (from? n m).length = m := by
 induction m generalizing n with
 | zero => rfl
 | succ m ih => simp [from?, ih]
theorem from_get (n m i : Nat) (h : i < m) : (from? n m)[i]? = some (n + i) := by
 induction m generalizing n i with
 | zero => omega
 | succ m ih =>
  cases i with
  | zero => simp [from?]
  | succ i =>
   simp only [from?, List.getElem?_cons_succ]
   rw [ih (n + 1) i (by omega)]
   congr 1
   omega

section
variable {P : Program} {Γ : Cfg} {W0 w w' : World} {E0 E E' E1 : Env} {nl N base : Nat} {st : ASt} {a : Act} {o : Oper} {tb tbc : Tb} {rd : List Nat}

def Lk (E E1 : Env) (n : Nat) (bs : List Nat) : Prop := ∀ (j id : Nat), bs[j]? = some id → E1.hd (n + j) = E.hd id ∧ E1.hv (n + j) = E.hv id ∧ E1.bs (n + j) = E.bs id
theorem Lk.left {n : Nat} {bs cs : List Nat} (h : Lk E E1 n (bs ++ cs)) : Lk E E1 n bs := fun j id hj => h j id (by rw [List.getElem?_append_left (List.getElem?_eq_some_iff.1 hj).1]; exact hj)
theorem Lk.right {n : Nat} {bs cs : List Nat} (h : Lk E E1 n (bs ++ cs)) : Lk E E1 (n + bs.length) cs := fun j id hj => by
 have := h (bs.length + j) id (by rw [List.getElem?_append_right (by omega)]; simpa using hj)
 rwa [← Nat.add_assoc] at this
def Rd (w : World) (E : Env) (tb : Tb) (E1 : Env) (tbc : Tb) (rd : List Nat) : Prop := (∀ b, Fz w E tb b → Fz w E1 tbc b) ∧ ∀ k, k ∈ rd → (lk tb k).isSome = true → ∀ b, E.bs k b → Fz w E1 tbc b
theorem decL_len (h : Sat W0 E0 nl N st E a w) : ∀ {tys : List Ty} {l : List A1} {f : List Cell → SR}, (∀ x ∈ l, ∃ u, RepA w E st.tb u x) → (decL st.tb tys l f).pre → l.length = tys.length := by
 intro tys
 induction tys with
 | nil => intro l f _ hp; cases l with | nil => rfl | cons => exact hp.elim
 | cons ty tys ih =>
  intro l f hl hp
  cases l with
  | nil => exact hp.elim
  | cons x l =>
   simp only [decL] at hp
   obtain ⟨u, hu⟩ := hl x (by simp)
   obtain ⟨c, _, hc, _⟩ := decC_ok h hu hp
   simp [ih (fun y hy => hl y (by simp [hy])) hc]
theorem fact_rep {x : A1} {u : Value} {c : Cell} (hc : CellFact w E st.tb x u c) (hr : Rd w E st.tb E1 tbc rd) (hrd : ∀ k ∈ rows1 x, k ∈ rd) : RepC w (Fz w E1 tbc) u c :=
 hc.1.mono (fun b hb _ => ⟨hb.elim (fun hb => hr.1 b hb) fun ⟨k, h1, h2, h3⟩ => hr.2 k (hrd k h1) h2 b h3, rfl⟩) (Nat.le_refl _)
theorem cells_enc (h : Sat W0 E0 nl N st E a w) (hr : ∀ tbc, Rd w E st.tb E1 tbc rd) {arr : Array Value} {vs : List A1} (hl : RepL w E st.tb arr vs) {t : Ty} {g : t.den → SR} (hp : (decT st.tb t vs g).pre) (hrd : ∀ k ∈ vs.flatMap rows1, k ∈ rd) :
  ∃ x, (g x).pre ∧ (∀ e, (g x).outs e → (decT st.tb t vs g).outs e) ∧ ∀ tbc, RepL w E1 tbc arr ((t.cells x).map .c) := by
 obtain ⟨x, h1, h2, h3⟩ := decT_ok h (us := fun j => (arr[j]?).getD undef) (k := 0) (fun j y hj => by
  obtain ⟨u, g1, _, g3⟩ := hl.2 j y hj
  rw [Nat.zero_add, g1]
  exact g3) hp
 have hlen : vs.length = t.wd := decL_len h (fun y hy => by
  obtain ⟨i, hi⟩ := List.getElem?_of_mem hy
  obtain ⟨u, _, _, g3⟩ := hl.2 i y hi
  exact ⟨u, g3⟩) hp
 refine ⟨x, h1, h2, fun tbc => ⟨by rw [hl.1, hlen]; simp [t.cells_len], fun i y hi => ?_⟩⟩
 simp only [List.getElem?_map, Option.map_eq_some_iff] at hi
 obtain ⟨c, hc, rfl⟩ := hi
 obtain ⟨z, g1, g2⟩ := h3 i c hc
 obtain ⟨u, g3, g4, _⟩ := hl.2 i z g1
 rw [Nat.zero_add, g3] at g2
 exact ⟨u, g3, g4, fact_rep g2 (hr tbc) fun k hk => hrd k (List.mem_flatMap.2 ⟨z, List.mem_of_getElem? g1, hk⟩)⟩
theorem box_enc (h : Sat W0 E0 nl N st E a w) (hr : ∀ tbc, Rd w E st.tb E1 tbc rd) {id n : Nat} {f : Bool} {vs : List A1} (hl : lk st.tb id = some (.box f vs)) (hlk : E1.hd n = E.hd id ∧ E1.hv n = E.hv id ∧ E1.bs n = E.bs id) {t : Ty} {g : t.den → SR} (hp : (decT st.tb t vs g).pre) (hrd : ∀ k ∈ vs.flatMap rows1, k ∈ rd) :
  ∃ x, (g x).pre ∧ (∀ e, (g x).outs e → (decT st.tb t vs g).outs e) ∧ ∀ tbc, BlkOk w w E1 tbc n (boxOf t x) := by
 obtain ⟨cur, T, g1, g2, g3, _⟩ := (h.blks id _ hl : BlkOk _ _ _ _ _ (.box f vs))
 obtain ⟨x, h1, h2, h3⟩ := cells_enc h hr g3 hp hrd
 exact ⟨x, h1, h2, fun tbc => ⟨cur, T, by rw [hlk.1]; exact g1, by rw [hlk.1, hlk.2.2]; exact g2, h3 tbc, fun _ => ⟨by rw [hlk.1]; exact (Array.getElem?_eq_some_iff.1 g1).1, fun _ _ _ _ => rfl⟩⟩⟩

def Has (w : World) (E1 : Env) (n m : Nat) (tb' : Tb) : Prop := ∀ p ∈ tb', n ≤ p.1 ∧ p.1 < m ∧ ∀ tbc, BlkOk w w E1 tbc p.1 p.2
theorem Has.append {n m k : Nat} {t1 t2 : Tb} (h1 : Has w E1 n m t1) (h2 : Has w E1 m k t2) (hnm : n ≤ m) (hmk : m ≤ k) : Has w E1 n k (t1 ++ t2) := fun p hp => by
 rcases List.mem_append.1 hp with hp | hp
 ·obtain ⟨a, b, c⟩ := h1 p hp; exact ⟨a, by omega, c⟩
 ·obtain ⟨a, b, c⟩ := h2 p hp; exact ⟨by omega, b, c⟩
def isBox (tb : Tb) (id : Nat) : Prop := ∃ f vs, lk tb id = some (.box f vs)
theorem decTyL_ok (h : Sat W0 E0 nl N st E a w) (hr : ∀ tbc, Rd w E st.tb E1 tbc rd) : ∀ (l : List Ty) (ids : List Nat) (f : TyL l → SR) (n : Nat), (decTyL st.tb l ids f).pre → Lk E E1 n ids → (∀ k ∈ rowsB st.tb ids, k ∈ rd) →
  ∃ x, (f x).pre ∧ (∀ e, (f x).outs e → (decTyL st.tb l ids f).outs e) ∧ Has w E1 n (n + ids.length) (encTyL n l x) ∧ ids.length = l.length ∧ ∀ id ∈ ids, isBox st.tb id := by
 intro l
 induction l with
 | nil =>
  intro ids f n hp _ _
  cases ids with
  | nil => exact ⟨(), hp, (fun e he => he), (fun p hp => by cases hp), rfl, (fun id hid => by cases hid)⟩
  | cons => exact hp.elim
 | cons t l ih =>
  intro ids f n hp hk hrd
  cases ids with
  | nil => exact hp.elim
  | cons id ids =>
   simp only [decTyL] at hp ⊢
   cases hl : lk st.tb id with
   | none => rw [hl] at hp; exact hp.elim
   | some b => cases b with
    | row e t l d => rw [hl] at hp; exact hp.elim
    | box g vs =>
     rw [hl] at hp
     simp only at hp ⊢
     obtain ⟨x, h1, h2, h3⟩ := box_enc h hr hl (by have := hk 0 id rfl; simpa using this) hp fun k hkk => hrd k (by simp only [rowsB, hl]; exact List.mem_append.2 (.inl hkk))
     obtain ⟨y, g1, g2, g3, g4, g5⟩ := ih ids (fun y => f (x, y)) (n + 1) h1 (fun j id' hj => by have := hk (j + 1) id' (by simpa using hj); rwa [show n + 1 + j = n + (j + 1) from by omega]) (fun k hkk => hrd k (by simp only [rowsB]; exact List.mem_append.2 (.inr hkk)))
     refine ⟨(x, y), g1, fun e he => h2 e (g2 e he), fun p hp => ?_, by simp [g4], fun i hi => ?_⟩
     ·simp only [encTyL, List.mem_cons] at hp
      rcases hp with rfl | hp
      ·exact ⟨Nat.le_refl _, by simp, h3⟩
      ·obtain ⟨q1, q2, q3⟩ := g3 p hp
       exact ⟨by omega, by simp; omega, q3⟩
     ·rcases List.mem_cons.1 hi with rfl | hi
      ·exact ⟨g, vs, hl⟩
      ·exact g5 i hi
theorem rowsB_app (tb : Tb) (l m : List Nat) : rowsB tb (l ++ m) = rowsB tb l ++ rowsB tb m := by
 induction l with
 | nil => rfl
 | cons x l ih => simp [rowsB, ih]
theorem decCT_ok (h : Sat W0 E0 nl N st E a w) (hr : ∀ tbc, Rd w E st.tb E1 tbc rd) (c : CT) (id : Nat) (f : c.den → SR) (n : Nat) (hp : (decCT st.tb id c f).pre) {bs : List Nat} (hi : idsCT st.tb id c = some bs) (hk : Lk E E1 n bs) (hrd : ∀ k ∈ rowsB st.tb bs, k ∈ rd) :
  ∃ x, (f x).pre ∧ (∀ e, (f x).outs e → (decCT st.tb id c f).outs e) ∧ Has w E1 n (n + bs.length) (encCT n c x).1 ∧ (encCT n c x).2 = n + bs.length ∧ isBox st.tb id ∧ bs[0]? = some id ∧ ∀ i ∈ bs, (lk st.tb i).isSome = true := by
 cases c with
 | ty t =>
  simp only [idsCT, Option.some.injEq] at hi
  subst hi
  simp only [decCT] at hp ⊢
  cases hl : lk st.tb id with
  | none => rw [hl] at hp; exact hp.elim
  | some b => cases b with
   | row e t l d => rw [hl] at hp; exact hp.elim
   | box g vs =>
    rw [hl] at hp
    simp only at hp ⊢
    obtain ⟨x, h1, h2, h3⟩ := box_enc h hr hl (by have := hk 0 id rfl; simpa using this) hp fun k hkk => hrd k (by simp only [rowsB, hl]; exact List.mem_append.2 (.inl hkk))
    refine ⟨x, h1, h2, fun p hp => ?_, rfl, ⟨g, vs, hl⟩, rfl, fun i hi => ?_⟩
    ·simp only [encCT, List.mem_singleton] at hp
     subst hp
     exact ⟨Nat.le_refl _, by simp, h3⟩
    ·simp only [List.mem_singleton] at hi
     subst hi
     rw [hl]; rfl
 | fn g caps =>
  simp only [decCT] at hp ⊢
  simp only [idsCT] at hi
  split at hp
  ·rename_i fl g' ids hl
   simp only [hl] at hi ⊢
   obtain ⟨hg, hp⟩ := bif_bad.1 hp
   have hg' := (beq_iff _ _).1 hg
   subst hg'
   injection hi with hi
   subst hi
   simp only [hg, cond_true]
   obtain ⟨x, h1, h2, h3, h4, h5⟩ := decTyL_ok h hr caps ids f (n + 1) hp (fun j id' hj => by have := hk (j + 1) id' (by simpa using hj); rwa [show n + 1 + j = n + (j + 1) from by omega]) (fun k hkk => hrd k (by simp only [rowsB]; exact List.mem_append.2 (.inr hkk)))
   have hk0 : E1.hd n = E.hd id ∧ E1.hv n = E.hv id ∧ E1.bs n = E.bs id := by have := hk 0 id rfl; simpa using this
   refine ⟨x, h1, h2, fun p hp => ?_, by simp [encCT, h4]; omega, ⟨fl, _, hl⟩, rfl, fun i hi => ?_⟩
   ·simp only [encCT, List.mem_cons] at hp
    rcases hp with rfl | hp
    ·refine ⟨Nat.le_refl _, by simp, fun tbc => ?_⟩
     obtain ⟨cur, T, g1, g2, g3, _⟩ := (h.blks id _ hl : BlkOk _ _ _ _ _ (.box fl [.fn g' ids]))
     refine ⟨cur, T, by rw [hk0.1]; exact g1, by rw [hk0.1, hk0.2.2]; exact g2, ⟨g3.1, fun i y hi => ?_⟩, fun _ => ⟨by rw [hk0.1]; exact (Array.getElem?_eq_some_iff.1 g1).1, fun _ _ _ _ => rfl⟩⟩
     cases i with
     | succ i => simp at hi
     | zero =>
      simp only [List.getElem?_cons_zero, Option.some.injEq] at hi
      subst hi
      obtain ⟨u, q1, q2, arr, q3, q4, q5⟩ := g3.2 0 _ rfl
      refine ⟨u, q1, q2, arr, q3, by rw [from_len, ← h4]; exact q4, fun i id' hi => ?_⟩
      have hlt : i < caps.length := by rw [← from_len (n + 1) caps.length]; exact (List.getElem?_eq_some_iff.1 hi).1
      rw [from_get _ _ _ hlt] at hi
      injection hi with hi
      subst hi
      have hil : i < ids.length := by omega
      obtain ⟨u', r1, r2, r3⟩ := q5 i ids[i] (List.getElem?_eq_getElem hil)
      refine ⟨u', r1, r2, fun f' vs' _ => ?_⟩
      obtain ⟨f2, vs2, hb⟩ := h5 ids[i] (List.getElem_mem hil)
      have := hk (i + 1) ids[i] (by simp [hil])
      rw [show n + 1 + i = n + (i + 1) from by omega, this.1]
      exact r3 f2 vs2 hb
    ·obtain ⟨q1, q2, q3⟩ := h3 p hp
     exact ⟨by omega, by simp; omega, q3⟩
   ·rcases List.mem_cons.1 hi with rfl | hi
    ·rw [hl]; rfl
    ·obtain ⟨f2, vs2, hb⟩ := h5 i hi
     rw [hb]; rfl
  ·exact hp.elim
theorem decCTL_ok (h : Sat W0 E0 nl N st E a w) (hr : ∀ tbc, Rd w E st.tb E1 tbc rd) : ∀ (l : List CT) (ids : List Nat) (f : CTL l → SR) (n : Nat) (bs : List Nat), (decCTL st.tb l ids f).pre → idsCTL st.tb l ids = some bs → Lk E E1 n bs → (∀ k ∈ rowsB st.tb bs, k ∈ rd) →
  ∃ x, (f x).pre ∧ (∀ e, (f x).outs e → (decCTL st.tb l ids f).outs e) ∧ Has w E1 n (n + bs.length) (encCTL n l x).2.1 ∧ (encCTL n l x).2.2 = n + bs.length ∧ (encCTL n l x).1.length = ids.length ∧ (∀ (i id : Nat), ids[i]? = some id → isBox st.tb id ∧ ∃ m, (encCTL n l x).1[i]? = some m ∧ E1.hd m = E.hd id) ∧ ∀ i ∈ bs, (lk st.tb i).isSome = true := by
 intro l
 induction l with
 | nil =>
  intro ids f n bs hp hi _ _
  cases ids with
  | nil =>
   simp only [idsCTL, Option.some.injEq] at hi
   subst hi
   exact ⟨(), hp, (fun e he => he), (fun p hp => by cases hp), rfl, rfl, (fun i id hid => by simp at hid), (fun i hi => by cases hi)⟩
  | cons => exact hp.elim
 | cons c l ih =>
  intro ids f n bs hp hi hk hrd
  cases ids with
  | nil => exact hp.elim
  | cons id ids =>
   simp only [idsCTL, Option.bind_eq_some_iff, Option.map_eq_some_iff] at hi
   obtain ⟨b1, hb1, b2, hb2, rfl⟩ := hi
   simp only [decCTL] at hp ⊢
   obtain ⟨x, h1, h2, h3, h4, h5, h6, h7⟩ := decCT_ok h hr c id _ n hp hb1 hk.left (fun k hkk => hrd k (by rw [rowsB_app]; exact List.mem_append.2 (.inl hkk)))
   obtain ⟨y, g1, g2, g3, g4, g5, g6, g7⟩ := ih ids (fun y => f (x, y)) (n + b1.length) b2 h1 hb2 hk.right (fun k hkk => hrd k (by rw [rowsB_app]; exact List.mem_append.2 (.inr hkk)))
   rw [← h4] at g3 g4 g5 g6
   have e1 : (encCTL n (c :: l) (x, y)) = (n :: (encCTL (encCT n c x).2 l y).1, (encCT n c x).1 ++ (encCTL (encCT n c x).2 l y).2.1, (encCTL (encCT n c x).2 l y).2.2) := rfl
   refine ⟨(x, y), g1, fun e he => h2 e (g2 e he), ?_, ?_, ?_, fun i id' hid => ?_, fun i hi => ?_⟩
   ·rw [e1]
    rw [h4] at g3
    have g3' : Has w E1 (n + b1.length) (n + (b1 ++ b2).length) (encCTL (encCT n c x).2 l y).2.1 := by
     rw [h4]
     simpa [Nat.add_assoc] using g3
    exact h3.append g3' (by omega) (by simp)
   ·show (encCTL (encCT n c x).2 l y).2.2 = _
    rw [g4, h4]; simp; omega
   ·rw [e1]; simp [g5]
   ·rw [e1]
    cases i with
    | zero =>
     simp only [List.getElem?_cons_zero, Option.some.injEq] at hid
     subst hid
     refine ⟨h5, n, rfl, ?_⟩
     have := hk.left 0 id h6
     simpa using this.1
    | succ i => simpa using g6 i id' (by simpa using hid)
   ·rcases List.mem_append.1 hi with hi | hi
    ·exact h7 i hi
    ·exact g7 i hi
theorem avT_ok {t : Ty} {x : t.den} {u : Value} (hst : t.isSt = false) (h : RepC w (Fz w E1 tbc) u ⟨t, x⟩) : RepV w E1 tbc u (avT t x) := by
 unfold avT
 rw [hst]
 exact h
theorem cells_one_ty {t : Ty} (h : t.isSt = false) (x : t.den) : t.cells x = [⟨t, x⟩] := by
 cases t <;> first | rfl | cases h
theorem decV_ok (h : Sat W0 E0 nl N st E a w) (hr : ∀ tbc, Rd w E st.tb E1 tbc rd) {t : Ty} {v : AV} {u : Value} (hv : RepV w E st.tb u v) {f : t.den → SR} (hp : (decV st.tb t v f).pre) (hrd : ∀ k ∈ rowsV v, k ∈ rd) :
  ∃ x, (f x).pre ∧ (∀ e, (f x).outs e → (decV st.tb t v f).outs e) ∧ ∀ tbc, RepV w E1 tbc u (avT t x) := by
 cases v with
 | tup l => exact hp.elim
 | agg l =>
  simp only [decV] at hp ⊢
  obtain ⟨hs, hp⟩ := bif_bad.1 hp
  obtain ⟨arr, rfl, hl⟩ := hv
  obtain ⟨x, h1, h2, h3⟩ := cells_enc h hr hl hp hrd
  refine ⟨x, h1, fun e he => by rw [hs]; exact h2 e he, fun tbc => ?_⟩
  unfold avT
  rw [hs]
  exact ⟨arr, rfl, h3 tbc⟩
 | one y =>
  simp only [decV] at hp ⊢
  cases hs : t.isSt with
  | true => rw [hs] at hp; exact hp.elim
  | false =>
   rw [hs] at hp
   simp only [cond_false] at hp ⊢
   have hy : RepA w E st.tb u y := hv
   obtain ⟨x, h1, h2, h3⟩ := decT_ok h (us := fun _ => u) (k := 0) (fun j z hj => by
    cases j with
    | zero => simp only [List.getElem?_cons_zero, Option.some.injEq] at hj; subst hj; exact hy
    | succ j => simp at hj) hp
   obtain ⟨z, g1, g2⟩ := h3 0 ⟨t, x⟩ (by rw [cells_one_ty hs]; rfl)
   simp only [List.getElem?_cons_zero, Option.some.injEq] at g1
   subst g1
   exact ⟨x, h1, h2, fun tbc => avT_ok hs (fact_rep g2 (hr tbc) hrd)⟩
theorem decO_ok (h : Sat W0 E0 nl N st E a w) {us : Nat → Value} : ∀ (tys : List Ty) (l : List A1) (f : List Cell → SR) (n k : Nat), (∀ (j : Nat) x, l[j]? = some x → RepA w E st.tb (us (k + j)) x) → (decO st.tb tys l f).pre → Lk E E1 n (idsO l) →
  ∃ cs : List Cell, cs.map (·.t) = tys ∧ (f cs).pre ∧ (∀ e, (f cs).outs e → (decO st.tb tys l f).outs e) ∧ Has w E1 n (n + (idsO l).length) (encO n cs).2.1 ∧ (encO n cs).2.2 = n + (idsO l).length ∧ (encO n cs).1.length = l.length ∧ (∀ (j : Nat) x, (encO n cs).1[j]? = some x → ∀ tbc, RepA w E1 tbc (us (k + j)) x) ∧ ∀ i ∈ idsO l, (lk st.tb i).isSome = true := by
 intro tys
 induction tys with
 | nil =>
  intro l f n k hl hp hk
  cases l with
  | nil => exact ⟨[], rfl, hp, (fun e he => he), (fun p hp => by cases hp), rfl, rfl, (fun j x hj => by simp [encO] at hj), (fun i hi => by cases hi)⟩
  | cons => exact hp.elim
 | cons ty tys ih =>
  intro l f n k hl hp hk
  cases l with
  | nil => exact hp.elim
  | cons y l =>
   have hy := hl 0 y rfl
   rw [Nat.add_zero] at hy
   have hl' : ∀ (j : Nat) x, l[j]? = some x → RepA w E st.tb (us (k + 1 + j)) x := fun j x hj => by
    have := hl (j + 1) x (by simpa using hj)
    rwa [show k + (j + 1) = k + 1 + j by omega] at this
   simp only [decO] at hp ⊢
   -- a cell that is no list
   have scal : ∀ (c : Cell), c.t = ty → (∀ t l, c ≠ ⟨.list t, l⟩) → RepC w (Fz w E st.tb) (us k) c → idsO (y :: l) = idsO l → (decO st.tb tys l fun l => f (c :: l)).pre → (∀ e, (decO st.tb tys l fun l => f (c :: l)).outs e → (decO1 st.tb ty y fun c => decO st.tb tys l fun l => f (c :: l)).outs e) →
     ∃ cs : List Cell, cs.map (·.t) = ty :: tys ∧ (f cs).pre ∧ (∀ e, (f cs).outs e → (decO1 st.tb ty y fun c => decO st.tb tys l fun l => f (c :: l)).outs e) ∧ Has w E1 n (n + (idsO (y :: l)).length) (encO n cs).2.1 ∧ (encO n cs).2.2 = n + (idsO (y :: l)).length ∧ (encO n cs).1.length = (y :: l).length ∧ (∀ (j : Nat) x, (encO n cs).1[j]? = some x → ∀ tbc, RepA w E1 tbc (us (k + j)) x) ∧ ∀ i ∈ idsO (y :: l), (lk st.tb i).isSome = true := fun c hct hnl hr hids hp hout => by
    rw [hids] at hk ⊢
    obtain ⟨cs, h1, h2, h3, h4, h5, h6, h7, h8⟩ := ih l _ n (k + 1) hl' hp hk
    have he : encO n (c :: cs) = (.c c :: (encO n cs).1, (encO n cs).2.1, (encO n cs).2.2) := by
     obtain ⟨tc, xc⟩ := c
     cases tc with
     | list t => exact absurd rfl (hnl t xc)
     | _ => rfl
    refine ⟨c :: cs, by simp [h1, hct], h2, fun e he => hout e (h3 e he), by rw [he]; exact h4, by rw [he]; exact h5, by rw [he]; simp [h6], fun j x hj tbc => ?_, h8⟩
    rw [he] at hj
    cases j with
    | zero =>
     simp only [List.getElem?_cons_zero, Option.some.injEq] at hj
     subst hj
     exact hr.scalar hnl
    | succ j =>
     have := h7 j x (by simpa using hj) tbc
     rwa [show k + 1 + j = k + (j + 1) by omega] at this
   cases y with
   | c x =>
    obtain ⟨tx, xx⟩ := x
    cases tx with
    | list t => exact hp.elim
    | int kk =>
     simp only [decO1] at hp
     split at hp
     ·rename_i hx; exact scal _ hx (fun t l e => by cases e) hy rfl hp fun e he => by simp only [decO1, if_pos hx]; exact he
     ·exact hp.elim
    | bool =>
     simp only [decO1] at hp
     split at hp
     ·rename_i hx; exact scal _ hx (fun t l e => by cases e) hy rfl hp fun e he => by simp only [decO1, if_pos hx]; exact he
     ·exact hp.elim
    | str =>
     simp only [decO1] at hp
     split at hp
     ·rename_i hx; exact scal _ hx (fun t l e => by cases e) hy rfl hp fun e he => by simp only [decO1, if_pos hx]; exact he
     ·exact hp.elim
    | st s =>
     have hy : RepC w (Fz w E st.tb) (us k) ⟨.st s, xx⟩ := hy
     generalize us k = v at hy
     cases hy
    | hol s =>
     have hy : RepC w (Fz w E st.tb) (us k) ⟨.hol s, xx⟩ := hy
     generalize us k = v at hy
     cases hy
    | junk =>
     simp only [decO1] at hp
     split at hp
     ·rename_i hx; exact scal _ hx (fun t l e => by cases e) hy rfl hp fun e he => by simp only [decO1, if_pos hx]; exact he
     ·exact hp.elim
   | lit b =>
    simp only [decO1] at hp
    split at hp
    ·rename_i hx
     have hy : us k = .bool b := hy
     exact scal (cb b) hx.symm (fun t l e => by cases e) (by rw [hy]; exact RepC.bool) rfl hp fun e he => by simp only [decO1, if_pos hx]; exact he
    ·exact hp.elim
   | sl id p => cases p with
    | cons q p => exact hp.elim
    | nil =>
     simp only [decO1] at hp ⊢
     cases hlk : lk st.tb id with
     | none => rw [hlk] at hp; exact hp.elim
     | some b => cases b with
      | box g vs => rw [hlk] at hp; exact hp.elim
      | row e' t' x d => cases d with
       | false => rw [hlk] at hp; exact hp.elim
       | true =>
        simp only [hlk] at hp ⊢
        split at hp
        ·rename_i ht
         subst ht
         have hk0 : E1.hd n = E.hd id ∧ E1.hv n = E.hv id ∧ E1.bs n = E.bs id := by have := hk 0 id rfl; simpa using this
         have hk1 : Lk E E1 (n + 1) (idsO l) := fun j id' hj => by
          have := hk (j + 1) id' (by simpa [idsO] using hj)
          rwa [show n + (j + 1) = n + 1 + j by omega] at this
         obtain ⟨cs, h1, h2, h3, h4, h5, h6, h7, h8⟩ := ih l _ (n + 1) (k + 1) hl' hp hk1
         have he : encO n (⟨.list t', x⟩ :: cs) = (.sl n [] :: (encO (n + 1) cs).1, (n, .row none t' x true) :: (encO (n + 1) cs).2.1, (encO (n + 1) cs).2.2) := rfl
         have hlen : (idsO (.sl id [] :: l)).length = (idsO l).length + 1 := rfl
         refine ⟨⟨.list t', x⟩ :: cs, by simp [h1], h2, fun e he => by rw [if_pos rfl]; exact h3 e he, ?_, by rw [he, hlen]; simp only [h5]; omega, by rw [he]; simp [h6], fun j z hj tbc => ?_, fun i hi => ?_⟩
         ·rw [he, hlen]
          intro p hp
          rcases List.mem_cons.1 hp with rfl | hp
          ·refine ⟨Nat.le_refl _, by simp only; omega, fun tbc => ?_⟩
           show RowOk w _ (E1.bs n) none (E1.hv n) t' x true
           rw [hk0.2.1, hk0.2.2]
           exact (RowOk.own (h.blks id _ hlk)).row
          ·obtain ⟨q1, q2, q3⟩ := h4 p hp
           exact ⟨by omega, by omega, q3⟩
         ·rw [he] at hj
          cases j with
          | zero =>
           simp only [List.getElem?_cons_zero, Option.some.injEq] at hj
           subst hj
           have hv : RepA w E st.tb (us k) (.sl id []) := hy
           obtain ⟨t1, l1, hat⟩ := hv.2 e' t' x true hlk
           obtain ⟨e1, _⟩ := hat.nil_inv
           refine ⟨hv.1, fun e2 t2 l2 d2 _ => ⟨t2, l2, ?_⟩⟩
           rw [hk0.2.1, Nat.add_zero, e1]
           exact .here
          | succ j =>
           have := h7 j z (by simpa using hj) tbc
           rwa [show k + 1 + j = k + (j + 1) by omega] at this
         ·rcases List.mem_cons.1 (show i ∈ id :: idsO l from hi) with rfl | hi
          ·rw [hlk]; rfl
          ·exact h8 i hi
        ·exact hp.elim
   | _ => exact hp.elim
theorem decPT_ok (h : Sat W0 E0 nl N st E a w) (hr : ∀ tbc, Rd w E st.tb E1 tbc rd) (p : PT) (v : AV) {u : Value} (hv : RepV w E st.tb u v) (f : p.den → SR) (n : Nat) (bs : List Nat) (hp : (decPT st.tb p v f).pre) (hi : idsPT st.tb p v = some bs) (hk : Lk E E1 n bs) (hrd : ∀ k ∈ rowsP [p] [v] ++ rowsB st.tb bs, k ∈ rd) :
  ∃ x, (f x).pre ∧ (∀ e, (f x).outs e → (decPT st.tb p v f).outs e) ∧ Has w E1 n (n + bs.length) (encPT n p x).2.1 ∧ (encPT n p x).2.2 = n + bs.length ∧ (∀ tbc, RepV w E1 tbc u (encPT n p x).1) ∧ ∀ i ∈ bs, (lk st.tb i).isSome = true := by
 cases p with
 | ro t =>
  simp only [idsPT, Option.some.injEq] at hi
  subst hi
  simp only [decPT] at hp ⊢
  obtain ⟨x, h1, h2, h3⟩ := decV_ok h hr hv hp (fun k hkk => hrd k (List.mem_append.2 (.inl (by simpa [rowsP] using hkk))))
  exact ⟨x, h1, h2, (fun p hp => by cases hp), rfl, h3, (fun i hi => by cases hi)⟩
 | box c => cases v with
  | agg l => exact hp.elim
  | tup l => exact hp.elim
  | one y => cases y with
   | ref id off => cases off with
    | succ off => exact hp.elim
    | zero =>
     simp only [decPT] at hp ⊢
     simp only [idsPT] at hi
     obtain ⟨x, h1, h2, h3, h4, ⟨fl, vs, hb⟩, h6, h7⟩ := decCT_ok h hr c id f n hp hi hk fun k hkk => hrd k (List.mem_append.2 (.inr hkk))
     refine ⟨x, h1, h2, h3, h4, fun tbc => ?_, h7⟩
     have hv : RepA w E st.tb u (.ref id 0) := hv
     refine ⟨hv.1, fun f' vs' _ => ?_⟩
     have := (hk 0 id h6).1
     rw [Nat.add_zero] at this
     rw [this]
     exact hv.2 fl vs hb
   | _ => exact hp.elim
 | row e t => cases v with
  | agg l => exact hp.elim
  | tup l => exact hp.elim
  | one y => cases y with
   | sl id p => cases p with
    | cons q p => exact hp.elim
    | nil =>
     simp only [decPT] at hp ⊢
     simp only [idsPT, Option.some.injEq] at hi
     subst hi
     cases hl : lk st.tb id with
     | none => rw [hl] at hp; exact hp.elim
     | some b => cases b with
      | box g vs => rw [hl] at hp; exact hp.elim
      | row e' t' l d => cases d with
       | false => rw [hl] at hp; exact hp.elim
       | true =>
        simp only [hl] at hp ⊢
        by_cases ht : t' = t
        ·subst ht
         simp only [dite_true] at hp ⊢
         obtain ⟨he, hp⟩ := bif_bad.1 hp
         rw [he]
         simp only [cond_true]
         have hk0 : E1.hd n = E.hd id ∧ E1.hv n = E.hv id ∧ E1.bs n = E.bs id := by have := hk 0 id rfl; simpa using this
         have hrow : RowOk _ _ _ _ _ _ _ _ := h.blks id _ hl
         refine ⟨l, hp, (fun e he => he), fun p hp => ?_, rfl, fun tbc => ?_, fun i hi => ?_⟩
         ·simp only [encPT, List.mem_singleton] at hp
          subst hp
          refine ⟨Nat.le_refl _, by simp, fun tbc => ?_⟩
          show RowOk w _ (E1.bs n) e (E1.hv n) t' l true
          rw [hk0.2.1, hk0.2.2]
          have := hrow.own.row (F := Fz w E1 tbc)
          rcases hrow with hh | ⟨b, c, e0, cur, g, S, g1, g2, g3, g4, g5, g6, g7, g8, g9, g10, g11⟩
          ·exact .inl hh
          ·refine .inr ⟨b, c, e0, cur, g, S, g1, g2, g3, fun e1 h1 => ?_, g5, g6, g7, g8, g9, g10, fun i x j u hx hu => by simpa using g11 i x j u hx hu⟩
           subst h1
           exact g4 e1 (of_decide_eq_true he)
         ·have hv : RepA w E st.tb u (.sl id []) := hv
          obtain ⟨t1, l1, hat⟩ := hv.2 e' t' l true hl
          obtain ⟨e1, _⟩ := hat.nil_inv
          refine ⟨hv.1, fun e2 t2 l2 d2 _ => ⟨t2, l2, ?_⟩⟩
          rw [hk0.2.1, e1]
          exact .here
         ·simp only [List.mem_singleton] at hi
          subst hi
          rw [hl]; rfl
        ·simp only [dif_neg ht] at hp
         exact hp.elim
   | _ => exact hp.elim
 | own s => cases v with
  | one l => exact hp.elim
  | tup l => exact hp.elim
  | agg l =>
   simp only [idsPT, Option.some.injEq] at hi
   subst hi
   simp only [decPT] at hp ⊢
   obtain ⟨arr, ha, hv⟩ := hv
   obtain ⟨cs, h1, h2, h3, h4, h5, h6, h7, h8⟩ := decO_ok (us := fun j => (arr[j]?).getD undef) h s.sig l _ n 0 (fun j x hj => by
    obtain ⟨u', g1, _, g3⟩ := hv.2 j x hj
    rw [Nat.zero_add, g1]; exact g3) hp hk
   obtain ⟨x, hx, h2⟩ := (opt_pre _ _).1 h2
   have hxc := SN.mk_eq hx
   refine ⟨x, h2, fun e he => h3 e ((opt_outs _ _ _).2 ⟨x, hx, he⟩), by simp only [encPT]; rw [hxc]; exact h4, by simp only [encPT]; rw [hxc]; exact h5, fun tbc => ?_, h8⟩
   simp only [encPT]
   rw [hxc]
   refine ⟨arr, ha, by rw [hv.1, h6], fun j z hj => ?_⟩
   have hjl : j < l.length := by rw [← h6]; exact (List.getElem?_eq_some_iff.1 hj).1
   obtain ⟨u', g1, g2, _⟩ := hv.2 j _ (List.getElem?_eq_getElem hjl)
   have := h7 j z hj tbc
   rw [Nat.zero_add, g1] at this
   exact ⟨u', g1, g2, this⟩
 | fn g caps => cases v with
  | agg l => exact hp.elim
  | tup l => exact hp.elim
  | one y => cases y with
   | fn g' ids =>
    simp only [decPT] at hp ⊢
    simp only [idsPT] at hi
    obtain ⟨hg, hp⟩ := bif_bad.1 hp
    have hg' := (beq_iff _ _).1 hg
    subst hg'
    simp only [hg, cond_true]
    obtain ⟨x, h1, h2, h3, h4, h5, h6, h7⟩ := decCTL_ok h hr caps ids f n bs hp hi hk fun k hkk => hrd k (List.mem_append.2 (.inr hkk))
    refine ⟨x, h1, h2, h3, h4, fun tbc => ?_, h7⟩
    have hv : RepA w E st.tb u (.fn g' ids) := hv
    obtain ⟨arr, q3, q4, q5⟩ := hv
    show RepA w E1 tbc u (.fn g' (encCTL n caps x).1)
    refine ⟨arr, q3, by rw [h5]; exact q4, fun i m hm => ?_⟩
    have hil : i < ids.length := by rw [← h5]; exact (List.getElem?_eq_some_iff.1 hm).1
    have hid : ids[i]? = some ids[i] := List.getElem?_eq_getElem hil
    obtain ⟨⟨fl, vs, hb⟩, m', r1, r2⟩ := h6 i _ hid
    rw [hm] at r1
    injection r1 with r1
    subst r1
    obtain ⟨u', s1, s2, s3⟩ := q5 i _ hid
    refine ⟨u', s1, s2, fun f' vs' _ => ?_⟩
    rw [r2]
    exact s3 fl vs hb
   | _ => exact hp.elim
theorem decPTL_ok (h : Sat W0 E0 nl N st E a w) (hr : ∀ tbc, Rd w E st.tb E1 tbc rd) : ∀ (l : List PT) (vs : List AV) (us : List Value) (f : PTL l → SR) (n : Nat) (bs : List Nat), us.length = vs.length → (∀ (i : Nat) (v : AV), vs[i]? = some v → ∃ u, us[i]? = some u ∧ RepV w E st.tb u v) → (decPTL st.tb l vs f).pre → idsPTL st.tb l vs = some bs → Lk E E1 n bs → (∀ k ∈ rowsP l vs ++ rowsB st.tb bs, k ∈ rd) →
  ∃ x, (f x).pre ∧ (∀ e, (f x).outs e → (decPTL st.tb l vs f).outs e) ∧ Has w E1 n (n + bs.length) (encPTL n l x).2.1 ∧ (encPTL n l x).2.2 = n + bs.length ∧ (encPTL n l x).1.length = us.length ∧ (∀ (i : Nat) (v : AV), (encPTL n l x).1[i]? = some v → ∃ u, us[i]? = some u ∧ ∀ tbc, RepV w E1 tbc u v) ∧ ∀ i ∈ bs, (lk st.tb i).isSome = true := by
 intro l
 induction l with
 | nil =>
  intro vs us f n bs hlen _ hp hi _ _
  cases vs with
  | nil =>
   simp only [idsPTL, Option.some.injEq] at hi
   subst hi
   exact ⟨(), hp, (fun e he => he), (fun p hp => by cases hp), rfl, by simpa [encPTL] using hlen.symm, (fun i v hv => by simp [encPTL] at hv), (fun i hi => by cases hi)⟩
  | cons => exact hp.elim
 | cons p l ih =>
  intro vs us f n bs hlen hus hp hi hk hrd
  cases vs with
  | nil => exact hp.elim
  | cons v vs =>
   cases us with
   | nil => simp at hlen
   | cons u us =>
    simp only [idsPTL, Option.bind_eq_some_iff, Option.map_eq_some_iff] at hi
    obtain ⟨b1, hb1, b2, hb2, rfl⟩ := hi
    simp only [decPTL] at hp ⊢
    have hv : RepV w E st.tb u v := by
     obtain ⟨u', h1, h2⟩ := hus 0 v rfl
     simp only [List.getElem?_cons_zero, Option.some.injEq] at h1
     subst h1; exact h2
    have hsub : ∀ k ∈ rowsP l vs, k ∈ rowsP (p :: l) (v :: vs) := fun k hk => by
     cases p <;> simp [rowsP, hk]
    have hsub1 : ∀ k ∈ rowsP [p] [v], k ∈ rowsP (p :: l) (v :: vs) := fun k hk => by
     cases p <;> simp [rowsP] at hk ⊢
     exact .inl hk
    obtain ⟨x, h1, h2, h3, h4, h5, h6⟩ := decPT_ok h hr p v hv _ n b1 hp hb1 hk.left (fun k hkk => hrd k (by
     rw [rowsB_app]
     rcases List.mem_append.1 hkk with hkk | hkk
     ·exact List.mem_append.2 (.inl (hsub1 k hkk))
     ·exact List.mem_append.2 (.inr (List.mem_append.2 (.inl hkk)))))
    obtain ⟨y, g1, g2, g3, g4, g5, g6, g7⟩ := ih vs us (fun y => f (x, y)) (n + b1.length) b2 (by simpa using hlen) (fun i v hv => by simpa using hus (i + 1) v (by simpa using hv)) h1 hb2 hk.right (fun k hkk => hrd k (by
     rw [rowsB_app]
     rcases List.mem_append.1 hkk with hkk | hkk
     ·exact List.mem_append.2 (.inl (hsub k hkk))
     ·exact List.mem_append.2 (.inr (List.mem_append.2 (.inr hkk)))))
    have e1 : (encPTL n (p :: l) (x, y)) = ((encPT n p x).1 :: (encPTL (encPT n p x).2.2 l y).1, (encPT n p x).2.1 ++ (encPTL (encPT n p x).2.2 l y).2.1, (encPTL (encPT n p x).2.2 l y).2.2) := rfl
    rw [h4] at e1
    refine ⟨(x, y), g1, fun e he => h2 e (g2 e he), ?_, ?_, ?_, fun i v' hv' => ?_, fun i hi => ?_⟩
    ·rw [e1]
     have g3' : Has w E1 (n + b1.length) (n + (b1 ++ b2).length) (encPTL (n + b1.length) l y).2.1 := by simpa [Nat.add_assoc] using g3
     exact h3.append g3' (by omega) (by simp)
    ·rw [e1]
     show (encPTL (n + b1.length) l y).2.2 = _
     rw [g4]; simp; omega
    ·rw [e1]; simp [g5]
    ·rw [e1] at hv'
     cases i with
     | zero =>
      simp only [List.getElem?_cons_zero, Option.some.injEq] at hv'
      subst hv'
      exact ⟨u, rfl, h5⟩
     | succ i => simpa using g6 i v' (by simpa using hv')
    ·rcases List.mem_append.1 hi with hi | hi
     ·exact h6 i hi
     ·exact g7 i hi
end
end Go.Proofs.YtpgglbnagphgoaaGreat
/- A call: what comes back. -/
namespace Go.Proofs.YtpgglbnagphgoaaGreat
open Go.RowKit
open SR (opt)

structure Ent (w : World) (E : Env) (nl : Nat) (vals : List Value) (vs : List AV) (tb : Tb) : Prop where
 len : vals.length = vs.length
 args : ∀ (i : Nat) (v : AV), vs[i]? = some v → ∃ u, vals[i]? = some u ∧ RepV w E tb u v
 blks : ∀ p ∈ tb, p.1 < nl ∧ BlkOk w w E tb p.1 p.2
 disj : ∀ id id' b, id < nl → id' < nl → E.bs id b → E.bs id' b → id = id'
 mine : ∀ id b, id < nl → E.bs id b → b < w.heap.size
 ro : ∀ b, (w.heap.size ≤ b ∨ ∃ i, i < nl ∧ E.bs i b) → E.ro b
 small : nl ≤ 20
def Back (w : World) (E : Env) (nl : Nat) (tb0 : Tb) (v : Value) (e : Eff) (w' : World) : Prop :=
 ∃ E' tb1, wrL tb0 e.wr = some tb1 ∧ Sat w E nl 1 ⟨[(0, e.val)], insL tb1 e.ins, 100⟩ E' ⟨#[v], []⟩ w'
def ConOK (P : Program) (f : FuncId) (C : Con) : Prop :=
 (∃ fn, P.funcs[f]? = some fn ∧ (fn.name == "runtime.NumGoroutine") = false ∧ fn.body.isNone = false) ∧
 ∀ (x : PTL C.ps), (C.out x).pre → ∀ (w : World) (E : Env) (vals : List Value), Ent w E (encPTL 0 C.ps x).2.2 vals (encPTL 0 C.ps x).1 (encPTL 0 C.ps x).2.1 →
  Calls P f vals.toArray w fun ex w' => ∃ v e, ex = .returned v ∧ (C.out x).outs e ∧ Back w E (encPTL 0 C.ps x).2.2 (encPTL 0 C.ps x).2.1 v e w'

section
variable {P : Program} {Γ : Cfg} {W0 w w' : World} {E0 E E' E1 E2 : Env} {nl N base : Nat} {st : ASt} {a : Act} {o : Oper} {tb T tb2 : Tb} {bs : List Nat}

theorem mergeL_ok : ∀ {l m r : List A1}, mergeL l m = some r → l.length = m.length ∧ r.length = l.length ∧ ∀ (i : Nat) (x y : A1), l[i]? = some x → m[i]? = some y → r[i]? = some (bif num1 y then y else x) := by
 intro l
 induction l with
 | nil => intro m r h; cases m with
  | nil => simp only [mergeL, Option.some.injEq] at h; subst h; exact ⟨rfl, rfl, fun i x y hx => by simp at hx⟩
  | cons => cases h
 | cons a l ih =>
  intro m r h
  cases m with
  | nil => cases h
  | cons c m =>
   simp only [mergeL, Option.map_eq_some_iff] at h
   obtain ⟨r', h1, rfl⟩ := h
   obtain ⟨g1, g2, g3⟩ := ih h1
   refine ⟨by simp [g1], by simp [g2], fun i x y hx hy => ?_⟩
   cases i with
   | zero =>
    simp only [List.getElem?_cons_zero, Option.some.injEq] at hx hy
    subst hx hy
    rfl
   | succ i => simpa using g3 i x y (by simpa using hx) (by simpa using hy)
def LentRel (tb T : Tb) (j i : Nat) (b : Blk) : Prop :=
 (∃ f vs cs vs', lk tb j = some (.box f vs) ∧ lk T i = some (.box true cs) ∧ mergeL vs cs = some vs' ∧ b = .box f vs') ∨
 (∃ e0 t l0 d0 e l d, lk tb j = some (.row e0 t l0 d0) ∧ lk T i = some (.row e t l d) ∧ b = .row e t l d)
theorem lentT_ok : ∀ {bs : List Nat} {i0 : Nat} {m : Tb}, lentT tb T bs i0 = some m → (∀ j b, lk m j = some b → ∃ i, bs[i]? = some j ∧ LentRel tb T j (i0 + i) b) ∧ (∀ j ∈ bs, (lk m j).isSome = true) ∧ ∀ (i j : Nat), bs[i]? = some j → (lk T (i0 + i)).isSome = true := by
 intro bs
 induction bs with
 | nil => intro i0 m h; simp only [lentT, Option.some.injEq] at h; subst h; exact ⟨(fun j b h => by cases h), (fun j h => by cases h), fun i j h => by simp at h⟩
 | cons id l ih =>
  intro i0 m h
  simp only [lentT, Option.bind_eq_some_iff] at h
  obtain ⟨m', h1, h⟩ := h
  obtain ⟨g1, g2, g3⟩ := ih h1
  have key : ∃ b0, m = (id, b0) :: m' ∧ LentRel tb T id i0 b0 ∧ (lk T i0).isSome = true := by
   split at h
   ·rename_i f vs cs hl hT
    simp only [Option.map_eq_some_iff] at h
    obtain ⟨vs', hm, rfl⟩ := h
    exact ⟨_, rfl, .inl ⟨f, vs, cs, vs', hl, hT, hm, rfl⟩, by rw [hT]; rfl⟩
   ·rename_i e0 t0 l0 d0 e t l d hl hT
    split at h
    ·rename_i ht
     subst ht
     injection h with h
     exact ⟨_, h.symm, .inr ⟨e0, t, l0, d0, e, l, d, hl, hT, rfl⟩, by rw [hT]; rfl⟩
    ·cases h
   ·cases h
  obtain ⟨b0, rfl, hr, hT⟩ := key
  refine ⟨fun j b hj => ?_, fun j hj => ?_, fun i j hij => ?_⟩
  ·rw [lk_cons] at hj
   split at hj
   ·rename_i e1
    subst e1
    injection hj with hj
    subst hj
    exact ⟨0, rfl, hr⟩
   ·obtain ⟨i, k1, k2⟩ := g1 j b hj
    exact ⟨i + 1, by simpa using k1, by rwa [show i0 + (i + 1) = i0 + 1 + i from by omega]⟩
  ·rw [lk_cons]
   split
   ·rfl
   ·rename_i e1
    rcases List.mem_cons.1 hj with rfl | hj
    ·exact absurd rfl e1
    ·exact g2 j hj
  ·cases i with
   | zero => exact hT
   | succ i => have := g3 i j (by simpa using hij); rwa [show i0 + 1 + i = i0 + (i + 1) from by omega] at this
theorem newT_ok {base : Nat} : ∀ {T : Tb} {j : Nat} {b : Blk}, lk (newT bs base T) j = some b → ∃ i b0, (100 ≤ i ∧ i < 108) ∧ j = base + 2 * (i - 100) ∧ lk T i = some b0 ∧ b = mapB bs base b0 := by
 intro T
 induction T with
 | nil => intro j b h; cases h
 | cons p T ih =>
  obtain ⟨i, b1⟩ := p
  intro j b h
  simp only [newT] at h
  by_cases hin : 100 ≤ i ∧ i < 108
  ·have h1 : Nat.blt i 100 = false := by
    cases hh : Nat.blt i 100 with
    | false => rfl
    | true => have : i < 100 := Nat.le_of_ble_eq_true hh; omega
   have h2 : Nat.blt i 108 = true := Nat.ble_eq_true_of_le hin.2
   rw [h1, h2] at h
   simp only [Bool.not_true, Bool.or_self, cond_false] at h
   rw [lk_cons] at h
   split at h
   ·rename_i e1
    injection h with h
    exact ⟨i, b1, hin, e1, by rw [lk_cons, if_pos rfl], h.symm⟩
   ·rename_i e1
    obtain ⟨i', b0, h1, h2, h3, h4⟩ := ih h
    exact ⟨i', b0, h1, h2, by rw [lk_cons, if_neg (fun e2 => e1 (by rw [h2, e2]))]; exact h3, h4⟩
  ·have hs : (Nat.blt i 100 || !Nat.blt i 108) = true := by
    by_cases h1 : i < 100
    ·have : Nat.blt i 100 = true := Nat.ble_eq_true_of_le h1
     rw [this]; rfl
    ·have : Nat.blt i 108 = false := by
      cases hh : Nat.blt i 108 with
      | false => rfl
      | true => have : i < 108 := Nat.le_of_ble_eq_true hh; omega
     rw [this]; simp
   rw [hs] at h
   simp only [cond_true] at h
   obtain ⟨i', b0, h1, h2, h3, h4⟩ := ih h
   exact ⟨i', b0, h1, h2, by rw [lk_cons, if_neg (by omega)]; exact h3, h4⟩
theorem outR_ok {n i : Nat} (h : outR n i = true) : ¬ (n ≤ i ∧ i < n + 16) := by
 simp only [outR, Bool.or_eq_true] at h
 rcases h with h | h
 ·have : i < n := Nat.le_of_ble_eq_true h
  omega
 ·have := Nat.le_of_ble_eq_true h
  omega
theorem bel1_ok {n : Nat} {x : A1} (h : bel1 n x = true) {id : Nat} (hm : men1 id x = true) : ¬ (n ≤ id ∧ id < n + 16) := by
 have key : ∀ {i : Nat}, outR n i = true → Nat.beq i id = true → ¬ (n ≤ id ∧ id < n + 16) := fun {i} h1 h2 => by
  have := (beq_iff _ _).1 h2
  subst this
  exact outR_ok h1
 cases x with
 | ref i off => exact key h hm
 | ptr i p k off => exact key h hm
 | sl i p => exact key h hm
 | sub i lo m => exact key h hm
 | fn f caps =>
  have := (List.all_eq_true.1 h) id ((mem?_iff _ _).1 hm)
  exact outR_ok this
 | _ => cases hm
theorem belF_ok {n : Nat} {fr : Fr} (h : belF n fr = true) {i : Nat} {v : AV} (hi : lk fr i = some v) : belV n v = true := by
 induction fr with
 | nil => cases hi
 | cons p fr ih =>
  obtain ⟨j, u⟩ := p
  simp only [belF, Bool.and_eq_true] at h
  rw [lk_cons] at hi
  split at hi
  ·injection hi with hi; subst hi; exact h.1
  ·exact ih h.2 hi
theorem belB_ok {n : Nat} {tb : Tb} (h : belB n tb = true) {i : Nat} {b : Blk} (hi : lk tb i = some b) : ¬ (n ≤ i ∧ i < n + 16) ∧ ∀ f vs, b = .box f vs → vs.all (bel1 n) = true := by
 induction tb with
 | nil => cases hi
 | cons p tb ih =>
  obtain ⟨j, u⟩ := p
  simp only [belB, Bool.and_eq_true] at h
  rw [lk_cons] at hi
  split at hi
  ·rename_i e1
   injection hi with hi
   subst hi e1
   refine ⟨outR_ok h.1.1, fun f vs e2 => ?_⟩
   subst e2
   exact h.1.2
  ·exact ih h.2 hi

def Link (T tb2 : Tb) (E' E2 : Env) (μ : Nat → Nat) : Prop := ∀ i b, lk tb2 (μ i) = some b → E2.hd (μ i) = E'.hd i ∧ E2.hv (μ i) = E'.hv i ∧
 ((∃ f vs, b = .box f vs ∧ ∃ f' vs', lk T i = some (.box f' vs')) ∨ ∃ e t l d, b = .row e t l d ∧ lk T i = some (.row e t l d))
theorem refOk_map (hl : Link T tb2 E' E2 (mapId bs base)) {v : Value} {i off : Nat} (h : refOk E' T v i off) : refOk E2 tb2 v (mapId bs base i) off := fun f vs hb => by
 obtain ⟨h1, _, ⟨_, _, _, f', vs', h3⟩ | ⟨_, _, _, _, h2, _⟩⟩ := hl i _ hb
 ·rw [h1]; exact h f' vs' h3
 ·cases h2
theorem row_map (hl : Link T tb2 E' E2 (mapId bs base)) {i : Nat} {e : Option TypeId} {t : Ty} {l : List t.den} {d : Bool} (hb : lk tb2 (mapId bs base i) = some (.row e t l d)) : E2.hv (mapId bs base i) = E'.hv i ∧ lk T i = some (.row e t l d) := by
 obtain ⟨_, h1, ⟨_, _, h2, _⟩ | ⟨_, _, _, _, h2, h3⟩⟩ := hl i _ hb
 ·cases h2
 ·rw [h2]; exact ⟨h1, h3⟩
theorem repA_map (hl : Link T tb2 E' E2 (mapId bs base)) {v : Value} {x : A1} (hfz : ro1 x = true → ∀ b, Fz w' E' T b → Fz w' E2 tb2 b) (h : RepA w' E' T v x) : RepA w' E2 tb2 v (map1 bs base x) := by
 cases x with
 | c y =>
  obtain ⟨ty, y⟩ := y
  have h : RepC w' (Fz w' E' T) v ⟨ty, y⟩ := h
  show RepC w' (Fz w' E2 tb2) v ⟨ty, y⟩
  cases ty with
  | list t => exact h.mono (fun b hb _ => ⟨hfz rfl b hb, rfl⟩) (Nat.le_refl _)
  | _ => exact h.scalar (fun _ _ h => by cases h)
 | lit b => exact h
 | nil => exact h
 | val u => exact h
 | ref i off => exact ⟨h.1, refOk_map hl h.2⟩
 | roe t l k off =>
  obtain ⟨b, o, g, h1, h2, h3, h4⟩ := h
  exact ⟨b, o, g, h1, hfz rfl b h2, h3, fun i x j u hx hu => ⟨(h4 i x j u hx hu).1, (h4 i x j u hx hu).2.mono (fun b hb _ => ⟨hfz rfl b hb, rfl⟩) (Nat.le_refl _)⟩⟩
 | ptr i p k off =>
  refine ⟨h.1, fun e t l d hb => ?_⟩
  obtain ⟨h1, h2⟩ := row_map hl hb
  rw [h1]
  exact h.2 e t l d h2
 | sl i p =>
  refine ⟨h.1, fun e t l d hb => ?_⟩
  obtain ⟨h1, h2⟩ := row_map hl hb
  rw [h1]
  exact h.2 e t l d h2
 | sub i lo n =>
  refine ⟨h.1, fun e t l d hb => ?_⟩
  obtain ⟨h1, h2⟩ := row_map hl hb
  rw [h1]
  exact h.2 e t l d h2
 | fn f caps =>
  obtain ⟨arr, h1, h2, h3⟩ := h
  refine ⟨arr, h1, by simp [h2], fun i id hi => ?_⟩
  simp only [List.getElem?_map, Option.map_eq_some_iff] at hi
  obtain ⟨j, hj, rfl⟩ := hi
  obtain ⟨u, g1, g2, g3⟩ := h3 i j hj
  exact ⟨u, g1, g2, refOk_map hl g3⟩
theorem roL_mem {l : List A1} {x : A1} (hx : x ∈ l) (h : ro1 x = true) : roL l = true := by
 induction l with
 | nil => cases hx
 | cons y l ih =>
  simp only [roL, Bool.or_eq_true]
  cases hx with
  | head => exact .inl h
  | tail _ hx => exact .inr (ih hx)
theorem roT_mem {l : List (Bool × List A1)} {c : Bool × List A1} (hx : c ∈ l) (h : roL c.2 = true) : roT l = true := by
 induction l with
 | nil => cases hx
 | cons y l ih =>
  simp only [roT, Bool.or_eq_true]
  cases hx with
  | head => exact .inl h
  | tail _ hx => exact .inr (ih hx)
theorem repL_map (hl : Link T tb2 E' E2 (mapId bs base)) {arr : Array Value} {l : List A1} (hfz : roL l = true → ∀ b, Fz w' E' T b → Fz w' E2 tb2 b) (h : RepL w' E' T arr l) : RepL w' E2 tb2 arr (l.map (map1 bs base)) := by
 refine ⟨by simp [h.1], fun i x hi => ?_⟩
 simp only [List.getElem?_map, Option.map_eq_some_iff] at hi
 obtain ⟨y, hy, rfl⟩ := hi
 obtain ⟨u, h1, h2, h3⟩ := h.2 i y hy
 exact ⟨u, h1, h2, repA_map hl (fun hr => hfz (roL_mem (List.mem_of_getElem? hy) hr)) h3⟩
theorem repV_map (hl : Link T tb2 E' E2 (mapId bs base)) {v : Value} {x : AV} (hfz : x.ro = true → ∀ b, Fz w' E' T b → Fz w' E2 tb2 b) (h : RepV w' E' T v x) : RepV w' E2 tb2 v (mapV bs base x) := by
 cases x with
 | one y => exact repA_map hl hfz h
 | agg l =>
  obtain ⟨arr, h1, h2⟩ := h
  exact ⟨arr, h1, repL_map hl hfz h2⟩
 | tup l =>
  obtain ⟨arr, h1, h2, h3⟩ := h
  refine ⟨arr, h1, by simp [h2], fun i c hi => ?_⟩
  simp only [List.getElem?_map, Option.map_eq_some_iff] at hi
  obtain ⟨⟨ag, m⟩, hy, rfl⟩ := hi
  obtain ⟨u, g1, g2⟩ := h3 i _ hy
  have hfz' : roL m = true → ∀ b, Fz w' E' T b → Fz w' E2 tb2 b := fun hr => hfz (roT_mem (List.mem_of_getElem? hy) hr)
  refine ⟨u, g1, ?_⟩
  cases ag with
  | true =>
   obtain ⟨arr', k1, k2⟩ := g2
   exact ⟨arr', k1, repL_map hl hfz' k2⟩
  | false =>
   obtain ⟨y, k1, k2⟩ := g2
   have k1 : m = [y] := k1
   subst k1
   exact ⟨_, rfl, repA_map hl (fun hr => hfz' (roL_mem (by simp) hr)) k2⟩
theorem RowOk.toF {F F' B B' : Nat → Prop} {e : Option TypeId} {v : Value} {t : Ty} {l : List t.den} {d : Bool} (h : RowOk w F B e v t l d) (hF : d = true ∨ flat t = true ∨ ∀ b, F b → F' b) (hB : ∀ b, B b → B' b) : RowOk w F' B' e v t l d := by
 rcases hF with rfl | hf | hF
 ·rcases h with h | ⟨b, c, e0, cur, g, S, hv, hB', hh, he, hs, hc, hm, hg, hS, hd, hr⟩
  ·exact .inl h
  ·exact .inr ⟨b, c, e0, cur, g, S, hv, hB b hB', hh, he, hs, hc, hm, hg, fun i j d hd => ⟨hB d (hS i j d hd).1, (hS i j d hd).2⟩, hd, fun i x j u hx hu => by simpa using hr i x j u hx hu⟩
 ·rcases row_cells h with ⟨rfl, rfl⟩ | ⟨b, c, e0, cur, rfl, hb, hh, he, hs, hc, hm, hcell⟩
  ·exact .inl ⟨rfl, rfl⟩
  ·exact row_flat hf (hB b hb) hh he hs hc hm hcell
 ·exact h.mono (fun b hb _ => ⟨hF b hb, rfl⟩) (fun b hb => ⟨hB b hb, rfl⟩) (Nat.le_refl _)
theorem lk_insL {tb : Tb} : ∀ {ins : Tb} {i : Nat} {b : Blk}, lk (insL tb ins) i = some b → (i, b) ∈ ins ∨ lk tb i = some b := by
 intro ins
 induction ins with
 | nil => intro i b h; exact .inr h
 | cons p ins ih =>
  obtain ⟨j, c⟩ := p
  intro i b h
  simp only [insL] at h
  rw [lk_cons] at h
  split at h
  ·rename_i e1
   injection h with h
   subst h e1
   exact .inl (by simp)
  ·rename_i e1
   rw [lk_erl, if_neg (by simpa using e1)] at h
   rcases ih h with h | h
   ·exact .inl (by simp [h])
   ·exact .inr h
theorem lk_wrL {tb : Tb} : ∀ {wr : List (Nat × Nat × A1)} {tb1 : Tb}, wrL tb wr = some tb1 → ∀ i b, lk tb1 i = some b → (lk tb i = some b) ∨ (∃ f vs f' vs', b = .box f vs ∧ lk tb i = some (.box f' vs')) := by
 intro wr
 induction wr with
 | nil => intro tb1 h i b hb; simp only [wrL, Option.some.injEq] at h; subst h; exact .inl hb
 | cons p wr ih =>
  obtain ⟨j, off, x⟩ := p
  intro tb1 h i b hb
  simp only [wrL, Option.bind_eq_some_iff] at h
  obtain ⟨tb0, h0, h⟩ := h
  split at h
  ·rename_i f vs hl
   cases hn : num1 x with
   | false => rw [hn] at h; cases h
   | true =>
    rw [hn] at h
    simp only [cond_true, Option.map_eq_some_iff] at h
    obtain ⟨vs', hov, rfl⟩ := h
    rw [lk_cons] at hb
    split at hb
    ·rename_i e1
     subst e1
     injection hb with hb
     subst hb
     rcases ih h0 i _ hl with h2 | ⟨f2, vs2, f3, vs3, h2, h3⟩
     ·exact .inr ⟨_, _, _, _, rfl, h2⟩
     ·exact .inr ⟨_, _, _, _, rfl, h3⟩
    ·rename_i e1
     rw [lk_erl, if_neg (by simpa using e1)] at hb
     exact ih h0 i b hb
  ·cases h
theorem lk_mem {α : Type} {l : List (Nat × α)} {i : Nat} {a : α} (h : lk l i = some a) : (i, a) ∈ l := by
 induction l with
 | nil => cases h
 | cons p l ih =>
  obtain ⟨j, b⟩ := p
  rw [lk_cons] at h
  split at h
  ·rename_i e; injection h with h; subst h e; simp
  ·simp [ih h]
def deepB (tb : Tb) : Prop := ∀ p ∈ tb, ∀ e t l d, p.2 = .row e t l d → d = true
theorem deep_TyL : ∀ (l : List Ty) (n : Nat) (x : TyL l), deepB (encTyL n l x) := by
 intro l
 induction l with
 | nil => intro n x p hp; cases hp
 | cons t l ih =>
  intro n x p hp e t' l' d h
  simp only [encTyL, List.mem_cons] at hp
  rcases hp with rfl | hp
  ·cases h
  ·exact ih _ _ p hp e t' l' d h
theorem deep_CT (c : CT) (n : Nat) (x : c.den) : deepB (encCT n c x).1 := by
 cases c with
 | ty t => intro p hp e t' l' d h; simp only [encCT, List.mem_singleton] at hp; subst hp; cases h
 | fn g caps =>
  intro p hp e t' l' d h
  simp only [encCT, List.mem_cons] at hp
  rcases hp with rfl | hp
  ·cases h
  ·exact deep_TyL _ _ _ p hp e t' l' d h
theorem deep_CTL : ∀ (l : List CT) (n : Nat) (x : CTL l), deepB (encCTL n l x).2.1 := by
 intro l
 induction l with
 | nil => intro n x p hp; cases hp
 | cons c l ih =>
  intro n x p hp e t' l' d h
  rcases List.mem_append.1 (show p ∈ (encCT n c x.1).1 ++ (encCTL (encCT n c x.1).2 l x.2).2.1 from hp) with hp | hp
  ·exact deep_CT _ _ _ p hp e t' l' d h
  ·exact ih _ _ p hp e t' l' d h
theorem deep_O : ∀ (cs : List Cell) (n : Nat), deepB (encO n cs).2.1 := by
 intro cs
 induction cs with
 | nil => intro n p hp; cases hp
 | cons c cs ih =>
  intro n p hp e t' l' d h
  obtain ⟨tc, xc⟩ := c
  cases tc with
  | list t =>
   rcases List.mem_cons.1 (show p ∈ (n, Blk.row none t xc true) :: (encO (n + 1) cs).2.1 from hp) with rfl | hp
   ·injection h with h1 h2 h3 h4
    exact h4.symm
   ·exact ih _ p hp e t' l' d h
  | _ => exact ih _ p hp e t' l' d h
theorem deep_PTL : ∀ (l : List PT) (n : Nat) (x : PTL l), deepB (encPTL n l x).2.1 := by
 intro l
 induction l with
 | nil => intro n x p hp; cases hp
 | cons c l ih =>
  intro n x p hp e t' l' d h
  rcases List.mem_append.1 (show p ∈ (encPT n c x.1).2.1 ++ (encPTL (encPT n c x.1).2.2 l x.2).2.1 from hp) with hp | hp
  ·cases c with
   | ro t => cases hp
   | box c => exact deep_CT _ _ _ p hp e t' l' d h
   | row e0 t =>
    simp only [encPT, List.mem_singleton] at hp
    subst hp
    injection h with h1 h2 h3 h4
    exact h4.symm
   | own s => exact deep_O _ _ p hp e t' l' d h
   | fn g caps => exact deep_CTL _ _ _ p hp e t' l' d h
  ·exact ih _ _ p hp e t' l' d h
theorem roB_ok {ins : Tb} (h : roB ins = false) : (∀ i f vs, (i, Blk.box f vs) ∈ ins → roL vs = false) ∧ ∀ i e t l d, (i, Blk.row e t l d) ∈ ins → d = true ∨ flat t = true := by
 induction ins with
 | nil => exact ⟨(fun i f vs h => by cases h), (fun i e t l d h => by cases h)⟩
 | cons p ins ih =>
  obtain ⟨j, b⟩ := p
  cases b with
  | box g us =>
   simp only [roB, Bool.or_eq_false_iff] at h
   obtain ⟨h1, h2⟩ := ih h.2
   refine ⟨fun i f vs hm => ?_, fun i e t l d hm => ?_⟩
   ·rcases List.mem_cons.1 hm with hm | hm
    ·cases hm; exact h.1
    ·exact h1 i f vs hm
   ·rcases List.mem_cons.1 hm with hm | hm
    ·cases hm
    ·exact h2 i e t l d hm
  | row e0 t0 l0 d0 =>
   simp only [roB, Bool.or_eq_false_iff] at h
   obtain ⟨h1, h2⟩ := ih h.2
   refine ⟨fun i f vs hm => ?_, fun i e t l d hm => ?_⟩
   ·rcases List.mem_cons.1 hm with hm | hm
    ·cases hm
    ·exact h1 i f vs hm
   ·rcases List.mem_cons.1 hm with hm | hm
    ·cases hm
     have := h.1
     cases d0 <;> cases hf : flat t0 <;> simp_all
    ·exact h2 i e t l d hm
end
end Go.Proofs.YtpgglbnagphgoaaGreat
/- A call. -/
namespace Go.Proofs.YtpgglbnagphgoaaGreat
open Go.RowKit
open SR (opt)

theorem onE_pre (r : SR) (g : Eff → SR) : (r.onE g).pre ↔ r.pre ∧ ∀ e, r.outs e → (g e).pre := by
 induction r with
 | ret e => simp [SR.onE, SR.pre, SR.outs]
 | req p r ih => simp [SR.onE, SR.pre, SR.outs, ih, and_assoc]
 | all α f ih =>
  simp only [SR.onE, SR.pre, SR.outs, ih]
  exact ⟨fun h => ⟨fun x => (h x).1, fun e ⟨x, hx⟩ => (h x).2 e hx⟩, fun h x => ⟨h.1 x, fun e he => h.2 e ⟨x, he⟩⟩⟩
 | giv p r ih =>
  simp only [SR.onE, SR.pre, SR.outs, ih]
  exact ⟨fun h => ⟨fun hp => (h hp).1, fun e ⟨hp, he⟩ => (h hp).2 e he⟩, fun h hp => ⟨h.1 hp, fun e he => h.2 e ⟨hp, he⟩⟩⟩
 | fork b r s ih1 ih2 => cases b <;> simp [SR.onE, SR.pre, SR.outs, ih1, ih2]
 | bad => simp [SR.onE, SR.pre]
theorem onE_outs (r : SR) (g : Eff → SR) (e' : Eff) : (r.onE g).outs e' ↔ ∃ e, r.outs e ∧ (g e).outs e' := by
 induction r with
 | ret e => simp [SR.onE, SR.outs]
 | req p r ih => simp [SR.onE, SR.outs, ih]
 | all α f ih =>
  simp only [SR.onE, SR.outs, ih]
  exact ⟨fun ⟨x, e, h1, h2⟩ => ⟨e, ⟨x, h1⟩, h2⟩, fun ⟨e, ⟨x, h1⟩, h2⟩ => ⟨x, e, h1, h2⟩⟩
 | giv p r ih =>
  simp only [SR.onE, SR.outs, ih]
  exact ⟨fun ⟨hp, e, h1, h2⟩ => ⟨e, ⟨hp, h1⟩, h2⟩, fun ⟨e, ⟨hp, h1⟩, h2⟩ => ⟨hp, e, h1, h2⟩⟩
 | fork b r s ih1 ih2 => cases b <;> simp [SR.onE, SR.outs, ih1, ih2]
 | bad => simp [SR.onE, SR.outs]

theorem idxOf_get {l : List Nat} (h : nodup? l = true) {i x : Nat} (hi : l[i]? = some x) : l.idxOf x = i := by
 induction l generalizing i with
 | nil => simp at hi
 | cons y l ih =>
  simp only [nodup?, Bool.and_eq_true, Bool.not_eq_true'] at h
  cases i with
  | zero =>
   simp only [List.getElem?_cons_zero, Option.some.injEq] at hi
   subst hi
   simp
  | succ i =>
   have hi : l[i]? = some x := by simpa using hi
   have hne : y ≠ x := fun e => by
    subst e
    rw [(mem?_iff _ _).2 (List.mem_of_getElem? hi)] at h
    cases h.1
   have hb : (y == x) = false := by simpa using hne
   simp [List.idxOf_cons, hb, ih h.2 hi]
theorem nodup_get {l : List Nat} (h : nodup? l = true) {i j x : Nat} (hi : l[i]? = some x) (hj : l[j]? = some x) : i = j := by rw [← idxOf_get h hi, idxOf_get h hj]

section
variable {P : Program} {Γ : Cfg} {W0 w w' : World} {E0 E E' E1 E2 : Env} {nl N base : Nat} {st : ASt} {a : Act} {o : Oper} {tb T tb2 : Tb} {bs : List Nat}

theorem killOf_ok {l : List Nat} {id : Nat} : id ∈ killOf tb l ↔ id ∈ l ∧ ∃ e t x d, lk tb id = some (.row e t x d) := by
 induction l with
 | nil => simp [killOf]
 | cons y l ih =>
  simp only [killOf]
  split
  ·rename_i e t x d hl
   simp only [List.mem_cons, ih]
   constructor
   ·rintro (rfl | ⟨h1, h2⟩)
    ·exact ⟨.inl rfl, e, t, x, d, hl⟩
    ·exact ⟨.inr h1, h2⟩
   ·rintro ⟨rfl | h1, h2⟩
    ·exact .inl rfl
    ·exact .inr ⟨h1, h2⟩
  ·rename_i hno
   rw [ih]
   constructor
   ·rintro ⟨h1, h2⟩; exact ⟨List.mem_cons.2 (.inr h1), h2⟩
   ·rintro ⟨h1, e, t, x, d, h2⟩
    rcases List.mem_cons.1 h1 with rfl | h1
    ·exact absurd h2 (hno e t x d)
    ·exact ⟨h1, e, t, x, d, h2⟩
theorem killF_ok {kill : List Nat} {fr : Fr} {i : Nat} {v : AV} (h : lk (killF kill fr) i = some v) : lk fr i = some v ∧ (kill = [] ∨ v.thru kill = false) := by
 cases kill with
 | nil => exact ⟨h, .inl rfl⟩
 | cons k ks => obtain ⟨h1, h2⟩ := lk_dropT h; exact ⟨h2, .inr h1⟩

def Env.call (E : Env) (w : World) (tb : Tb) (bs rd : List Nat) : Env := {
 hd := fun i => E.hd (bs.getD i 0)
 hv := fun i => E.hv (bs.getD i 0)
 bs := fun i b => ∃ id, bs[i]? = some id ∧ E.bs id b
 ro := fun b => w.heap.size ≤ b ∨ Fz w E tb b ∨ ∃ k, (k ∈ rd ∨ k ∈ bs) ∧ (lk tb k).isSome = true ∧ E.bs k b }
def Env.back (E E' : Env) (bs : List Nat) (base : Nat) : Env := {
 hd := fun j => if base ≤ j ∧ j < base + 16 then E'.hd (100 + (j - base) / 2) else E.hd j
 hv := fun j => if base ≤ j ∧ j < base + 16 then E'.hv (100 + (j - base) / 2) else E.hv j
 bs := fun j b => if base ≤ j ∧ j < base + 16 then E'.bs (100 + (j - base) / 2) b else if j ∈ bs then E'.bs (bs.idxOf j) b else E.bs j b
 ro := E.ro }

theorem good1_bel {n : Nat} {ids : List Nat} {x : A1} (hb : bel1 n x = true) (hx : ids = [] ∨ thru1 ids x = false) (hk : ∀ id X, ¬ (n ≤ id ∧ id < n + 16) → (id ∈ ids → ¬ X) → KeepId w E tb w' E' tb2 id X) : Good1 w E tb w' E' tb2 x := fun id hm => hk id _ (bel1_ok hb hm) fun hi ht => by
 rcases hx with rfl | hx
 ·cases hi
 ·have : thru1 ids x = true := by
   cases x with
   | sl j p => cases p with
    | nil => cases ht
    | cons q p => simp only [thru1] at ht ⊢; exact (mem?_iff _ _).2 (by have := (mem?_iff _ _).1 ht; simp at this; subst this; exact hi)
   | ptr j p k off => cases p with
    | nil => cases ht
    | cons q p => simp only [thru1] at ht ⊢; exact (mem?_iff _ _).2 (by have := (mem?_iff _ _).1 ht; simp at this; subst this; exact hi)
   | _ => cases ht
  rw [hx] at this
  cases this
theorem goodL_bel {n : Nat} {ids : List Nat} {l : List A1} (hb : l.all (bel1 n) = true) (hx : ids = [] ∨ thruL ids l = false) (hk : ∀ id X, ¬ (n ≤ id ∧ id < n + 16) → (id ∈ ids → ¬ X) → KeepId w E tb w' E' tb2 id X) : GoodL w E tb w' E' tb2 l :=
 fun x hm => good1_bel ((List.all_eq_true.1 hb) x hm) (hx.imp_right fun hx => thruL_ok hx x hm) hk
theorem goodV_bel {n : Nat} {ids : List Nat} {v : AV} (hb : belV n v = true) (hx : ids = [] ∨ v.thru ids = false) (hk : ∀ id X, ¬ (n ≤ id ∧ id < n + 16) → (id ∈ ids → ¬ X) → KeepId w E tb w' E' tb2 id X) : GoodV w E tb w' E' tb2 v := by
 cases v with
 | one x => exact good1_bel hb hx hk
 | agg l => exact goodL_bel hb hx hk
 | tup l => exact fun c hc => goodL_bel ((List.all_eq_true.1 hb) c hc) (hx.imp_right fun hx => thruT_ok hx c hc) hk
theorem row_len {F F' B B' : Nat → Prop} {e e' : Option TypeId} {v : Value} {t : Ty} {l l' : List t.den} {d d' : Bool} (h : RowOk w F B e v t l d) (h' : RowOk w' F' B' e' v t l' d') : l'.length = l.length := by
 rcases h with ⟨h1, rfl⟩ | ⟨b, c, _, _, _, _, h1, _⟩ <;> rcases h' with ⟨h2, rfl⟩ | ⟨b', c', _, _, _, _, h2, _⟩
 ·rfl
 ·rw [h1] at h2; cases h2
 ·rw [h1] at h2; cases h2
 ·rw [h1] at h2
  injection h2 with _ h3
  exact h3.symm
theorem num_ro {x : A1} (h : num1 x = true) : ro1 x = false ∧ map1 bs base x = x := by
 cases x with
 | c y => obtain ⟨ty, y⟩ := y; cases ty <;> first | exact ⟨rfl, rfl⟩ | cases h
 | lit b => exact ⟨rfl, rfl⟩
 | _ => cases h

theorem call_back (h : Sat W0 E0 nl N st E a w) {dst : Option Nat} (hd : ∀ d, dst = some d → d < N) {rd : List Nat} {v : Value} {e : Eff} {tb0 tb1 m : Tb}
  (hbel : st.bel base = true) (hnd : nodup? bs = true) (hb20 : bs.length ≤ 20) (hbs : ∀ i ∈ bs, (lk st.tb i).isSome = true) (hrdb : ∀ k ∈ rd, k ∉ bs) (hbox : boxT (killOf st.tb bs) st.tb = false)
  (htb0 : ∀ p ∈ tb0, p.1 < bs.length) (hdeep : deepB tb0) (hw : wrL tb0 e.wr = some tb1) (hm : lentT st.tb (insL tb1 e.ins) bs 0 = some m)
  (hS : Sat w (E.call w st.tb bs rd) bs.length 1 ⟨[(0, e.val)], insL tb1 e.ins, 100⟩ E' ⟨#[v], []⟩ w') :
  Sat W0 E0 nl N (Eff.app st dst { val := mapV bs base e.val, ins := m ++ newT bs base (insL tb1 e.ins), del := (bif e.val.ro || roB e.ins then rd else []), kill := killOf st.tb bs }) (E.back E' bs base) (a.put dst v) w' := by
 generalize hT : insL tb1 e.ins = T at hm hS
 generalize hdel : (bif e.val.ro || roB e.ins then rd else []) = del
 have hdelrd : ∀ k ∈ del, k ∈ rd := fun k hk => by
  rw [← hdel] at hk
  cases hq : e.val.ro || roB e.ins with
  | true => rw [hq] at hk; exact hk
  | false => rw [hq] at hk; cases hk
 simp only [ASt.bel, Bool.and_eq_true] at hbel
 obtain ⟨⟨hb0, hbF⟩, hbB⟩ := hbel
 have hb20' : 20 ≤ base := Nat.le_of_ble_eq_true hb0
 have hlt : ∀ j, (lk st.tb j).isSome = true → ¬ (base ≤ j ∧ j < base + 16) := fun j hj => by
  obtain ⟨b, hb⟩ := Option.isSome_iff_exists.1 hj
  exact (belB_ok hbB hb).1
 have hbslt : ∀ j ∈ bs, ¬ (base ≤ j ∧ j < base + 16) := fun j hj => hlt j (hbs j hj)
 obtain ⟨m1, m2, m3⟩ := lentT_ok hm
 have m3 : ∀ (i j : Nat), bs[i]? = some j → (lk T i).isSome = true := fun i j hij => by simpa using m3 i j hij
 let tb2 : Tb := m ++ newT bs base T ++ erl del st.tb
 let E2 := E.back E' bs base
 -- the new table's parts
 have hmnone : ∀ j, j ∉ bs → lk m j = none := fun j hj => by
  cases hh : lk m j with
  | none => rfl
  | some b =>
   obtain ⟨i, h1, _⟩ := m1 j b hh
   exact absurd (List.mem_of_getElem? h1) hj
 have hnnone : ∀ j, ¬ (base ≤ j ∧ j < base + 16) → lk (newT bs base T) j = none := fun j hj => by
  cases hh : lk (newT bs base T) j with
  | none => rfl
  | some b =>
   obtain ⟨i, b0, h1, h2, _⟩ := newT_ok hh
   omega
 have hlent : ∀ i j b, bs[i]? = some j → lk tb2 j = some b → LentRel st.tb T j i b := fun i j b hij hb => by
  have hj := List.mem_of_getElem? hij
  obtain ⟨b', hb'⟩ := Option.isSome_iff_exists.1 (m2 j hj)
  have : lk tb2 j = some b' := by
   show lk ((m ++ newT bs base T) ++ erl del st.tb) j = _
   rw [lk_append, lk_append, hb']; rfl
  rw [this] at hb
  injection hb with hb
  subst hb
  obtain ⟨i', h1, h2⟩ := m1 j b' hb'
  have := nodup_get hnd hij h1
  subst this
  simpa using h2
 have hnew : ∀ j b, (base ≤ j ∧ j < base + 16) → lk tb2 j = some b → ∃ i b0, (100 ≤ i ∧ i < 108) ∧ j = base + 2 * (i - 100) ∧ lk T i = some b0 ∧ b = mapB bs base b0 := fun j b hj hb => by
  have h1 : lk m j = none := hmnone j fun hh => hbslt j hh hj
  have h2 : lk st.tb j = none := by
   cases hh : lk st.tb j with
   | none => rfl
   | some b => exact absurd hj (hlt j (by rw [hh]; rfl))
  have : lk tb2 j = lk (newT bs base T) j := by
   show lk ((m ++ newT bs base T) ++ erl del st.tb) j = _
   rw [lk_append, lk_append, h1, lk_erl, h2]
   simp
  rw [this] at hb
  exact newT_ok hb
 have hold : ∀ j, ¬ (base ≤ j ∧ j < base + 16) → j ∉ bs → lk tb2 j = if j ∈ del then none else lk st.tb j := fun j hj hn => by
  show lk ((m ++ newT bs base T) ++ erl del st.tb) j = _
  rw [lk_append, lk_append, hmnone j hn, hnnone j hj, lk_erl]
  rfl
 have hgetD : ∀ {i j : Nat}, bs[i]? = some j → bs.getD i 0 = j := fun {i j} hij => by simp [List.getD, hij]
 have hilt : ∀ {i j : Nat}, bs[i]? = some j → i < bs.length := fun {i j} hij => (List.getElem?_eq_some_iff.1 hij).1
 -- places
 have hback : ∀ i j, bs[i]? = some j → E2.hd j = E'.hd i ∧ E2.hv j = E'.hv i ∧ E2.bs j = E'.bs i ∧ E2.hd j = E.hd j ∧ E2.hv j = E.hv j := fun i j hij => by
  have hjb := List.mem_of_getElem? hij
  have hj := hbslt j hjb
  have hjn : ¬ (base ≤ j ∧ j < base + 16) := by omega
  obtain ⟨g1, g2, _⟩ := hS.lent i (by have := hilt hij; omega) (m3 i j hij)
  have g1 : E'.hd i = E.hd (bs.getD i 0) := g1
  have g2 : E'.hv i = E.hv (bs.getD i 0) := g2
  rw [hgetD hij] at g1 g2
  refine ⟨by simp only [E2, Env.back, if_neg hjn]; exact g1.symm, by simp only [E2, Env.back, if_neg hjn]; exact g2.symm, ?_, by simp only [E2, Env.back, if_neg hjn], by simp only [E2, Env.back, if_neg hjn]⟩
  funext b
  simp only [E2, Env.back, if_neg hjn, if_pos hjb, idxOf_get hnd hij]
 have hfwd : ∀ i, (100 ≤ i ∧ i < 108) → E2.hd (base + 2 * (i - 100)) = E'.hd i ∧ E2.hv (base + 2 * (i - 100)) = E'.hv i ∧ E2.bs (base + 2 * (i - 100)) = E'.bs i := fun i hi => by
  have e1 : 100 + (base + 2 * (i - 100) - base) / 2 = i := by omega
  have hle : base ≤ base + 2 * (i - 100) ∧ base + 2 * (i - 100) < base + 16 := by omega
  refine ⟨by simp only [E2, Env.back, if_pos hle, e1], by simp only [E2, Env.back, if_pos hle, e1], ?_⟩
  funext b
  simp only [E2, Env.back, if_pos hle, e1]
 have hkept : ∀ j, ¬ (base ≤ j ∧ j < base + 16) → j ∉ bs → E2.hd j = E.hd j ∧ E2.hv j = E.hv j ∧ E2.bs j = E.bs j := fun j hj hn => by
  have hjn : ¬ (base ≤ j ∧ j < base + 16) := by omega
  refine ⟨by simp only [E2, Env.back, if_neg hjn], by simp only [E2, Env.back, if_neg hjn], ?_⟩
  funext b
  simp only [E2, Env.back, if_neg hjn, if_neg hn]
 -- the two sides' names
 have hlink : Link T tb2 E' E2 (mapId bs base) := fun i b hb => by
  by_cases hi : i < 100
  ·have hblt : Nat.blt i 100 = true := Nat.ble_eq_true_of_le hi
   cases hn : bs[i]? with
   | some j =>
    have e1 : mapId bs base i = j := by simp [mapId, hblt, nth_eq, hn]
    rw [e1] at hb ⊢
    obtain ⟨g1, g2, _⟩ := hback i j hn
    refine ⟨g1, g2, ?_⟩
    rcases hlent i j b hn hb with ⟨f, vs, cs, vs', k1, k2, k3, k4⟩ | ⟨e0, t, l0, d0, e, l, d, k1, k2, k3⟩
    ·exact .inl ⟨f, vs', k4, true, cs, k2⟩
    ·exact .inr ⟨e, t, l, d, k3, k2⟩
   | none =>
    have e1 : mapId bs base i = base + 15 := by simp [mapId, hblt, nth_eq, hn]
    rw [e1] at hb
    obtain ⟨i', b0, k1, k2, _⟩ := hnew _ b (by omega) hb
    omega
  ·have hblt : Nat.blt i 100 = false := by
    cases hh : Nat.blt i 100 with
    | false => rfl
    | true => exact absurd (Nat.le_of_ble_eq_true hh) hi
   by_cases hi8 : i < 108
   ·have hblt8 : Nat.blt i 108 = true := Nat.ble_eq_true_of_le hi8
    have e1 : mapId bs base i = base + 2 * (i - 100) := by simp [mapId, hblt, hblt8]
    rw [e1] at hb ⊢
    obtain ⟨i', b0, k1, k2, k3, k4⟩ := hnew _ b (by omega) hb
    have : i' = i := by omega
    subst this
    obtain ⟨g1, g2, _⟩ := hfwd i' k1
    refine ⟨g1, g2, ?_⟩
    cases b0 with
    | box f vs => exact .inl ⟨_, _, k4, f, vs, k3⟩
    | row e t l d => exact .inr ⟨e, t, l, d, k4, k3⟩
   ·have hblt8 : Nat.blt i 108 = false := by
     cases hh : Nat.blt i 108 with
     | false => rfl
     | true => exact absurd (Nat.le_of_ble_eq_true hh) hi8
    have e1 : mapId bs base i = base + 15 := by simp [mapId, hblt, hblt8]
    rw [e1] at hb
    obtain ⟨i', b0, k1, k2, _⟩ := hnew _ b (by omega) hb
    omega
 -- blocks of the caller that the callee held
 have hE1 : ∀ i b, (E.call w st.tb bs rd).bs i b ↔ ∃ id, bs[i]? = some id ∧ E.bs id b := fun i b => Iff.rfl
 have hfz : (e.val.ro || roB e.ins) = true → ∀ b, Fz w' E' T b → Fz w' E2 tb2 b := fun hro b hb => by
  rw [hro] at hdel
  have hdel : rd = del := hdel
  have hb2 : (E.call w st.tb bs rd).ro b := by rw [← hS.roE]; exact hb.2.1
  refine ⟨hb.1, ?_, fun id hid hbi => ?_⟩
  ·show E.ro b
   rcases hb2 with hb2 | hb2 | ⟨k, _, k2, k3⟩
   ·exact h.ro b (.inl (Nat.le_trans h.big hb2))
   ·exact hb2.2.1
   ·exact h.rok k2 k3
  ·by_cases hge : base ≤ id ∧ id < base + 16
   ·obtain ⟨b', hb'⟩ := Option.isSome_iff_exists.1 hid
    obtain ⟨i, b0, k1, k2, k3, k4⟩ := hnew id b' hge hb'
    subst k2
    rw [(hfwd i k1).2.2] at hbi
    exact hb.2.2 i (by show (lk T i).isSome = true; rw [k3]; rfl) hbi
   ·by_cases hin : id ∈ bs
    ·obtain ⟨i, hi⟩ := List.getElem?_of_mem hin
     rw [(hback i id hi).2.2.1] at hbi
     exact hb.2.2 i (m3 i id hi) hbi
    ·have hids : lk tb2 id = if id ∈ del then none else lk st.tb id := hold id (by omega) hin
     rw [hids] at hid
     by_cases hidd : id ∈ del
     ·rw [if_pos hidd] at hid; cases hid
     ·rw [if_neg hidd] at hid
      rw [(hkept id (by omega) hin).2.2] at hbi
      have hbw := (h.mine id b hid hbi).1
      rcases hb2 with hb2 | hb2 | ⟨k, k1, k2, k3⟩
      ·omega
      ·exact hb2.2.2 id hid hbi
      ·have := h.disj id k b hid k2 hbi k3
       subst this
       rcases k1 with k1 | k1
       ·exact hidd (hdel ▸ k1)
       ·exact hin k1
 -- what has turned
 have hch : Chg st E w ⟨putF dst (mapV bs base e.val) (killF (killOf st.tb bs) st.fr), tb2, st.nx⟩ E2 w' (fun j => j ∈ bs ∨ (base ≤ j ∧ j < base + 16) ∨ j ∈ del) := by
  refine ⟨fun j hj => ?_, fun b hb hn => ?_, hS.big, fun j b hj hs hb => ?_, fun j j' b hj hj' hs hs' hb hb' => ?_, rfl, hS.os, hS.tape, hS.output⟩
  ·have h1 : j ∉ bs := fun hh => hj (.inl hh)
   have h2 : ¬ (base ≤ j ∧ j < base + 16) := fun hh => hj (.inr (.inl hh))
   have h3 : j ∉ del := fun hh => hj (.inr (.inr hh))
   refine ⟨?_, hkept j h2 h1⟩
   show lk tb2 j = _
   rw [hold j h2 h1, if_neg h3]
  ·exact hS.frame b hb fun i hi ⟨id, hid, hbi⟩ => hn id (.inl (List.mem_of_getElem? hid)) (hbs id (List.mem_of_getElem? hid)) hbi
  ·have hcal : ∀ i, (lk T i).isSome = true → E'.bs i b → b < w'.heap.size ∧ ((∃ c, (c ∈ bs ∨ (base ≤ c ∧ c < base + 16) ∨ c ∈ del) ∧ (lk st.tb c).isSome = true ∧ E.bs c b) ∨ w.heap.size ≤ b) := fun i hi hbi => by
    obtain ⟨g1, g2⟩ := hS.mine i b hi hbi
    refine ⟨g1, ?_⟩
    rcases Nat.lt_or_ge b w.heap.size with hlt | hge
    ·obtain ⟨i', _, id, hid, hbid⟩ := g2 hlt
     exact .inl ⟨id, .inl (List.mem_of_getElem? hid), hbs id (List.mem_of_getElem? hid), hbid⟩
    ·exact .inr hge
   obtain ⟨b', hb'⟩ := Option.isSome_iff_exists.1 hs
   by_cases hge : base ≤ j ∧ j < base + 16
   ·obtain ⟨i, b0, k1, k2, k3, k4⟩ := hnew j b' hge hb'
    subst k2
    rw [(hfwd i k1).2.2] at hb
    exact hcal i (by rw [k3]; rfl) hb
   ·by_cases hin : j ∈ bs
    ·obtain ⟨i, hi⟩ := List.getElem?_of_mem hin
     rw [(hback i j hi).2.2.1] at hb
     exact hcal i (m3 i j hi) hb
    ·have hdj : j ∈ del := by rcases hj with hj | hj | hj; exact absurd hj hin; exact absurd hj hge; exact hj
     have hs : (lk tb2 j).isSome = true := hs
     rw [hold j (by omega) hin, if_pos hdj] at hs
     cases hs
  ·have hcal : ∀ j, (j ∈ bs ∨ (base ≤ j ∧ j < base + 16) ∨ j ∈ del) → (lk tb2 j).isSome = true → ∃ i, (lk T i).isSome = true ∧ E2.bs j = E'.bs i ∧ ((i < 100 ∧ bs[i]? = some j) ∨ ((100 ≤ i ∧ i < 108) ∧ j = base + 2 * (i - 100))) := fun j hj hs => by
    obtain ⟨b', hb'⟩ := Option.isSome_iff_exists.1 hs
    by_cases hge : base ≤ j ∧ j < base + 16
    ·obtain ⟨i, b0, k1, k2, k3, k4⟩ := hnew j b' hge hb'
     exact ⟨i, by rw [k3]; rfl, by rw [k2]; exact (hfwd i k1).2.2, .inr ⟨k1, k2⟩⟩
    ·by_cases hin : j ∈ bs
     ·obtain ⟨i, hi⟩ := List.getElem?_of_mem hin
      exact ⟨i, m3 i j hi, (hback i j hi).2.2.1, .inl ⟨by have := hilt hi; omega, hi⟩⟩
     ·have hdj : j ∈ del := by rcases hj with hj | hj | hj; exact absurd hj hin; exact absurd hj hge; exact hj
      rw [hold j (by omega) hin, if_pos hdj] at hs
      cases hs
   obtain ⟨i, k1, k2, k3⟩ := hcal j hj hs
   obtain ⟨i', k1', k2', k3'⟩ := hcal j' hj' hs'
   rw [k2] at hb
   rw [k2'] at hb'
   have := hS.disj i i' b k1 k1' hb hb'
   subst this
   rcases k3 with ⟨c1, c2⟩ | ⟨c1, c2⟩ <;> rcases k3' with ⟨c3, c4⟩ | ⟨c3, c4⟩
   ·rw [c2] at c4; injection c4
   ·omega
   ·omega
   ·rw [c2, c4]
 have hflag : ∀ i b, lk T i = some b → (∀ f vs, b = .box f vs → 100 ≤ i → roL vs = true → (e.val.ro || roB e.ins) = true) ∧ ∀ e0 t l d, b = .row e0 t l d → d = true ∨ flat t = true ∨ (e.val.ro || roB e.ins) = true := fun i b hb => by
  rw [← hT] at hb
  cases hro : roB e.ins with
  | true => exact ⟨fun _ _ _ _ _ => by simp, fun _ _ _ _ _ => .inr (.inr (by simp))⟩
  | false =>
   obtain ⟨r1, r2⟩ := roB_ok hro
   rcases lk_insL hb with hb | hb
   ·refine ⟨fun f vs e1 _ hr => ?_, fun e0 t l d e1 => ?_⟩
    ·subst e1; rw [r1 i f vs hb] at hr; cases hr
    ·subst e1; rcases r2 i e0 t l d hb with hh | hh
     ·exact .inl hh
     ·exact .inr (.inl hh)
   ·rcases lk_wrL hw i b hb with hb | ⟨f, vs, f', vs', rfl, hb2⟩
    ·refine ⟨fun f vs e1 hi _ => ?_, fun e0 t l d e1 => .inl (hdeep _ (lk_mem hb) e0 t l d e1)⟩
     have := htb0 _ (lk_mem hb)
     simp only at this
     omega
    ·refine ⟨fun f2 vs2 e1 hi _ => ?_, fun e0 t l d e1 => by cases e1⟩
     have := htb0 _ (lk_mem hb2)
     simp only at this
     omega
 have hk : ∀ id X, ¬ (base ≤ id ∧ id < base + 16) → (id ∈ killOf st.tb bs → ¬ X) → KeepId w E st.tb w' E2 tb2 id X := fun id X hlt' hX => by
  by_cases hin : id ∈ bs
  ·obtain ⟨i, hi⟩ := List.getElem?_of_mem hin
   obtain ⟨_, g2, _, g4, g5⟩ := hback i id hi
   refine ⟨fun f vs hb => ?_, fun e' t l d hb => ?_⟩
   ·rcases hlent i id _ hi hb with ⟨f0, vs0, cs, vs', k1, _⟩ | ⟨_, _, _, _, _, _, _, _, _, k3⟩
    ·exact ⟨⟨f0, vs0, k1⟩, g4⟩
    ·cases k3
   ·rcases hlent i id _ hi hb with ⟨_, _, _, _, _, _, _, k4⟩ | ⟨e0, t0, l0, d0, e2, l2, d2, k1, k2, k3⟩
    ·cases k4
    ·cases k3
     have r1 : RowOk _ _ _ _ _ _ _ _ := h.blks id _ k1
     have r2 : RowOk _ _ _ _ _ _ _ _ := hS.blks i _ k2
     rw [← g2, g5] at r2
     refine ⟨e0, l0, d0, k1, g5, row_len r1 r2, fun hx => absurd hx (hX (killOf_ok.2 ⟨hin, e0, t, l0, d0, k1⟩))⟩
  ·by_cases hdl : id ∈ del
   ·have hn : lk tb2 id = none := by rw [hold id hlt' hin, if_pos hdl]
    exact ⟨fun f vs hl => by (rw [hn] at hl; cases hl), fun e t l d hl => by (rw [hn] at hl; cases hl)⟩
   ·exact hch.keep h (fun hc => by rcases hc with hc | hc | hc; exact hin hc; exact hlt' hc; exact hdl hc) X
 have hslot : RepV w' E2 tb2 v (mapV bs base e.val) := by
  obtain ⟨u, k1, k2⟩ := hS.slots 0 e.val rfl
  have : u = v := by simpa using k1.symm
  subst this
  exact repV_map hlink (fun hr => hfz (by rw [hr]; rfl)) k2
 have hbL : ∀ id f vs, lk st.tb id = some (.box f vs) → GoodL w E st.tb w' E2 tb2 vs := fun id f vs hl =>
  goodL_bel ((belB_ok hbB hl).2 f vs rfl) (.inr (boxT_ok hbox id f vs hl)) hk
 have hgood : ∀ (i : Nat) (y : AV), lk (killF (killOf st.tb bs) st.fr) i = some y → lk st.fr i = some y ∧ GoodV w E st.tb w' E2 tb2 y := fun i y hy => by
  obtain ⟨h1, h2⟩ := killF_ok hy
  exact ⟨h1, goodV_bel (belF_ok hbF h1) h2 hk⟩
 have e1 : Eff.app st dst { val := mapV bs base e.val, ins := m ++ newT bs base T, del := del, kill := killOf st.tb bs } = ⟨putF dst (mapV bs base e.val) (killF (killOf st.tb bs) st.fr), tb2, st.nx⟩ := rfl
 rw [e1]
 refine h.chg hch (fun j y hy => ?_) (fun j g vs _ hl' => hbL j g vs hl') (fun j b hj hl' => ?_) (fun j hj hc hs => ?_) ?_ ?_
 ·cases dst with
  | none => exact .inl ⟨(hgood j y hy).1, rfl, (hgood j y hy).2⟩
  | some d =>
   have hy2 : lk ((d, mapV bs base e.val) :: (killF (killOf st.tb bs) st.fr)) j = some y := hy
   rw [lk_cons] at hy2
   by_cases e1 : j = d
   ·rw [if_pos e1] at hy2
    cases hy2
    subst e1
    exact .inr ⟨v, by simp [Act.put, h.size, hd _ rfl], hslot⟩
   ·rw [if_neg e1] at hy2
    exact .inl ⟨(hgood j y hy2).1, by simp only [Act.put]; rw [Array.getElem?_setIfInBounds_ne (fun e' => e1 e'.symm)], (hgood j y hy2).2⟩
 ·have hl' : lk tb2 j = some b := hl'
  by_cases hge : base ≤ j ∧ j < base + 16
  ·obtain ⟨i, b0, k1, k2, k3, k4⟩ := hnew j b hge hl'
   subst k2
   obtain ⟨f1, f2, f3⟩ := hfwd i k1
   have hb0 := hS.blks i b0 k3
   cases b0 with
   | box f vs =>
    subst k4
    obtain ⟨cur, TT, g1, g2, g3, _⟩ := hb0
    exact ⟨cur, TT, by rw [f1]; exact g1, by rw [f3, f1]; exact g2, repL_map hlink (fun hr => hfz ((hflag i _ k3).1 f vs rfl k1.1 hr)) g3, fun hh => by cases hh⟩
   | row e0 t l d =>
    subst k4
    show RowOk w' _ (E2.bs _) e0 (E2.hv _) t l d
    rw [f2, f3]
    have hb0 : RowOk _ _ _ _ _ _ _ _ := hb0
    refine hb0.toF ?_ fun b hb => hb
    rcases (hflag i _ k3).2 e0 t l d rfl with hh | hh | hh
    ·exact .inl hh
    ·exact .inr (.inl hh)
    ·exact .inr (.inr (hfz hh))
  ·by_cases hin : j ∈ bs
   ·obtain ⟨i, hi⟩ := List.getElem?_of_mem hin
    obtain ⟨g1, g2, g3, g4, g5⟩ := hback i j hi
    rcases hlent i j b hi hl' with ⟨f, vs, cs, vs', k1, k2, k3, k4⟩ | ⟨e0, t, l0, d0, e2, l2, d2, k1, k2, k3⟩
    ·subst k4
     obtain ⟨cur, TT, p1, p2, p3, p4⟩ := (h.blks j _ k1 : BlkOk _ _ _ _ _ (.box f vs))
     obtain ⟨cur', TT', q1, q2, q3, q4⟩ := (hS.blks i _ k2 : BlkOk _ _ _ _ _ (.box true cs))
     obtain ⟨q5, q6⟩ := q4 rfl
     obtain ⟨m4, m5, m6⟩ := mergeL_ok k3
     have hcell : ∀ (q : Nat) (y : A1), cs[q]? = some y → num1 y = false → cur'[q]? = cur[q]? := fun q y hq hn => by
      have := q6 q y hq hn
      rw [cell_of_row w' _ _ cur' TT' (0, 0) q1] at this
      rw [this]
      rw [← g1, g4]
      exact cell_of_row w _ _ cur TT (0, 0) p1
     refine ⟨cur', TT', by rw [g1]; exact q1, by rw [g3, g1]; exact q2, ⟨by rw [q3.1, m5, m4], fun q z hq => ?_⟩, fun hf => ?_⟩
     ·have hql : q < vs.length := by rw [← m5]; exact (List.getElem?_eq_some_iff.1 hq).1
      have hx := List.getElem?_eq_getElem hql
      have hy := List.getElem?_eq_getElem (show q < cs.length by omega)
      have := m6 q _ _ hx hy
      rw [hq] at this
      injection this with this
      subst this
      cases hn : num1 cs[q] with
      | true =>
       simp only [cond_true]
       obtain ⟨u, s1, s2, s3⟩ := q3.2 q _ hy
       refine ⟨u, s1, s2, ?_⟩
       have := repA_map hlink (fun hr => by rw [(num_ro (bs := bs) (base := base) hn).1] at hr; cases hr) s3
       rwa [(num_ro hn).2] at this
      | false =>
       simp only [cond_false]
       obtain ⟨u, s1, s2, s3⟩ := p3.2 q _ hx
       exact ⟨u, by rw [hcell q _ hy hn]; exact s1, s2, s3.keep hch.fz hch.size (hbL j f vs k1 _ (List.mem_of_getElem? hx))⟩
     ·obtain ⟨p5, p6⟩ := p4 hf
      refine ⟨by rw [g4]; exact p5, fun q z hq hnz => ?_⟩
      have hql : q < vs.length := by rw [← m5]; exact (List.getElem?_eq_some_iff.1 hq).1
      have hx := List.getElem?_eq_getElem hql
      have hy := List.getElem?_eq_getElem (show q < cs.length by omega)
      have := m6 q _ _ hx hy
      rw [hq] at this
      injection this with this
      subst this
      cases hn : num1 cs[q] with
      | true => rw [hn] at hnz; simp only [cond_true] at hnz; rw [hn] at hnz; cases hnz
      | false =>
       rw [hn] at hnz
       simp only [cond_false] at hnz
       rw [g4, ← p6 q _ hx hnz]
       have := q6 q _ hy hn
       rw [← g1, g4] at this
       exact this
    ·subst k3
     show RowOk w' _ (E2.bs _) e2 (E2.hv _) t l2 d2
     rw [g2, g3]
     have hb0 : RowOk _ _ _ _ _ _ _ _ := hS.blks i _ k2
     refine hb0.toF ?_ fun b hb => hb
     rcases (hflag i _ k2).2 e2 t l2 d2 rfl with hh | hh | hh
     ·exact .inl hh
     ·exact .inr (.inl hh)
     ·exact .inr (.inr (hfz hh))
   ·have hdj : j ∈ del := by rcases hj with hj | hj | hj; exact absurd hj hin; exact absurd hj hge; exact hj
    rw [hold j (by omega) hin, if_pos hdj] at hl'
    cases hl'
 ·have hjb : ¬ (base ≤ j ∧ j < base + 16) := by omega
  by_cases hin : j ∈ bs
  ·obtain ⟨i, hi⟩ := List.getElem?_of_mem hin
   obtain ⟨_, _, g3, g4, g5⟩ := hback i j hi
   obtain ⟨l1, l2, l3⟩ := h.lent j hj (hbs j hin)
   refine ⟨by rw [g4, l1], by rw [g5, l2], fun b hb hlt' => ?_⟩
   rw [g3] at hb
   obtain ⟨_, _, s3⟩ := hS.lent i (by have := hilt hi; omega) (m3 i j hi)
   obtain ⟨id, hid, hbid⟩ := s3 b hb (Nat.lt_of_lt_of_le hlt' h.big)
   rw [hi] at hid
   injection hid with hid
   subst hid
   exact l3 b hbid hlt'
  ·have hdj : j ∈ del := by rcases hc with hc | hc | hc; exact absurd hc hin; exact absurd hc hjb; exact hc
   have hs : (lk tb2 j).isSome = true := hs
   rw [hold j hjb hin, if_pos hdj] at hs
   cases hs
 ·cases dst <;> exact h.defers
 ·cases dst <;> simp [Act.put, h.size]
end
end Go.Proofs.YtpgglbnagphgoaaGreat
/- A call: the operation. -/
namespace Go.Proofs.YtpgglbnagphgoaaGreat
open Go.RowKit
open SR (opt)

section
variable {P : Program} {Γ : Cfg} {W0 w w' : World} {E0 E E' E1 E2 : Env} {nl N base : Nat} {st : ASt} {a : Act} {o : Oper} {tb T tb2 : Tb} {bs : List Nat}

theorem call_core2 (h : Sat W0 E0 nl N st E a w) (hd : ∀ d, o.dst = some d → d < N) {f : FuncId} {args : List AV} {us : List Value} (hlen : us.length = args.length) (hus : ∀ (i : Nat) (v : AV), args[i]? = some v → ∃ u, us[i]? = some u ∧ RepV w E st.tb u v)
  (hΓ : ∀ f C, Γ.con f = some C → ConOK P f C) (hp : (callSR Γ base st f args).pre) {R : Act → World → Prop} (hR : ∀ e E' bs v w', (callSR Γ base st f args).outs e → Sat W0 E0 nl N (e.app st o.dst) (E.back E' bs base) (a.put o.dst v) w' → R (a.put o.dst v) w')
  (hrun : (∃ fn, P.funcs[f]? = some fn ∧ (fn.name == "runtime.NumGoroutine") = false ∧ fn.body.isNone = false) → (execOp a.eval o).run P w = .ok (.enter f us.toArray) w) (Q : Exit → Act → World → Prop) : o.wp P a w R Q := by
 unfold callSR at hp hR
 cases hC : Γ.con f with
 | none => rw [hC] at hp; exact hp.elim
 | some C =>
  simp only [hC] at hp hR
  obtain ⟨hbel, hp⟩ := bif_bad.1 hp
  obtain ⟨bs, hbs, hp⟩ := (opt_pre _ _).1 hp
  obtain ⟨hfn, hcon⟩ := hΓ f C hC
  obtain ⟨hck, hp⟩ := bif_bad.1 hp
  have hck' := hck
  simp only [Bool.and_eq_true, Bool.not_eq_true'] at hck
  obtain ⟨⟨⟨⟨hnd, hb20⟩, hrdb⟩, hbox⟩, hall⟩ := hck
  have hall : ∀ i ∈ bs, (lk st.tb i).isSome = true := fun i hi => (List.all_eq_true.1 hall) i hi
  have hb20 := Nat.le_of_ble_eq_true hb20
  have hrdb : ∀ k ∈ rowsP C.ps args ++ rowsB st.tb bs, k ∉ bs := fun k hk hkb => by
   have := (List.all_eq_true.1 hrdb) k hk
   rw [(mem?_iff _ _).2 hkb] at this
   cases this
  generalize hrd : rowsP C.ps args ++ rowsB st.tb bs = rd at hrdb
  -- the callee's names
  have hget : ∀ {j id : Nat}, bs[j]? = some id → bs.getD j 0 = id := fun {j id} hj => by simp [List.getD, hj]
  have hlk : Lk E (E.call w st.tb bs rd) 0 bs := fun j id hj => by
   rw [Nat.zero_add]
   refine ⟨by show E.hd (bs.getD j 0) = _; rw [hget hj], by show E.hv (bs.getD j 0) = _; rw [hget hj], ?_⟩
   funext b
   show (∃ id, bs[j]? = some id ∧ E.bs id b) = _
   rw [hj]
   simp
  have hRd : ∀ tbc, Rd w E st.tb (E.call w st.tb bs rd) tbc rd := by
   intro tbc
   refine ⟨fun b hb => ⟨hb.1, .inr (.inl hb), fun i _ ⟨id, k1, k2⟩ => hb.2.2 id (hall id (List.mem_of_getElem? k1)) k2⟩, fun k hk hks b hb => ⟨(h.mine k b hks hb).1, .inr (.inr ⟨k, .inl hk, hks, hb⟩), fun i _ ⟨id, k1, k2⟩ => ?_⟩⟩
   have hid := List.mem_of_getElem? k1
   have := h.disj k id b hks (hall id hid) hb k2
   subst this
   exact hrdb k hk hid
  obtain ⟨x, h1, h2, h3, h4, h5, h6, h7⟩ := decPTL_ok (E1 := E.call w st.tb bs rd) h hRd C.ps args us _ 0 bs hlen hus hp hbs hlk (fun k hk => by rw [← hrd]; exact hk)
  obtain ⟨h1a, h1b⟩ := (onE_pre _ _).1 h1
  have hnl : (encPTL 0 C.ps x).2.2 = bs.length := by rw [h4, Nat.zero_add]
  have hent : Ent w (E.call w st.tb bs rd) (encPTL 0 C.ps x).2.2 us (encPTL 0 C.ps x).1 (encPTL 0 C.ps x).2.1 := by
   refine ⟨h5.symm, fun i v hv => let ⟨u, g1, g2⟩ := h6 i v hv; ⟨u, g1, g2 _⟩, fun p hp => let ⟨_, g1, g2⟩ := h3 p hp; ⟨by rw [hnl]; simpa using g1, g2 _⟩, fun i j b _ _ hi hj => ?_, fun i b _ hi => ?_, fun b hb => ?_, by rw [hnl]; exact hb20⟩
   ·obtain ⟨id, k1, k2⟩ := hi
    obtain ⟨id', k3, k4⟩ := hj
    have := h.disj id id' b (h7 id (List.mem_of_getElem? k1)) (h7 id' (List.mem_of_getElem? k3)) k2 k4
    subst this
    exact nodup_get hnd k1 k3
   ·obtain ⟨id, k1, k2⟩ := hi
    exact (h.mine id b (h7 id (List.mem_of_getElem? k1)) k2).1
   ·rcases hb with hb | ⟨i, _, id, k1, k2⟩
    ·exact .inl hb
    ·exact .inr (.inr ⟨id, .inr (List.mem_of_getElem? k1), h7 id (List.mem_of_getElem? k1), k2⟩)
  have hcall := hcon x h1a w (E.call w st.tb bs rd) us hent
  unfold Oper.wp
  rw [hrun hfn]
  refine Calls.mono hcall ?_
  rintro ex w' ⟨v, e, rfl, he, E', tb1, hw, hS⟩
  obtain ⟨tb1', hw', m, hm, _⟩ : ∃ tb1, wrL (encPTL 0 C.ps x).2.1 e.wr = some tb1 ∧ ∃ m, lentT st.tb (insL tb1 e.ins) bs 0 = some m ∧ True := by
   obtain ⟨tb1, g1, g2⟩ := (opt_pre _ _).1 (h1b e he)
   obtain ⟨m, g3, _⟩ := (opt_pre _ _).1 g2
   exact ⟨tb1, g1, m, g3, trivial⟩
  rw [hw] at hw'
  injection hw' with hw'
  subst hw'
  rw [hnl] at hS
  refine hR _ E' bs v w' ?_ (call_back (dst := o.dst) (rd := rd) h hd hbel hnd hb20 h7 hrdb hbox (fun p hp => by simpa using (h3 p hp).2.1) (deep_PTL _ _ _) hw hm hS)
  rw [hbel]
  refine (opt_outs _ _ _).2 ⟨bs, hbs, ?_⟩
  rw [hck']
  refine h2 _ ((onE_outs _ _ _).2 ⟨e, he, (opt_outs _ _ _).2 ⟨tb1, hw, (opt_outs _ _ _).2 ⟨m, hm, ?_⟩⟩⟩)
  rw [hrd]
  exact rfl

theorem call_core (h : Sat W0 E0 nl N st E a w) (hd : ∀ d, o.dst = some d → d < N) {f : FuncId} {args : List AV} {us : List Value} (hlen : us.length = args.length) (hus : ∀ (i : Nat) (v : AV), args[i]? = some v → ∃ u, us[i]? = some u ∧ RepV w E st.tb u v)
  (hΓ : ∀ f C, Γ.con f = some C → ConOK P f C) (hp : (callSR Γ base st f args).pre) {r : SR} (hout : ∀ e, (callSR Γ base st f args).outs e → r.outs e)
  (hrun : (∃ fn, P.funcs[f]? = some fn ∧ (fn.name == "runtime.NumGoroutine") = false ∧ fn.body.isNone = false) → (execOp a.eval o).run P w = .ok (.enter f us.toArray) w) (Q : Exit → Act → World → Prop) : o.wp P a w (After W0 E0 nl N st o r) Q :=
 call_core2 h hd hlen hus hΓ hp (fun e E' bs v w' he hs => ⟨e, _, hout e he, hs⟩) hrun Q

theorem evL_ok (h : Sat W0 E0 nl N st E a w) : ∀ {l : List Operand} {vs : List AV}, evL st l = some vs → l.length = vs.length ∧ ∀ (i : Nat) (v : AV), vs[i]? = some v → ∃ x, l[i]? = some x ∧ RepV w E st.tb (a.eval x) v := by
 intro l
 induction l with
 | nil => intro vs hv; simp only [evL, Option.some.injEq] at hv; subst hv; exact ⟨rfl, fun i v hi => by simp at hi⟩
 | cons x l ih =>
  intro vs hv
  simp only [evL] at hv
  split at hv
  ·rename_i v m h1 h2
   simp only [Option.some.injEq] at hv
   subst hv
   obtain ⟨g1, g2⟩ := ih h2
   refine ⟨by simp [g1], fun i v' hi => ?_⟩
   cases i with
   | zero =>
    simp only [List.getElem?_cons_zero, Option.some.injEq] at hi
    subst hi
    exact ⟨x, rfl, h.ev h1⟩
   | succ i => simpa using g2 i v' (by simpa using hi)
  ·cases hv
theorem run_call {c : Call} (ho : o.op = .call c) {x : Operand} (hc : c.callee = .value x) {f : FuncId} {arr : Array Value} (hx : a.eval x = .func (.func f) #[] arr) (hfn : ∃ fn, P.funcs[f]? = some fn ∧ (fn.name == "runtime.NumGoroutine") = false ∧ fn.body.isNone = false) :
  (execOp a.eval o).run P w = .ok (.enter f (c.args.map a.eval ++ arr)) w := by
 obtain ⟨fn, h1, h2, h3⟩ := hfn
 have h2 : fn.name ≠ "runtime.NumGoroutine" := by simpa using h2
 have h3 : fn.body ≠ none := fun e => by rw [e] at h3; cases h3
 simp [execOp, ho, resolve, hc, hx, Deferred.ofValue, invoke, callFunc, h1, h2, h3]
theorem op_call (h : Sat W0 E0 nl N st E a w) (hd : ∀ d, o.dst = some d → d < N) (hΓ : ∀ f C, Γ.con f = some C → ConOK P f C) {c : Call} (ho : o.op = .call c) {x : Operand} (hc : c.callee = .value x) (hp : (step P Γ base o st).pre) (Q : Exit → Act → World → Prop) : o.wp P a w (After W0 E0 nl N st o (step P Γ base o st)) Q := by
 simp only [step, ho, opt_pre, hc] at hp
 obtain ⟨args, hargs, hp⟩ := hp
 obtain ⟨hl, hev⟩ := evL_ok h hargs
 have hev' : ∀ (i : Nat) (v : AV), args[i]? = some v → ∃ u, (c.args.toList.map a.eval)[i]? = some u ∧ RepV w E st.tb u v := fun i v hi => by
  obtain ⟨y, h1, h2⟩ := hev i v hi
  exact ⟨_, by rw [List.getElem?_map, h1]; rfl, h2⟩
 have fin : ∀ (f : FuncId) (arr : Array Value) (caps : List Nat), a.eval x = .func (.func f) #[] arr → arr.size = caps.length → (∀ (i id : Nat), caps[i]? = some id → ∃ u, arr[i]? = some u ∧ u.oneCell' = true ∧ refOk E st.tb u id 0) →
   (callSR Γ base st f (args ++ caps.map fun i => AV.one (.ref i 0))).pre → (∀ e, (callSR Γ base st f (args ++ caps.map fun i => AV.one (.ref i 0))).outs e → (step P Γ base o st).outs e) → o.wp P a w (After W0 E0 nl N st o (step P Γ base o st)) Q := fun f arr caps hx hsz hcap hp' hout => by
  refine call_core h hd (us := c.args.toList.map a.eval ++ arr.toList) (by simp [hsz, ← hl]) (fun i v hi => ?_) hΓ hp' hout (fun hfn => ?_) Q
  ·by_cases hlt : i < args.length
   ·rw [List.getElem?_append_left hlt] at hi
    obtain ⟨u, h1, h2⟩ := hev' i v hi
    exact ⟨u, by rw [List.getElem?_append_left (by simp; simp at hl; omega)]; exact h1, h2⟩
   ·rw [List.getElem?_append_right (by omega), List.getElem?_map] at hi
    simp only [Option.map_eq_some_iff] at hi
    obtain ⟨id, h1, rfl⟩ := hi
    obtain ⟨u, h2, h3, h4⟩ := hcap _ _ h1
    have hll : (c.args.toList.map a.eval).length = args.length := by simpa using hl
    exact ⟨u, by rw [List.getElem?_append_right (by omega), hll]; simpa using h2, h3, h4⟩
  ·rw [run_call ho hc hx hfn]
   congr 2
   apply Array.ext'
   simp
 cases x with
 | func f =>
  simp only at hp
  refine fin f #[] [] rfl rfl (fun i id hi => by simp at hi) (by simpa using hp) (fun e he => ?_)
  simp only [step, ho, opt, hc, hargs]
  simpa using he
 | tmp t =>
  simp only at hp
  cases hx : st.ev1 (.tmp t) with
  | none => rw [hx] at hp; exact hp.elim
  | some v =>
   rw [hx] at hp
   cases v with
   | fn f caps =>
    obtain ⟨arr, h1, h2, h3⟩ := h.ev1 hx
    refine fin f arr caps h1 h2 h3 hp (fun e he => ?_)
    simp only [step, ho, opt, hc, hargs, hx]
    exact he
   | _ => exact hp.elim
 | const v =>
  simp only at hp
  cases hx : st.ev1 (.const v) with
  | none => rw [hx] at hp; exact hp.elim
  | some v' =>
   rw [hx] at hp
   cases v' with
   | fn f caps =>
    obtain ⟨arr, h1, h2, h3⟩ := h.ev1 hx
    refine fin f arr caps h1 h2 h3 hp (fun e he => ?_)
    simp only [step, ho, opt, hc, hargs, hx]
    exact he
   | _ => exact hp.elim
 | global g =>
  simp only at hp
  cases hx : st.ev1 (.global g) with
  | none => rw [hx] at hp; exact hp.elim
  | some v' => simp [ASt.ev1, ASt.ev] at hx
end
end Go.Proofs.YtpgglbnagphgoaaGreat
