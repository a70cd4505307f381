/- The library's sort of texts and its squeezing, as contracts. -/
import Derived.Test.YtpgglbnagphgoaaGreatSortDQ
import Derived.Test.YtpgglbnagphgoaaGreatLaidQ
import Derived.Test.YtpgglbnagphgoaaGreatVmP4Q
import Derived.Shelf.Sort.Plain
import Derived.Shelf.Slices.In.CompactS
import Derived.Shelf.Slices.In.SortNone
set_option linter.unusedVariables false
set_option linter.unusedSimpArgs false
namespace Go.Proofs.YtpgglbnagphgoaaGreat
open Go Go.RowKit Go.Shelf Go.Sort

theorem row_str {w : World} {F B : Nat → Prop} {v : Value} {l : List ByteArray} (h : RowOk w F B none v .str l true) : (v = .slice none 0 0 ∧ l = []) ∨ ∃ (b c : Nat) (e0 : TypeId) (cur : Array Value), v = .slice (some ⟨b, 0, none⟩) l.length c ∧ B b ∧ w.heap[b]? = some (.cells cur e0 (0, 0)) ∧ cur.size = c ∧ l.length ≤ c ∧ c ≤ 9223372036854775807 ∧ ∀ (i : Nat) (x : ByteArray), l[i]? = some x → cur[i]? = some (Value.string x) ∧ x.size ≤ 9223372036854775807 := by
 rcases h with h | ⟨b, c, e0, cur, g, S, hv, hB, hh, _, hs, hc, hm, hg, _, _, hr⟩
 ·exact .inl h
 ·refine .inr ⟨b, c, e0, cur, hv, hB, hh, by simpa [Ty.wd, Ty.sig] using hs, hc, hm, fun i x hi => ?_⟩
  have h1 := hg i x 0 ⟨.str, x⟩ hi rfl
  have h2 : OwnC w (S i 0) (g i 0) ⟨.str, x⟩ := by simpa using hr i x 0 ⟨.str, x⟩ hi rfl
  have e : i * Ty.str.wd + 0 = i := by simp [Ty.wd, Ty.sig]
  rw [e] at h1
  generalize g i 0 = y at h1 h2
  cases h2 with
  | str h => exact ⟨h1, h⟩
theorem get_put {z : List (List UInt8)} {cur : Array Value} {i : Nat} {x : List UInt8} (h : z[i]? = some x) (hi : z.length ≤ cur.size) : (putCells encStr 0 z.toArray cur)[i]? = some (Value.string (unS x)) := by
 have hl : i < z.length := lt_of_some h
 have e : z.toArray[i]! = x := by
  have : z[i] = x := by simpa [List.getElem?_eq_getElem hl] using h
  simp [hl, this]
 simp only [putCells, Array.getElem?_mapIdx, Array.getElem?_eq_getElem (show i < cur.size by omega), Option.map_some]
 rw [if_pos (by simp; omega), Nat.sub_zero, e]
 rfl
theorem put_row {w' : World} {F B : Nat → Prop} {b c : Nat} {e0 : TypeId} {cur : Array Value} {a : List ByteArray} (hB : B b) (hs : cur.size = c) (hc : a.length ≤ c) (hm : c ≤ 9223372036854775807)
  (hh : w'.heap[b]? = some (.cells (putCells encStr 0 (a.map lsS).toArray cur) e0 (0, 0))) (hz : ∀ x ∈ a, x.size ≤ 9223372036854775807) : RowOk w' F B none (.slice (some ⟨b, 0, none⟩) a.length c) .str a true := by
 refine .inr ⟨b, c, e0, _, fun i _ => Value.string (a.getD i ⟨#[]⟩), fun _ _ _ => False, rfl, hB, hh, (fun _ h => by cases h), by simp [putCells, Ty.wd, Ty.sig, hs], hc, hm, fun i x j u hx hu => ?_, (fun _ _ _ h => h.elim), (fun _ _ _ _ _ h => h.elim), fun i x j u hx hu => ?_⟩
 ·have hj : j = 0 := by
   cases j with
   | zero => rfl
   | succ j => simp [Ty.cells] at hu
  subst hj
  have e : i * Ty.str.wd + 0 = i := by simp [Ty.wd, Ty.sig]
  rw [e, get_put (x := lsS x) (by rw [List.getElem?_map, hx]; rfl) (by simp; omega), unS_lsS]
  simp [List.getD, hx]
 ·have hj : j = 0 := by
   cases j with
   | zero => rfl
   | succ j => simp [Ty.cells] at hu
  subst hj
  simp only [Ty.cells, List.getElem?_cons_zero, Option.some.injEq] at hu
  subst hu
  have e : a.getD i ⟨#[]⟩ = x := by simp [List.getD, hx]
  simp only [e, if_true]
  exact .str (hz x (List.mem_of_getElem? hx))
theorem back_row {w w' : World} {E : Env} {v u : Value} {a a' : List ByteArray} {val : AV} (h : Ent w E 1 [v] [.one (.sl 0 [])] [(0, .row none .str a true)])
  (hs : w.heap.size ≤ w'.heap.size) (hk : ∀ k, k < w.heap.size → ¬ E.bs 0 k → w'.heap[k]? = w.heap[k]?) (h1 : w'.os = w.os) (h2 : w'.tape = w.tape) (h3 : w'.output = w.output)
  (hr : RowOk w' (Fz w' E [(0, .row none .str a' true)]) (E.bs 0) none (E.hv 0) .str a' true) (hu : RepV w' E [(0, .row none .str a' true)] u val) :
  Back w E 1 [(0, .row none .str a true)] u { val := val, ins := [(0, .row none .str a' true)] } w' := by
 refine ⟨E, _, rfl, ?_⟩
 show Sat w E 1 1 ⟨[(0, val)], [(0, .row none .str a' true)], 100⟩ E ⟨#[u], []⟩ w'
 have lk0 : ∀ id, (lk [(0, Blk.row none Ty.str a' true)] id).isSome = true → id = 0 := fun id hid => by
  by_cases e : id = 0
  ·exact e
  ·rw [lk_cons, if_neg e] at hid
   cases hid
 refine { defers := rfl, size := rfl, slots := fun i y hy => ?_, blks := fun id b hb => ?_, disj := fun id id' b hi hi' _ _ => by rw [lk0 id hi, lk0 id' hi'], mine := fun id b hi hb => ?_, lent := fun id _ hi => ⟨rfl, rfl, fun b hb _ => hb⟩, frame := fun b hb hn => hk b hb (hn 0 (by omega)), big := hs, ro := h.ro, roE := rfl, os := h1, tape := h2, output := h3 }
 ·have : i = 0 := by
   by_cases e : i = 0
   ·exact e
   ·rw [lk_cons, if_neg e] at hy
    cases hy
  subst this
  have e : val = y := by simpa [lk_cons] using hy
  subst e
  exact ⟨u, rfl, hu⟩
 ·have := lk0 id (by rw [hb]; rfl)
  subst this
  have e : Blk.row none Ty.str a' true = b := by simpa [lk_cons] using hb
  subst e
  exact hr
 ·have := lk0 id hi
  subst this
  have hlt := h.mine 0 b (by omega) hb
  exact ⟨by omega, fun _ => ⟨0, by omega, hb⟩⟩
theorem ent_row {w : World} {E : Env} {vals : List Value} {a : List ByteArray} (h : Ent w E 1 vals [.one (.sl 0 [])] [(0, .row none .str a true)]) : vals = [E.hv 0] ∧ ∃ F, RowOk w F (E.bs 0) none (E.hv 0) .str a true := by
 obtain ⟨u, hu, hr⟩ := h.args 0 (.one (.sl 0 [])) rfl
 have hl : vals.length = 1 := h.len
 have hr : RepA w E [(0, .row none .str a true)] u (.sl 0 []) := hr
 obtain ⟨t', l', hat⟩ := hr.2 none .str a true rfl
 have e : u = E.hv 0 := hat.nil_inv.1
 refine ⟨?_, _, (h.blks (0, .row none .str a true) (by simp)).2⟩
 match vals, hl, hu with
 | [x], _, hu =>
  have : x = u := by simpa using hu
  rw [this, e]
theorem holds_of {w : World} {b : Nat} {e0 : TypeId} {cur : Array Value} {l : List ByteArray} (hh : w.heap[b]? = some (.cells cur e0 (0, 0))) (hc : ∀ (i : Nat) (x : ByteArray), l[i]? = some x → cur[i]? = some (Value.string x) ∧ x.size ≤ 9223372036854775807) : Holds encStr w b 0 (l.map lsS).toArray := by
 intro j hj
 have hj : j < l.length := by simpa using hj
 obtain ⟨h1, _⟩ := hc j l[j] (List.getElem?_eq_getElem hj)
 refine ⟨?_, ?_⟩
 ·rw [cell_of_row w b _ cur e0 (0, 0) hh, Nat.zero_add, h1]
  have e : (l.map lsS).toArray[j]! = lsS l[j] := by simp [hj]
  rw [e]
  show some (Value.string l[j]) = some (Value.string (unS (lsS l[j])))
  rw [unS_lsS]
 ·unfold World.frozen?
  rw [hh]
  simp
theorem heap_put {w : World} {b n : Nat} {e0 : TypeId} {cur : Array Value} {d : Array (List UInt8)} (hh : w.heap[b]? = some (.cells cur e0 (0, 0))) : (putRow encStr (Sort.ahead w n) b 0 d).heap[b]? = some (.cells (putCells encStr 0 d cur) e0 (0, 0)) ∧ (putRow encStr (Sort.ahead w n) b 0 d).heap.size = w.heap.size ∧ ∀ k, k ≠ b → (putRow encStr (Sort.ahead w n) b 0 d).heap[k]? = w.heap[k]? := by
 unfold putRow mapBlock Sort.ahead
 refine ⟨?_, by simp, fun k hk => ?_⟩
 ·simp only [Array.getElem?_modify, if_true, hh, Option.map_some]
  rfl
 ·simp only [Array.getElem?_modify]
  rw [if_neg (fun h => hk h.symm)]

def C_sortS : Con := { ps := [.row none .str], out := fun x => let a : List ByteArray := x.1; .req (a.length ≤ 1048576) (.ret { val := .tup [], ins := [(0, .row none .str (sortB a) true)] }) }
def C_compS : Con := { ps := [.row none .str], out := fun x => let a : List ByteArray := x.1; .req (a.length ≤ 1048576) (.ret { val := .one (.sub 0 0 (compB a).length), ins := [(0, .row none .str (compB a ++ List.replicate (a.length - (compB a).length) (unS [])) true)] }) }
theorem det_sortS : C_sortS.det = true → ∀ x, (C_sortS.out x).Det := fun _ x => by simp only [C_sortS]; repeat (first | exact Det.ret _ | apply Det.req)
theorem det_compS : C_compS.det = true → ∀ x, (C_compS.out x).Det := fun _ x => by simp only [C_compS]; repeat (first | exact Det.ret _ | apply Det.req)
theorem mem_sortB {x : ByteArray} {l : List ByteArray} : x ∈ sortB l ↔ x ∈ l := by
 unfold sortB
 rw [List.mem_map]
 constructor
 ·rintro ⟨z, hz, rfl⟩
  rw [List.mem_mergeSort] at hz
  obtain ⟨s, hs, rfl⟩ := List.mem_map.1 hz
  rw [unS_lsS]; exact hs
 ·intro hx
  exact ⟨lsS x, by rw [List.mem_mergeSort]; exact List.mem_map.2 ⟨x, hx, rfl⟩, unS_lsS x⟩
theorem mem_compB {x : ByteArray} {l : List ByteArray} : x ∈ compB l ↔ x ∈ l := by
 unfold compB
 rw [List.mem_map]
 constructor
 ·rintro ⟨z, hz, rfl⟩
  rw [comp_mem] at hz
  obtain ⟨s, hs, rfl⟩ := List.mem_map.1 hz
  rw [unS_lsS]; exact hs
 ·intro hx
  exact ⟨lsS x, by rw [comp_mem]; exact List.mem_map.2 ⟨x, hx, rfl⟩, unS_lsS x⟩
theorem map_unS (z : List (List UInt8)) : (z.map unS).map lsS = z := by
 rw [List.map_map]
 conv => rhs; rw [← List.map_id z]
 exact List.map_congr_left fun z _ => lsS_unS z
theorem comp_len (l : List (List UInt8)) : (Lib.compact l).length ≤ l.length := by
 unfold Lib.compact Lib.compactUpTo
 rw [List.length_map]
 exact Nat.le_trans (List.length_filter_le _ _) (by simp)
theorem compB_len (l : List ByteArray) : (compB l).length ≤ l.length := by
 unfold compB
 rw [List.length_map]
 exact Nat.le_trans (comp_len _) (by simp)
theorem ok_sortS : ConOK Tryz.prog 107 C_sortS := by
 refine ⟨⟨Tryz.f107, Tryz.func107, by decide +kernel, rfl⟩, fun x hx w E vals hent => ?_⟩
 obtain ⟨a, ⟨⟩⟩ := x
 change List ByteArray at a
 replace hent : Ent w E 1 vals [AV.one (A1.sl 0 [])] [(0, Blk.row none Ty.str a true)] := hent
 have hx : a.length ≤ 1048576 := hx.1
 obtain ⟨rfl, F, hrow⟩ := ent_row hent
 rcases row_str hrow with ⟨hv, rfl⟩ | ⟨b, c, e0, cur, hv, hB, hh, hs, hc, hm, hcell⟩
 ·rw [hv]
  refine Calls.mono (Any.slices_Sort_string_none laysSort none 0 w) ?_
  rintro ex w' ⟨rfl, rfl⟩
  exact ⟨_, _, rfl, rfl, back_row (v := E.hv 0) hent (Nat.le_refl _) (fun _ _ _ => rfl) rfl rfl rfl (.inl ⟨hv, by simp [sortB]⟩) ⟨#[], rfl, rfl, fun i c hi => by simp at hi⟩⟩
 ·have hlen : ((a.map lsS).length : Nat) = a.length := by simp
  have key := Any.slices_Sort_string laysSort b 0 c (a.map lsS) w (holds_of hh hcell) (Array.getElem?_eq_some_iff.1 hh).1 (by omega)
  rw [hlen] at key
  rw [hv]
  refine Calls.mono key ?_
  rintro ex w' ⟨rfl, n, os, rfl⟩
  obtain ⟨p1, p2, p3⟩ := heap_put (n := n) (d := ((a.map lsS).mergeSort fun x y => decide (x ≤ y)).toArray) hh
  have hlt := (Array.getElem?_eq_some_iff.1 hh).1
  have hg : ∀ k, k < w.heap.size → (grow (putRow encStr (Sort.ahead w n) b 0 ((a.map lsS).mergeSort fun x y => decide (x ≤ y)).toArray) os).heap[k]? = (putRow encStr (Sort.ahead w n) b 0 ((a.map lsS).mergeSort fun x y => decide (x ≤ y)).toArray).heap[k]? := fun k hk => by
   unfold grow
   exact Array.getElem?_append_left (by rw [p2]; exact hk)
  refine ⟨_, _, rfl, rfl, back_row (v := E.hv 0) (a' := sortB a) (val := .tup []) hent ?_ (fun k hk hn => ?_) rfl rfl rfl ?_ ⟨#[], rfl, rfl, fun i c hi => by simp at hi⟩⟩
  ·unfold grow
   simp [p2]
  ·rw [hg k hk, p3 k (fun e => hn (by rw [e]; exact hB))]
  ·rw [hv, ← sortB_len a]
   refine put_row (cur := cur) (e0 := e0) hB hs (by rw [sortB_len]; exact hc) hm ?_ (fun x hx => ?_)
   ·rw [hg b hlt, p1]
    unfold sortB
    rw [map_unS]
   ·rw [mem_sortB] at hx
    obtain ⟨i, hi, e⟩ := List.getElem_of_mem hx
    exact (hcell i x (by rw [List.getElem?_eq_getElem hi, e])).2
theorem ok_compS : ConOK Tryz.prog 108 C_compS := by
 refine ⟨⟨Tryz.f108, Tryz.func108, by decide +kernel, rfl⟩, fun x hx w E vals hent => ?_⟩
 obtain ⟨a, ⟨⟩⟩ := x
 change List ByteArray at a
 replace hent : Ent w E 1 vals [AV.one (A1.sl 0 [])] [(0, Blk.row none Ty.str a true)] := hent
 have hx : a.length ≤ 1048576 := hx.1
 obtain ⟨rfl, F, hrow⟩ := ent_row hent
 rcases row_str hrow with ⟨hv, rfl⟩ | ⟨b, c, e0, cur, hv, hB, hh, hs, hc, hm, hcell⟩
 ·rw [hv]
  refine Calls.mono (calls_of_every_depth fun D => AnyS.slices_Compact_string_empty_in laysCompact D none 0 w) ?_
  rintro ex w' ⟨rfl, rfl⟩
  refine ⟨_, _, rfl, rfl, back_row (v := E.hv 0) hent (Nat.le_refl _) (fun _ _ _ => rfl) rfl rfl rfl (.inl ⟨hv, by simp [compB, Lib.compact, Lib.compactUpTo]⟩) ?_⟩
  refine ⟨rfl, fun e t l d h => ?_⟩
  simp only [lk_cons, if_true, Option.some.injEq] at h
  cases h
  exact ⟨none, 0, rfl, Nat.le_refl _, by omega, by simp [compB, Lib.compact, Lib.compactUpTo], fun h => by simp [compB, Lib.compact, Lib.compactUpTo] at h⟩
 ·have hlen : ((a.map lsS).length : Nat) = a.length := by simp
  have key := calls_of_every_depth fun D => AnyS.slices_Compact_string_in laysCompact D b 0 c (a.map lsS) w (holds_of hh hcell) (by omega) (by omega)
  rw [hlen] at key
  rw [hv]
  refine Calls.mono key ?_
  rintro ex w' ⟨rfl, n, rfl⟩
  obtain ⟨p1, p2, p3⟩ := heap_put (n := n) (d := (Lib.compact (a.map lsS) ++ List.replicate (a.length - (Lib.compact (a.map lsS)).length) []).toArray) hh
  have hcl : (Lib.compact (a.map lsS)).length = (compB a).length := by simp [compB]
  have hle := compB_len a
  have hl2 : (compB a ++ List.replicate (a.length - (compB a).length) (unS [])).length = a.length := by simp; omega
  have hv2 : E.hv 0 = .slice (some ⟨b, 0, none⟩) (compB a ++ List.replicate (a.length - (compB a).length) (unS [])).length c := by rw [hv, hl2]
  refine ⟨_, _, rfl, rfl, back_row (v := E.hv 0) (a' := compB a ++ List.replicate (a.length - (compB a).length) (unS [])) (val := .one (.sub 0 0 (compB a).length)) hent (by rw [p2]; exact Nat.le_refl _) (fun k hk hn => p3 k (fun e => hn (by rw [e]; exact hB))) rfl rfl rfl ?_ ?_⟩
  ·rw [hv2]
   refine put_row (cur := cur) (e0 := e0) hB hs (by rw [hl2]; exact hc) hm ?_ (fun x hx => ?_)
   ·rw [p1, List.map_append, List.map_replicate, lsS_unS, ← hcl]
    unfold compB
    rw [map_unS]
   ·rcases List.mem_append.1 hx with hx | hx
    ·rw [mem_compB] at hx
     obtain ⟨i, hi, e⟩ := List.getElem_of_mem hx
     exact (hcell i x (by rw [List.getElem?_eq_getElem hi, e])).2
    ·rw [List.eq_of_mem_replicate hx]
     simp [unS, ByteArray.size]
  ·refine ⟨rfl, fun e t l d h => ?_⟩
   simp only [lk_cons, if_true, Option.some.injEq] at h
   cases h
   exact ⟨_, c, by rw [hcl], by omega, hm, by rw [hl2]; omega, fun _ => ⟨b, c, by rw [hv, hl2], by simp⟩⟩
end Go.Proofs.YtpgglbnagphgoaaGreat
