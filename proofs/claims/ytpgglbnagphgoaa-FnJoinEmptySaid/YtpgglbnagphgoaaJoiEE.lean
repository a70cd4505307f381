/- Joined objects are linked as both are: plain Lean. -/
import Derived.Test.YtpgglbnagphgoaaJoiDE
set_option linter.unusedVariables false
set_option linter.unusedSimpArgs false
namespace Go.Proofs.Ytpgglbnagphgoaa
open Go Go.RowKit

structure Jok (a b : Objt) : Prop where
 va : objB a = true
 vb : objB b = true
 tw : nTw [a, b] = []
 x : objB (jnO a b) = true
theorem joinOk_iff {a b : Objt} : joinOk a b = true ↔ Jok a b := by
 unfold joinOk
 simp only [Bool.and_eq_true, decide_eq_true_eq]
 exact ⟨fun h => ⟨h.1.1.1, h.1.1.2, h.1.2, h.2⟩, fun h => ⟨⟨⟨h.va, h.vb⟩, h.tw⟩, h.x⟩⟩
theorem Jok.u {a b : Objt} (h : Jok a b) : Uniq (jnO a b).syms := objB_uniq h.x
theorem Jok.ok {a b : Objt} (h : Jok a b) : JnOk a b.syms (jnF a b.syms) := jn_ok h.va h.vb
/-! The layout. -/
/-! What symbols mean. -/
/-! All are joined. -/
/-! With an object without anything. -/
theorem join_nil {a : Objt} (h : objB a = true) : joinOk a ⟨[], []⟩ = true ∧ jnO a ⟨[], []⟩ = a := by
 have e : jnO a ⟨[], []⟩ = a := by simp [jnO, jnF]
 refine ⟨joinOk_iff.2 ⟨h, rfl, ?_, by rw [e]; exact h⟩, e⟩
 refine List.eq_nil_iff_forall_not_mem.2 fun n hn => ?_
 have := mem_nTw.1 hn
 simp only [cntS, flt, List.flatMap_cons, List.flatMap_nil, List.append_nil, symP, List.filter_nil, List.map_nil] at this
 have h2 := cnt_glo (n := n) (objB_uniq h)
 simp only [symP] at h2
 rw [h2] at this
 split at this <;> omega
theorem jnN_app {l : List Sym} : ∀ {m : List Sym} {ns : List Int}, (m.foldl (jnStep ⟨[], []⟩) ⟨l, ns⟩) = ⟨l ++ m.map (shS 0), ns ++ (List.range m.length).map fun i => ((l.length + i : Nat) : Int)⟩ := by
 intro m
 induction m generalizing l with
 | nil => intro ns; simp
 | cons s m ih =>
  intro ns
  simp only [List.foldl_cons]
  have e : jnStep ⟨[], []⟩ ⟨l, ns⟩ s = ⟨l ++ [shS 0 s], ns ++ [(l.length : Int)]⟩ := by
   unfold jnStep
   rw [if_pos (.inr (by simp [globIx]))]; rfl
  rw [e, ih]
  simp only [List.append_assoc, List.map_cons, List.length_cons, List.range_succ_eq_map, List.map_map, List.length_append, List.length_nil, Jn.mk.injEq, List.cons_append, List.nil_append, true_and, List.append_cancel_left_eq, List.cons.injEq]
  refine ⟨by simp, List.map_congr_left fun i _ => ?_⟩
  simp only [Function.comp]
  omega
theorem shS_zero : ∀ s : Sym, shS 0 s = s := fun s => by
 unfold shS
 split
 ·simp
 ·rfl
theorem nil_join {a : Objt} (h : objB a = true) : joinOk ⟨[], []⟩ a = true ∧ jnO ⟨[], []⟩ a = a := by
 have e0 : jnF ⟨[], []⟩ a.syms = ⟨a.syms, (List.range a.syms.length).map fun i : Nat => (i : Int)⟩ := by
  unfold jnF
  rw [jnN_app]
  simp only [List.nil_append, List.length_nil, Nat.zero_add, Jn.mk.injEq, and_true]
  exact (List.map_congr_left fun s _ => shS_zero s).trans (List.map_id _)
 have e : jnO ⟨[], []⟩ a = a := by
  unfold jnO
  rw [e0]
  simp only [List.nil_append]
  have e1 : a.sects.map (reS ((List.range a.syms.length).map fun i : Nat => (i : Int))) = a.sects := by
   refine (List.map_congr_left fun s hs => ?_).trans (List.map_id _)
   have : s.fixups.map (reF ((List.range a.syms.length).map fun i : Nat => (i : Int))) = s.fixups := by
    refine (List.map_congr_left fun f hf => ?_).trans (List.map_id _)
    have ht := objB_to h hs hf
    have e : ((List.range a.syms.length).map fun i : Nat => (i : Int)).getD f.to.toNat 0 = f.to := by
     refine (getD_get (x := f.to) ?_)
     rw [List.getElem?_map, List.getElem?_range (by omega)]
     simp only [Option.map_some, Option.some.injEq]
     omega
    simp only [reF, e, id]
   simp only [reS, this, id]
  rw [e1]
 refine ⟨joinOk_iff.2 ⟨rfl, h, ?_, by rw [e]; exact h⟩, e⟩
 refine List.eq_nil_iff_forall_not_mem.2 fun n hn => ?_
 have := mem_nTw.1 hn
 simp only [cntS, flt, List.flatMap_cons, List.flatMap_nil, List.append_nil, symP, List.filter_nil, List.map_nil, List.nil_append] at this
 have h2 := cnt_glo (n := n) (objB_uniq h)
 simp only [symP] at h2
 rw [h2] at this
 split at this <;> omega
end Go.Proofs.Ytpgglbnagphgoaa
