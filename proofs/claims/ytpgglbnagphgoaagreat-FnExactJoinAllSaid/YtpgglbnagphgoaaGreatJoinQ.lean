/- Objects that are joined: both packages keep the same contracts. -/
import Derived.Test.YtpgglbnagphgoaaGreatJoiEQ
import Derived.Test.YtpgglbnagphgoaaGreatStrQ
import Derived.Test.YtpgglbnagphgoaaGreatResTQ
set_option linter.unusedVariables false
set_option linter.unusedSimpArgs false
set_option maxRecDepth 200000
set_option maxHeartbeats 4000000
namespace Go.Proofs.YtpgglbnagphgoaaGreat
open Go Go.RowKit


def holF (ns : List Int) (l : List Sect) (i j : Int) : List (Sect × Bool) := match l[i.toNat]? with
 | some s => (holS (reS ns) l i).set i.toNat (reP ns s j, true)
 | none => holS (reS ns) l i
theorem holF_zero {ns : List Int} {l : List Sect} {i : Int} : holS (reS ns) l i = holF ns l i 0 := by
 unfold holF
 split
 ·rename_i s h
  have e : reP ns s 0 = s := by simp [reP, midX_zero]
  rw [e]
  refine List.ext_getElem? fun k => ?_
  rw [List.getElem?_set]
  split
  ·rename_i hk
   subst hk
   rw [holS_get.2 ⟨h, rfl⟩, if_pos (by rw [holS_len]; exact lt_of_some h)]
  ·rfl
 ·rfl
theorem holF_get {ns : List Int} {l : List Sect} {i j : Int} {y : Sect} {b : Bool} {s : Sect} (h : l[i.toNat]? = some s) : (holF ns l i j)[i.toNat]? = some (y, b) ↔ y = reP ns s j ∧ b = true := by
 unfold holF
 rw [h]
 simp only
 rw [List.getElem?_set, if_pos rfl, if_pos (by rw [holS_len]; exact lt_of_some h)]
 simp only [Option.some.injEq, Prod.mk.injEq]
 exact ⟨fun h => ⟨h.1.symm, h.2.symm⟩, fun h => ⟨h.1.symm, h.2.symm⟩⟩
theorem holF_len {ns : List Int} {l : List Sect} {i j : Int} : (holF ns l i j).length = l.length := by
 unfold holF
 split
 ·rw [List.length_set, holS_len]
 ·exact holS_len
theorem holF_set {ns : List Int} {l : List Sect} {i j n : Int} {s : Sect} {f : Fixup} (hj : 0 ≤ j) (h : l[i.toNat]? = some s) (hf : s.fixups[j.toNat]? = some f) (hn : ns[f.to.toNat]? = some n) :
  (holF ns l i j).set i.toNat (⟨s.name, s.kind, s.align, s.bytes, s.size, (midX ns s.fixups j).set j.toNat ⟨f.at_, f.kind, n, f.add⟩⟩, true) = holF ns l i (j + 1) := by
 unfold holF
 rw [h]
 simp only [List.set_set]
 congr 2
 have e : (⟨f.at_, f.kind, n, f.add⟩ : Fixup) = reF ns f := by simp only [reF, getD_get hn]
 rw [e, midX_set hj hf]; rfl
theorem holF_out {ns : List Int} {l : List Sect} {i j : Int} {y s : Sect} (hi : 0 ≤ i) (h : l[i.toNat]? = some s) (hj : (s.fixups.length : Int) ≤ j) (hy : y = reP ns s j) : (holF ns l i j).set i.toNat (y, false) = holS (reS ns) l (i + 1) := by
 rw [← holS_set (g := reS ns) hi h rfl]
 unfold holF
 rw [h]
 simp only [List.set_set]
 rw [hy]
 simp only [reP, midX_end hj, reS]
def jnA (a : Objt) (l : List Sym) (i : Int) : Jn := jnF a (l.take i.toNat)
theorem jnA_next {a : Objt} {l : List Sym} {i : Int} {s : Sym} (hi : 0 ≤ i) (h : l[i.toNat]? = some s) : jnA a l (i + 1) = jnStep a (jnA a l i) s := by
 unfold jnA jnF
 rw [toNat_succ hi, take_snoc h, List.foldl_append]; rfl
theorem jnA_end {a : Objt} {l : List Sym} {i : Int} (h : (l.length : Int) ≤ i) : jnA a l i = jnF a l := by rw [jnA, List.take_of_length_le (by omega)]
theorem jnA_len {a : Objt} {l : List Sym} (i : Int) : (jnA a l i).syms.length ≤ a.syms.length + l.length ∧ a.syms.length ≤ (jnA a l i).syms.length ∧ (jnA a l i).nums.length ≤ l.length := by
 have key : ∀ (m : List Sym) (st : Jn), a.syms.length ≤ st.syms.length → (m.foldl (jnStep a) st).syms.length ≤ st.syms.length + m.length ∧ a.syms.length ≤ (m.foldl (jnStep a) st).syms.length ∧ (m.foldl (jnStep a) st).nums.length = st.nums.length + m.length := fun m => by
  induction m with
  | nil => intro st h; simp [h]
  | cons s m ih =>
   intro st h
   have h1 : (jnStep a st s).syms.length ≤ st.syms.length + 1 ∧ st.syms.length ≤ (jnStep a st s).syms.length ∧ (jnStep a st s).nums.length = st.nums.length + 1 := by
    unfold jnStep
    split
    ·simp
    ·split <;> simp
   have := ih (jnStep a st s) (by omega)
   simp only [List.foldl_cons, List.length_cons]
   omega
 have := key (l.take i.toNat) ⟨a.syms, []⟩ (Nat.le_refl _)
 rw [List.length_take] at this
 unfold jnA jnF
 simp only [List.length_nil, Nat.zero_add] at this
 omega
theorem jnF_nums {a : Objt} {l : List Sym} : (jnF a l).nums.length = l.length := by
 have key : ∀ (m : List Sym) (st : Jn), (m.foldl (jnStep a) st).nums.length = st.nums.length + m.length := fun m => by
  induction m with
  | nil => intro st; rfl
  | cons s m ih =>
   intro st
   have h1 : (jnStep a st s).nums.length = st.nums.length + 1 := by
    unfold jnStep
    split
    ·simp
    ·split <;> simp
   simp only [List.foldl_cons, List.length_cons]
   rw [ih, h1]; omega
 rw [jnF, key]; simp
def jnN (a b : Objt) : List Int := (jnF a b.syms).nums
theorem jn_new {a : Objt} {st : Jn} {s : Sym} (h : s.bind = 0 ∨ globIx s.name a.syms 0 < 0) : jnStep a st s = ⟨st.syms ++ [shS a.sects.length s], st.nums ++ [(st.syms.length : Int)]⟩ := by unfold jnStep; rw [if_pos h]
theorem jn_tak {a : Objt} {st : Jn} {s t : Sym} (h : ¬ s.bind = 0) (h' : ¬ globIx s.name a.syms 0 < 0) (ht : a.syms[(globIx s.name a.syms 0).toNat]? = some t) (hk : tks t s = true) : jnStep a st s = ⟨st.syms.set (globIx s.name a.syms 0).toNat (shS a.sects.length s), st.nums ++ [globIx s.name a.syms 0]⟩ := by
 unfold jnStep
 rw [if_neg (fun hc => hc.elim h h'), ht, Option.getD_some, if_pos hk]
theorem jn_old {a : Objt} {st : Jn} {s t : Sym} (h : ¬ s.bind = 0) (h' : ¬ globIx s.name a.syms 0 < 0) (ht : a.syms[(globIx s.name a.syms 0).toNat]? = some t) (hk : tks t s = false) : jnStep a st s = ⟨st.syms, st.nums ++ [globIx s.name a.syms 0]⟩ := by
 unfold jnStep
 rw [if_neg (fun hc => hc.elim h h'), ht, Option.getD_some, if_neg (by simp [hk])]
theorem glob_bd {l : List Sym} {n : ByteArray} (h : ¬ globIx n l 0 < 0) : 0 ≤ globIx n l 0 ∧ globIx n l 0 < l.length := by
 rcases glob_glo (n := n) (l := l) (k := 0) (by omega) with h1 | ⟨i, s, h1, _, h2, _⟩
 ·exact absurd h1.1 h
 ·have := lt_of_some h2; omega
theorem shS_yes {n : Nat} {s : Sym} (h : 0 ≤ s.wher) : shS n s = ⟨s.name, s.bind, s.wher + n, s.value⟩ := by rw [shS, if_pos h]
theorem shS_no {n : Nat} {s : Sym} (h : ¬ 0 ≤ s.wher) : shS n s = s := by rw [shS, if_neg h]
theorem joinV_no {a b : Objt} (h : joinOk a b = false) : joinV a b = ⟨[], []⟩ := by simp [joinV, h]
theorem joinV_yes {a b : Objt} (h : joinOk a b = true) : joinV a b = jnO a b := by simp [joinV, h]
theorem joinOk_a {a b : Objt} (h : objB a = false) : joinOk a b = false := by simp [joinOk, h]
theorem joinOk_b {a b : Objt} (h : objB b = false) : joinOk a b = false := by simp [joinOk, h]
theorem joinOk_t {a b : Objt} (h : 0 < ((nTw [a, b]).length : Int)) : joinOk a b = false := by
 have : nTw [a, b] ≠ [] := fun e => by rw [e] at h; simp at h
 simp [joinOk, this]
theorem joinOk_x {a b : Objt} (h1 : objB a = true) (h2 : objB b = true) (h3 : ((nTw [a, b]).length : Int) ≤ 0) : joinOk a b = objB (jnO a b) := by
 have : nTw [a, b] = [] := List.eq_nil_of_length_eq_zero (by omega)
 simp [joinOk, h1, h2, this]
structure J2 (a b : Objt) : Prop where
 va : objB a = true
 vb : objB b = true
 t : ((nTw [a, b]).length : Int) ≤ 0
theorem JA_1 {a b : Objt} (h : objB a = false) : false = joinOk a b := (joinOk_a h).symm
theorem JA_2 {a b : Objt} (h : objB a = false) : [] = (joinV a b).sects := by rw [joinV_no (joinOk_a h)]
theorem JA_3 {a b : Objt} (h : objB a = false) : [] = (joinV a b).syms := by rw [joinV_no (joinOk_a h)]
theorem JB_1 {a b : Objt} (h : objB b = false) : false = joinOk a b := (joinOk_b h).symm
theorem JB_2 {a b : Objt} (h : objB b = false) : [] = (joinV a b).sects := by rw [joinV_no (joinOk_b h)]
theorem JB_3 {a b : Objt} (h : objB b = false) : [] = (joinV a b).syms := by rw [joinV_no (joinOk_b h)]
theorem JT_1 {a b : Objt} (h : 0 < ((nTw [a, b]).length : Int)) : false = joinOk a b := (joinOk_t h).symm
theorem JT_2 {a b : Objt} (h : 0 < ((nTw [a, b]).length : Int)) : [] = (joinV a b).sects := by rw [joinV_no (joinOk_t h)]
theorem JT_3 {a b : Objt} (h : 0 < ((nTw [a, b]).length : Int)) : [] = (joinV a b).syms := by rw [joinV_no (joinOk_t h)]
theorem JX_1 {a b : Objt} (h : objB a = true) (h' : objB b = true) : (objB a && (objB b && true)) = true := by rw [h, h']; rfl
theorem JZ_1 {a b : Objt} : a.syms = (jnA a b.syms 0).syms := rfl
theorem JZ_2 {a b : Objt} : [] = (jnA a b.syms 0).nums := rfl
theorem JL {a b : Objt} (h : J2 a b) (d : Int) : (jnA a b.syms d).syms.length ≤ 24 ∧ (jnA a b.syms d).nums.length ≤ 12 ∧ a.syms.length ≤ (jnA a b.syms d).syms.length := by
 have h1 := objB_lens h.va
 have h2 := objB_lens h.vb
 have h3 := jnA_len (a := a) (l := b.syms) d
 omega
theorem JL_1 {a b : Objt} {d : Int} (h : J2 a b) : ((jnA a b.syms d).syms.length + (0 + 1)) * 40 ≤ 140737488355328 := by have := JL h d; omega
theorem JL_2 {a b : Objt} {d : Int} (h : J2 a b) : (jnA a b.syms d).syms.length + (0 + 1) ≤ 1000000000000 := by have := JL h d; omega
theorem JL_3 {a b : Objt} {d : Int} (h : J2 a b) : ((jnA a b.syms d).nums.length + (0 + 1)) * 8 ≤ 140737488355328 := by have := JL h d; omega
theorem JL_4 {a b : Objt} {d : Int} (h : J2 a b) : (jnA a b.syms d).nums.length + (0 + 1) ≤ 1000000000000 := by have := JL h d; omega
theorem JW_1 {a b : Objt} {d : Int} {e : Sym} (hs : b.syms[d.toNat]? = some e) (h : J2 a b) : e.wher + a.sects.length ≤ 9223372036854775807 := by
 have h1 := objB_sym h.vb (List.mem_of_getElem? hs)
 have h2 := objB_lens h.va
 have h3 := objB_lens h.vb
 rcases h1.2 with h4 | h4 | h4 <;> omega
theorem JN_0 {a b : Objt} {d : Int} {e : Sym} (hb : e.bind = 0) (hs : b.syms[d.toNat]? = some e) (h0 : 0 ≤ d) : jnA a b.syms (d + 1) = ⟨(jnA a b.syms d).syms ++ [shS a.sects.length e], (jnA a b.syms d).nums ++ [((jnA a b.syms d).syms.length : Int)]⟩ := by rw [jnA_next h0 hs, jn_new (.inl hb)]
theorem JN_1 {a b : Objt} {d : Int} {e : Sym} (hb : globIx e.name a.syms 0 < 0) (hs : b.syms[d.toNat]? = some e) (h0 : 0 ≤ d) : jnA a b.syms (d + 1) = ⟨(jnA a b.syms d).syms ++ [shS a.sects.length e], (jnA a b.syms d).nums ++ [((jnA a b.syms d).syms.length : Int)]⟩ := by rw [jnA_next h0 hs, jn_new (.inr hb)]
theorem JN_2 {a b : Objt} {d : Int} {e t : Sym} (hk : tks t e = true) (ht : a.syms[(globIx e.name a.syms 0).toNat]? = some t) (hs : b.syms[d.toNat]? = some e) (hb : ¬ e.bind = 0) (hg : 0 ≤ globIx e.name a.syms 0) (h0 : 0 ≤ d) : jnA a b.syms (d + 1) = ⟨(jnA a b.syms d).syms.set (globIx e.name a.syms 0).toNat (shS a.sects.length e), (jnA a b.syms d).nums ++ [globIx e.name a.syms 0]⟩ := by rw [jnA_next h0 hs, jn_tak hb (by omega) ht hk]
theorem JN_3 {a b : Objt} {d : Int} {e t : Sym} (hk : tks t e = false) (ht : a.syms[(globIx e.name a.syms 0).toNat]? = some t) (hs : b.syms[d.toNat]? = some e) (hb : ¬ e.bind = 0) (hg : 0 ≤ globIx e.name a.syms 0) (h0 : 0 ≤ d) : jnA a b.syms (d + 1) = ⟨(jnA a b.syms d).syms, (jnA a b.syms d).nums ++ [globIx e.name a.syms 0]⟩ := by rw [jnA_next h0 hs, jn_old hb (by omega) ht hk]
theorem JS_0a {a b : Objt} {d : Int} {e : Sym} (hw : 0 ≤ e.wher) (hb : e.bind = 0) (hs : b.syms[d.toNat]? = some e) (h0 : 0 ≤ d) : (jnA a b.syms d).syms ++ [({ name := e.name, bind := e.bind, wher := e.wher + (a.sects.length : Int), value := e.value } : Sym)] = (jnA a b.syms (d + 1)).syms := by rw [JN_0 hb hs h0, shS_yes hw]
theorem JS_0b {a b : Objt} {d : Int} {e : Sym} (hw : e.wher < 0) (hb : e.bind = 0) (hs : b.syms[d.toNat]? = some e) (h0 : 0 ≤ d) : (jnA a b.syms d).syms ++ [e] = (jnA a b.syms (d + 1)).syms := by rw [JN_0 hb hs h0, shS_no (by omega)]
theorem JS_0c {a b : Objt} {d : Int} {e : Sym} (hb : e.bind = 0) (hs : b.syms[d.toNat]? = some e) (h0 : 0 ≤ d) : (jnA a b.syms d).nums ++ [((jnA a b.syms d).syms.length : Int)] = (jnA a b.syms (d + 1)).nums := by rw [JN_0 hb hs h0]
theorem JS_1a {a b : Objt} {d : Int} {e : Sym} (hw : 0 ≤ e.wher) (hb : globIx e.name a.syms 0 < 0) (hs : b.syms[d.toNat]? = some e) (h0 : 0 ≤ d) : (jnA a b.syms d).syms ++ [({ name := e.name, bind := e.bind, wher := e.wher + (a.sects.length : Int), value := e.value } : Sym)] = (jnA a b.syms (d + 1)).syms := by rw [JN_1 hb hs h0, shS_yes hw]
theorem JS_1b {a b : Objt} {d : Int} {e : Sym} (hw : e.wher < 0) (hb : globIx e.name a.syms 0 < 0) (hs : b.syms[d.toNat]? = some e) (h0 : 0 ≤ d) : (jnA a b.syms d).syms ++ [e] = (jnA a b.syms (d + 1)).syms := by rw [JN_1 hb hs h0, shS_no (by omega)]
theorem JS_1c {a b : Objt} {d : Int} {e : Sym} (hb : globIx e.name a.syms 0 < 0) (hs : b.syms[d.toNat]? = some e) (h0 : 0 ≤ d) : (jnA a b.syms d).nums ++ [((jnA a b.syms d).syms.length : Int)] = (jnA a b.syms (d + 1)).nums := by rw [JN_1 hb hs h0]
theorem JS_2a {a b : Objt} {d : Int} {e t : Sym} (hk : tks t e = true) (hw : 0 ≤ e.wher) (ht : a.syms[(globIx e.name a.syms 0).toNat]? = some t) (hs : b.syms[d.toNat]? = some e) (hb : ¬ e.bind = 0) (hg : 0 ≤ globIx e.name a.syms 0) (h0 : 0 ≤ d) : (jnA a b.syms d).syms.set (globIx e.name a.syms 0).toNat ({ name := e.name, bind := e.bind, wher := e.wher + (a.sects.length : Int), value := e.value } : Sym) = (jnA a b.syms (d + 1)).syms := by rw [JN_2 hk ht hs hb hg h0, shS_yes hw]
theorem JS_2b {a b : Objt} {d : Int} {e t : Sym} (hk : tks t e = true) (hw : e.wher < 0) (ht : a.syms[(globIx e.name a.syms 0).toNat]? = some t) (hs : b.syms[d.toNat]? = some e) (hb : ¬ e.bind = 0) (hg : 0 ≤ globIx e.name a.syms 0) (h0 : 0 ≤ d) : (jnA a b.syms d).syms.set (globIx e.name a.syms 0).toNat e = (jnA a b.syms (d + 1)).syms := by rw [JN_2 hk ht hs hb hg h0, shS_no (by omega)]
theorem JS_2c {a b : Objt} {d : Int} {e t : Sym} (hk : tks t e = true) (ht : a.syms[(globIx e.name a.syms 0).toNat]? = some t) (hs : b.syms[d.toNat]? = some e) (hb : ¬ e.bind = 0) (hg : 0 ≤ globIx e.name a.syms 0) (h0 : 0 ≤ d) : (jnA a b.syms d).nums ++ [globIx e.name a.syms 0] = (jnA a b.syms (d + 1)).nums := by rw [JN_2 hk ht hs hb hg h0]
theorem JS_3a {a b : Objt} {d : Int} {e t : Sym} (hk : tks t e = false) (ht : a.syms[(globIx e.name a.syms 0).toNat]? = some t) (hs : b.syms[d.toNat]? = some e) (hb : ¬ e.bind = 0) (hg : 0 ≤ globIx e.name a.syms 0) (h0 : 0 ≤ d) : (jnA a b.syms d).syms = (jnA a b.syms (d + 1)).syms := by rw [JN_3 hk ht hs hb hg h0]
theorem JS_3c {a b : Objt} {d : Int} {e t : Sym} (hk : tks t e = false) (ht : a.syms[(globIx e.name a.syms 0).toNat]? = some t) (hs : b.syms[d.toNat]? = some e) (hb : ¬ e.bind = 0) (hg : 0 ≤ globIx e.name a.syms 0) (h0 : 0 ≤ d) : (jnA a b.syms d).nums ++ [globIx e.name a.syms 0] = (jnA a b.syms (d + 1)).nums := by rw [JN_3 hk ht hs hb hg h0]
theorem JG_1 {a : Objt} {n : ByteArray} (h : 0 ≤ globIx n a.syms 0) : globIx n a.syms 0 < a.syms.length := (glob_bd (by omega)).2
theorem JG_2 {a b : Objt} {d : Int} {n : ByteArray} (h : 0 ≤ globIx n a.syms 0) (hj : J2 a b) : globIx n a.syms 0 < (jnA a b.syms d).syms.length := by have := JG_1 h; have := JL hj d; omega
theorem HS_at {l : List Sect} {g : Sect → Sect} {i : Int} {y : Sect} (h : (holS g l i)[i.toNat]? = some (y, true)) : y = sAt l i := (sAt_eq (holS_get.1 h).1).symm
theorem HS_n {l : List Sect} {g : Sect → Sect} {i : Int} {y : Sect} (h : (holS g l i)[i.toNat]? = some (y, true)) : y.name = (sAt l i).name := by rw [HS_at h]
theorem HS_k {l : List Sect} {g : Sect → Sect} {i : Int} {y : Sect} (h : (holS g l i)[i.toNat]? = some (y, true)) : y.kind = (sAt l i).kind := by rw [HS_at h]
theorem HS_a {l : List Sect} {g : Sect → Sect} {i : Int} {y : Sect} (h : (holS g l i)[i.toNat]? = some (y, true)) : y.align = (sAt l i).align := by rw [HS_at h]
theorem HS_s {l : List Sect} {g : Sect → Sect} {i : Int} {y : Sect} (h : (holS g l i)[i.toNat]? = some (y, true)) : y.size = (sAt l i).size := by rw [HS_at h]
theorem HS_b {l : List Sect} {g : Sect → Sect} {i : Int} {y : Sect} (h : (holS g l i)[i.toNat]? = some (y, true)) : y.bytes = (sAt l i).bytes := by rw [HS_at h]
theorem HS_f {l : List Sect} {g : Sect → Sect} {i : Int} {y : Sect} {ns : List Int} (h : (holS g l i)[i.toNat]? = some (y, true)) : y.fixups = midX ns (sAt l i).fixups 0 := by rw [HS_at h, midX_zero]
theorem HS_l {l : List Sect} {g : Sect → Sect} {i : Int} {y : Sect} (h : (holS g l i)[i.toNat]? = some (y, true)) : (y.fixups.length : Int) = (sAt l i).fixups.length := by rw [HS_at h]
theorem HS_i {l : List Sect} {g : Sect → Sect} {i : Int} (h : i < l.length) : i < (holS g l i).length := by rw [holS_len]; exact h
theorem HS_e {g : Sect → Sect} {l : List Sect} {i : Int} (hi : 0 ≤ i) (h : i < l.length) : ∃ f, (holS g l i)[i.toNat]? = some (f, true) := by
 obtain ⟨s, hs⟩ := some_of_lt hi h
 exact ⟨s, holS_get.2 ⟨hs, rfl⟩⟩
theorem HS_x {l : List Sect} {i : Int} {y : Sect} (h : (holS (fun c => c) l i)[i.toNat]? = some (y, true)) (hi : 0 ≤ i) : (holS (fun c => c) l i).set i.toNat (y, false) = holS (fun c => c) l (i + 1) := holS_set hi (holS_get.1 h).1 rfl
theorem JE_0 {a b : Objt} : a.sects = a.sects ++ (b.sects.take (Int.toNat 0)).map (reS (jnN a b)) := by simp
theorem JE_1 {a b : Objt} {d : Int} (h : (b.syms.length : Int) ≤ d) : (jnA a b.syms d).syms = (jnF a b.syms).syms := by rw [jnA_end h]
theorem JE_2 {a b : Objt} {d : Int} (h : (b.syms.length : Int) ≤ d) : (jnA a b.syms d).nums = jnN a b := by rw [jnA_end h]; rfl
theorem jnO_end {a b : Objt} {u : Int} (h : (b.sects.length : Int) ≤ u) : (⟨a.sects ++ (b.sects.take u.toNat).map (reS (jnN a b)), (jnF a b.syms).syms⟩ : Objt) = jnO a b := by rw [List.take_of_length_le (by omega)]; rfl
theorem JE_f1 {a b : Objt} {u : Int} (hf : objB ⟨a.sects ++ (b.sects.take u.toNat).map (reS (jnN a b)), (jnF a b.syms).syms⟩ = false) (h : (b.sects.length : Int) ≤ u) (hj : J2 a b) : false = joinOk a b := by rw [joinOk_x hj.va hj.vb hj.t, ← jnO_end h, hf]
theorem JE_f2 {a b : Objt} {u : Int} (hf : objB ⟨a.sects ++ (b.sects.take u.toNat).map (reS (jnN a b)), (jnF a b.syms).syms⟩ = false) (h : (b.sects.length : Int) ≤ u) (hj : J2 a b) : [] = (joinV a b).sects := by rw [joinV_no (JE_f1 hf h hj).symm]
theorem JE_f3 {a b : Objt} {u : Int} (hf : objB ⟨a.sects ++ (b.sects.take u.toNat).map (reS (jnN a b)), (jnF a b.syms).syms⟩ = false) (h : (b.sects.length : Int) ≤ u) (hj : J2 a b) : [] = (joinV a b).syms := by rw [joinV_no (JE_f1 hf h hj).symm]
theorem JE_t1 {a b : Objt} {u : Int} (hf : objB ⟨a.sects ++ (b.sects.take u.toNat).map (reS (jnN a b)), (jnF a b.syms).syms⟩ = true) (h : (b.sects.length : Int) ≤ u) (hj : J2 a b) : true = joinOk a b := by rw [joinOk_x hj.va hj.vb hj.t, ← jnO_end h, hf]
theorem JE_t2 {a b : Objt} {u : Int} (hf : objB ⟨a.sects ++ (b.sects.take u.toNat).map (reS (jnN a b)), (jnF a b.syms).syms⟩ = true) (h : (b.sects.length : Int) ≤ u) (hj : J2 a b) : a.sects ++ (b.sects.take u.toNat).map (reS (jnN a b)) = (joinV a b).sects := by rw [joinV_yes (JE_t1 hf h hj).symm, ← jnO_end h]
theorem JE_t3 {a b : Objt} {u : Int} (hf : objB ⟨a.sects ++ (b.sects.take u.toNat).map (reS (jnN a b)), (jnF a b.syms).syms⟩ = true) (h : (b.sects.length : Int) ≤ u) (hj : J2 a b) : (jnF a b.syms).syms = (joinV a b).syms := by rw [joinV_yes (JE_t1 hf h hj).symm, ← jnO_end h]
theorem JE_6 {a b : Objt} {i : Int} (hj : J2 a b) (h0 : 0 ≤ i) (h : i < b.sects.length) : (sAt b.sects i).fixups.length ≤ 6 := fix_6 hj.vb (sAt_get h0 h)
theorem MX_l {ns : List Int} {l : List Fixup} {j : Int} (h : j < l.length) : j < (midX ns l j).length := by rw [midX_len]; exact h
theorem MX_to {a b : Objt} {ns : List Int} {i j : Int} {f : Fixup} (hf : (midX ns (sAt b.sects i).fixups j)[j.toNat]? = some f) (hj : J2 a b) (h0 : 0 ≤ i) (h : i < b.sects.length) : 0 ≤ f.to ∧ f.to < b.syms.length := by
 rw [midX_get] at hf
 exact fix_in hj.vb (sAt_get h0 h) hf
theorem MX_t0 {a b : Objt} {ns : List Int} {i j : Int} {f : Fixup} (hf : (midX ns (sAt b.sects i).fixups j)[j.toNat]? = some f) (hj : J2 a b) (h0 : 0 ≤ i) (h : i < b.sects.length) : 0 ≤ f.to := (MX_to hf hj h0 h).1
theorem MX_t1 {a b : Objt} {ns : List Int} {i j : Int} {f : Fixup} (hf : (midX ns (sAt b.sects i).fixups j)[j.toNat]? = some f) (hj : J2 a b) (h0 : 0 ≤ i) (h : i < b.sects.length) : f.to < (jnN a b).length := by
 rw [jnN, jnF_nums]; exact (MX_to hf hj h0 h).2
theorem MX_set {ns : List Int} {l : List Fixup} {j n : Int} {f g : Fixup} (hn : ns[g.to.toNat]? = some n) (hg : (midX ns l j)[j.toNat]? = some g) (hf : (midX ns l j)[j.toNat]? = some f) (h0 : 0 ≤ j) : (midX ns l j).set j.toNat ⟨f.at_, f.kind, n, f.add⟩ = midX ns l (j + 1) := by
 have e : g = f := Option.some.inj (hg.symm.trans hf)
 subst e
 rw [midX_get] at hf
 have e : (⟨g.at_, g.kind, n, g.add⟩ : Fixup) = reF ns g := by simp only [reF, getD_get hn]
 rw [e, midX_set h0 hf]
theorem JR_len {a b : Objt} {i : Int} (hj : J2 a b) : a.sects.length + ((b.sects.take i.toNat).map (reS (jnN a b))).length ≤ 16 := by
 have h1 := objB_lens hj.va
 have h2 := objB_lens hj.vb
 rw [List.length_map, List.length_take]
 omega
theorem JR_1 {a b : Objt} {i : Int} (hj : J2 a b) : (a.sects.length + ((b.sects.take i.toNat).map (reS (jnN a b))).length + (0 + 1)) * 88 ≤ 140737488355328 := by have := JR_len (i := i) hj; omega
theorem JR_2 {a b : Objt} {i : Int} (hj : J2 a b) : a.sects.length + ((b.sects.take i.toNat).map (reS (jnN a b))).length + (0 + 1) ≤ 1000000000000 := by have := JR_len (i := i) hj; omega
theorem JR_3 {a b : Objt} {i j : Int} (h : ((sAt b.sects i).fixups.length : Int) ≤ j) (h0 : 0 ≤ i) (hl : i < b.sects.length) : a.sects ++ (b.sects.take i.toNat).map (reS (jnN a b)) ++ [⟨(sAt b.sects i).name, (sAt b.sects i).kind, (sAt b.sects i).align, (sAt b.sects i).bytes, (sAt b.sects i).size, midX (jnN a b) (sAt b.sects i).fixups j⟩] = a.sects ++ (b.sects.take (i + 1).toNat).map (reS (jnN a b)) := by
 rw [midX_end h, toNat_succ h0, take_snoc (sAt_get h0 hl), List.map_append, List.append_assoc]; rfl
theorem namesT_2 {a b : Objt} (ha : objB a = true) (hb : objB b = true) : namesT [a, b] = nTw [a, b] := by
 rw [namesT, if_pos (by simp [objsB, ha, hb])]
theorem JU_1 {a b : Objt} (h : 0 < ((namesT [a, b]).length : Int)) (ha : objB a = true) (hb : objB b = true) : false = joinOk a b := by rw [namesT_2 ha hb] at h; exact JT_1 h
theorem JU_2 {a b : Objt} (h : 0 < ((namesT [a, b]).length : Int)) (ha : objB a = true) (hb : objB b = true) : [] = (joinV a b).sects := by rw [namesT_2 ha hb] at h; exact JT_2 h
theorem JU_3 {a b : Objt} (h : 0 < ((namesT [a, b]).length : Int)) (ha : objB a = true) (hb : objB b = true) : [] = (joinV a b).syms := by rw [namesT_2 ha hb] at h; exact JT_3 h
theorem JU_4 {a b : Objt} (h : ((namesT [a, b]).length : Int) ≤ 0) (ha : objB a = true) (hb : objB b = true) : J2 a b := by rw [namesT_2 ha hb] at h; exact ⟨ha, hb, h⟩
theorem JB_s {a b : Objt} {d : Int} {e : Sym} (hs : b.syms[d.toNat]? = some e) (hb : ¬ e.bind = 0) (hj : J2 a b) : e.bind = 1 ∨ e.bind = 2 := by
 rcases objB_bd hj.vb e (List.mem_of_getElem? hs) with h | h
 ·exact absurd h hb
 ·exact h
theorem JB_h {a b : Objt} {n : ByteArray} {e : Sym} (ht : a.syms[(globIx n a.syms 0).toNat]? = some e) (hg : 0 ≤ globIx n a.syms 0) (hj : J2 a b) : e.bind = 1 ∨ e.bind = 2 := by
 rcases glob_glo (n := n) (l := a.syms) (k := 0) (by omega) with h1 | ⟨i, s, h1, _, h2, h3, _⟩
 ·omega
 ·have e1 : (globIx n a.syms 0).toNat = i := by omega
  rw [e1, h2] at ht
  injection ht with ht
  subst ht
  rcases objB_bd hj.va s (List.mem_of_getElem? h2) with h | h
  ·exact absurd h h3
  ·exact h
theorem tks_sh {t e : Sym} {n : Nat} (hw : 0 ≤ e.wher) : tks t ⟨e.name, e.bind, e.wher + (n : Int), e.value⟩ = tks t e := by
 unfold tks
 have h1 : ¬ e.wher + (n : Int) = -1 := by omega
 have h2 : ¬ e.wher = -1 := by omega
 simp only [h1, h2, ne_eq, not_false_eq_true]
theorem JS_4a {a b : Objt} {d : Int} {e t : Sym} (hk : tks t ⟨e.name, e.bind, e.wher + (a.sects.length : Int), e.value⟩ = true) (hw : 0 ≤ e.wher) (ht : a.syms[(globIx e.name a.syms 0).toNat]? = some t) (hs : b.syms[d.toNat]? = some e) (hb : ¬ e.bind = 0) (hg : 0 ≤ globIx e.name a.syms 0) (h0 : 0 ≤ d) : (jnA a b.syms d).syms.set (globIx e.name a.syms 0).toNat ({ name := e.name, bind := e.bind, wher := e.wher + (a.sects.length : Int), value := e.value } : Sym) = (jnA a b.syms (d + 1)).syms := JS_2a (by rw [← tks_sh hw]; exact hk) hw ht hs hb hg h0
theorem JS_4c {a b : Objt} {d : Int} {e t : Sym} (hk : tks t ⟨e.name, e.bind, e.wher + (a.sects.length : Int), e.value⟩ = true) (hw : 0 ≤ e.wher) (ht : a.syms[(globIx e.name a.syms 0).toNat]? = some t) (hs : b.syms[d.toNat]? = some e) (hb : ¬ e.bind = 0) (hg : 0 ≤ globIx e.name a.syms 0) (h0 : 0 ≤ d) : (jnA a b.syms d).nums ++ [globIx e.name a.syms 0] = (jnA a b.syms (d + 1)).nums := JS_2c (by rw [← tks_sh hw]; exact hk) ht hs hb hg h0
theorem JS_5a {a b : Objt} {d : Int} {e t : Sym} (hk : tks t ⟨e.name, e.bind, e.wher + (a.sects.length : Int), e.value⟩ = false) (hw : 0 ≤ e.wher) (ht : a.syms[(globIx e.name a.syms 0).toNat]? = some t) (hs : b.syms[d.toNat]? = some e) (hb : ¬ e.bind = 0) (hg : 0 ≤ globIx e.name a.syms 0) (h0 : 0 ≤ d) : (jnA a b.syms d).syms = (jnA a b.syms (d + 1)).syms := JS_3a (by rw [← tks_sh hw]; exact hk) ht hs hb hg h0
theorem JS_5c {a b : Objt} {d : Int} {e t : Sym} (hk : tks t ⟨e.name, e.bind, e.wher + (a.sects.length : Int), e.value⟩ = false) (hw : 0 ≤ e.wher) (ht : a.syms[(globIx e.name a.syms 0).toNat]? = some t) (hs : b.syms[d.toNat]? = some e) (hb : ¬ e.bind = 0) (hg : 0 ≤ globIx e.name a.syms 0) (h0 : 0 ≤ d) : (jnA a b.syms d).nums ++ [globIx e.name a.syms 0] = (jnA a b.syms (d + 1)).nums := JS_3c (by rw [← tks_sh hw]; exact hk) ht hs hb hg h0
theorem HF_at {ns : List Int} {l : List Sect} {i j : Int} {y : Sect} {c : Bool} (h : (holF ns l i j)[i.toNat]? = some (y, c)) (h0 : 0 ≤ i) (hl : i < l.length) : y = reP ns (sAt l i) j := ((holF_get (sAt_get h0 hl)).1 h).1
theorem HF_1 {g : Sect → Sect} {l : List Sect} {i : Int} (h : i < (holS g l i).length) : i < l.length := by rw [holS_len] at h; exact h
theorem HF_2 {a b : Objt} {g : Sect → Sect} {i : Int} (h : i < (holS g b.sects i).length) (hj : J2 a b) (h0 : 0 ≤ i) : (sAt b.sects i).fixups.length ≤ 6 := JE_6 hj h0 (HF_1 h)
theorem HF_3 {ns : List Int} {l : List Sect} {i j : Int} (h : i < l.length) : i < (holF ns l i j).length := by rw [holF_len]; exact h
theorem HF_4 {ns : List Int} {l : List Sect} {i j : Int} (h : i < l.length) (h0 : 0 ≤ i) : ∃ y, (holF ns l i j)[i.toNat]? = some (y, true) := ⟨_, (holF_get (sAt_get h0 h)).2 ⟨rfl, rfl⟩⟩
theorem HF_5 {ns : List Int} {l : List Sect} {i j : Int} {y z : Sect} (hy : (holF ns l i j)[i.toNat]? = some (y, true)) (h : j < z.fixups.length) (hz : (holF ns l i j)[i.toNat]? = some (z, true)) : j < y.fixups.length := by
 have e : z = y := congrArg Prod.fst (Option.some.inj (hz.symm.trans hy))
 rw [← e]; exact h
theorem HF_6 {ns : List Int} {l : List Sect} {i j : Int} {z : Sect} (h : j < z.fixups.length) (hz : (holF ns l i j)[i.toNat]? = some (z, true)) (h0 : 0 ≤ i) (hl : i < l.length) : j + 1 ≤ (sAt l i).fixups.length := by
 rw [HF_at hz h0 hl] at h
 simp only [reP, midX_len] at h
 omega
theorem HF_to {a b : Objt} {ns : List Int} {i j : Int} {y : Sect} {f : Fixup} (hf : y.fixups[j.toNat]? = some f) (hy : (holF ns b.sects i j)[i.toNat]? = some (y, true)) (hj : J2 a b) (h0 : 0 ≤ i) (h : i < b.sects.length) : 0 ≤ f.to ∧ f.to < b.syms.length := by
 rw [HF_at hy h0 h] at hf
 exact MX_to hf hj h0 h
theorem HF_t0 {a b : Objt} {ns : List Int} {i j : Int} {y : Sect} {f : Fixup} (hf : y.fixups[j.toNat]? = some f) (hy : (holF ns b.sects i j)[i.toNat]? = some (y, true)) (hj : J2 a b) (h0 : 0 ≤ i) (h : i < b.sects.length) : 0 ≤ f.to := (HF_to hf hy hj h0 h).1
theorem HF_t1 {a b : Objt} {i j : Int} {y : Sect} {f : Fixup} (hf : y.fixups[j.toNat]? = some f) (hy : (holF (jnN a b) b.sects i j)[i.toNat]? = some (y, true)) (hj : J2 a b) (h0 : 0 ≤ i) (h : i < b.sects.length) : f.to < (jnN a b).length := by
 rw [jnN, jnF_nums]; exact (HF_to hf hy hj h0 h).2
theorem HF_s {ns : List Int} {l : List Sect} {i j n : Int} {x y : Sect} {f g : Fixup} (hn : ns[f.to.toNat]? = some n) (hf : x.fixups[j.toNat]? = some f) (hx : (holF ns l i j)[i.toNat]? = some (x, true)) (hg : y.fixups[j.toNat]? = some g) (hy : (holF ns l i j)[i.toNat]? = some (y, true)) (h0 : 0 ≤ i) (hl : i < l.length) (hj : 0 ≤ j) :
  (holF ns l i j).set i.toNat (⟨y.name, y.kind, y.align, y.bytes, y.size, y.fixups.set j.toNat ⟨g.at_, g.kind, n, g.add⟩⟩, true) = holF ns l i (j + 1) := by
 have e : x = y := congrArg Prod.fst (Option.some.inj (hx.symm.trans hy))
 subst e
 have e : f = g := Option.some.inj (hf.symm.trans hg)
 subst e
 have e := HF_at hx h0 hl
 subst e
 have hf' : (sAt l i).fixups[j.toNat]? = some f := by
  rw [← midX_get (ns := ns)]; exact hf
 exact holF_set hj (sAt_get h0 hl) hf' hn
theorem HF_o {ns : List Int} {l : List Sect} {i j : Int} {y z : Sect} (hy : (holF ns l i j)[i.toNat]? = some (y, true)) (h : (z.fixups.length : Int) ≤ j) (hz : (holF ns l i j)[i.toNat]? = some (z, true)) (h0 : 0 ≤ i) (hl : i < l.length) : (holF ns l i j).set i.toNat (y, false) = holS (reS ns) l (i + 1) := by
 refine holF_out h0 (sAt_get h0 hl) ?_ (HF_at hy h0 hl)
 rw [HF_at hz h0 hl] at h
 simp only [reP, midX_len] at h
 exact h
theorem HF_a {a b : Objt} {i j : Int} {y z : Sect} (hy : (holF (jnN a b) b.sects i j)[i.toNat]? = some (y, true)) (h : (z.fixups.length : Int) ≤ j) (hz : (holF (jnN a b) b.sects i j)[i.toNat]? = some (z, true)) (h0 : 0 ≤ i) (hl : i < b.sects.length) : a.sects ++ (b.sects.take i.toNat).map (reS (jnN a b)) ++ [y] = a.sects ++ (b.sects.take (i + 1).toNat).map (reS (jnN a b)) := by
 rw [HF_at hy h0 hl]
 rw [HF_at hz h0 hl] at h
 simp only [reP, midX_len] at h
 exact JR_3 h h0 hl
theorem HF_e {g : Sect → Sect} {b : Objt} {i : Int} (h : ((holS g b.sects i).length : Int) ≤ i) : (b.sects.length : Int) ≤ i := by rw [holS_len] at h; exact h
def C_impl_takes : Con := { ps := [.ro (.st .sym), .ro (.st .sym)], out := fun x => let s : Sym := x.1; let t : Sym := x.2.1; vc .bool (tks s t), det := true }
abbrev L_impl_takes : List (Nat × Con) := []
def G_impl_takes : Cfg := GK L_impl_takes
def an_impl_takes : PTL C_impl_takes.ps → Nat → Option Ann := fun _ _ => none
theorem vc_impl_takes (s : Sym) (t : Sym) : (KP Tryz.f32 G_impl_takes C_impl_takes an_impl_takes (s, t, ())) = ((decide (t.bind = 1) = true →
 (decide (s.wher = (- (1 : Int))) = true →
 (decide (t.wher ≠ (- (1 : Int))) = true →
 true = tks s t ∧ True) ∧ (decide (t.wher ≠ (- (1 : Int))) = false →
 (decide (decide (s.wher = (- (1 : Int))) = decide (t.wher = (- (1 : Int)))) = true →
 decide (s.bind ≠ 1) = tks s t ∧ True) ∧ (decide (decide (s.wher = (- (1 : Int))) = decide (t.wher = (- (1 : Int)))) = false →
 false = tks s t ∧ True))) ∧ (decide (s.wher = (- (1 : Int))) = false →
 (decide (decide (s.wher = (- (1 : Int))) = decide (t.wher = (- (1 : Int)))) = true →
 decide (s.bind ≠ 1) = tks s t ∧ True) ∧ (decide (decide (s.wher = (- (1 : Int))) = decide (t.wher = (- (1 : Int)))) = false →
 false = tks s t ∧ True))) ∧ (decide (t.bind = 1) = false →
 (decide (s.wher = (- (1 : Int))) = true →
 (decide (t.wher ≠ (- (1 : Int))) = true →
 true = tks s t ∧ True) ∧ (decide (t.wher ≠ (- (1 : Int))) = false →
 (decide (decide (s.wher = (- (1 : Int))) = decide (t.wher = (- (1 : Int)))) = true →
 false = tks s t ∧ True) ∧ (decide (decide (s.wher = (- (1 : Int))) = decide (t.wher = (- (1 : Int)))) = false →
 false = tks s t ∧ True))) ∧ (decide (s.wher = (- (1 : Int))) = false →
 (decide (decide (s.wher = (- (1 : Int))) = decide (t.wher = (- (1 : Int)))) = true →
 false = tks s t ∧ True) ∧ (decide (decide (s.wher = (- (1 : Int))) = decide (t.wher = (- (1 : Int)))) = false →
 false = tks s t ∧ True)))) := by kernel_rfl
theorem det_impl_takes : C_impl_takes.det = true → ∀ x, (C_impl_takes.out x).Det := fun _ _ => Det.vc'
theorem ok_impl_takes : ConOK Tryz.prog 32 C_impl_takes := by
 refine con_q (l := L_impl_takes) trivial Tryz.func32 rfl (by decide) (by kernel_rfl) rfl an_impl_takes fun x ho hx => ?_
 obtain ⟨s, t, ⟨⟩⟩ := x
 refine Keeps.of (vc_impl_takes s t) ?_
 revert s t ho hx
 show ∀ (s : Sym) (t : Sym), _
 intro s t ho hx
 dsimp only [C_impl_takes, okPTL, okPT, Ok, Ty.cells, SN.cells, OkL, OkC, okI, ci, cb, cs, cl] at ho
 dsimp only [C_impl_takes, vc, v1, decB, SR.pre] at hx
 (try delta i64 LN); simp only [VBt]; (repeat' first | intro _ | apply And.intro); all_goals (try omega); all_goals (try grind [tks])
def C_spec_l16Known : Con := { ps := [.ro (.list (.st .sym)), .ro .str], out := fun x => let l : List (Sym) := x.1; let n : ByteArray := x.2.1; vc .i (globIx n l 0), det := true }
abbrev L_spec_l16Known : List (Nat × Con) := []
def G_spec_l16Known : Cfg := GK L_spec_l16Known
def an_spec_l16Known : PTL C_spec_l16Known.ps → Nat → Option Ann := fun x kk_ => let l : List (Sym) := x.1; let n : ByteArray := x.2.1; if kk_ = 2 then some (.all (Int) fun i => .giv (0 ≤ i ∧ i ≤ l.length ∧ globIx n l 0 = globIx n (l.drop i.toNat) i) (.mk [(5, ai i), (0, al (.st .sym) l), (1, ax n)] [] ((l.length - i.toNat)))) else none
theorem vc_spec_l16Known (l : List (Sym)) (n : ByteArray) : (KP Tryz.f36 G_spec_l16Known C_spec_l16Known an_spec_l16Known (l, n, ())) = ((∃ (a : Int), 0 = a ∧ l = l ∧ n = n ∧ (0 ≤ a ∧ a ≤ LN l ∧ globIx n l 0 = globIx n (l.drop a.toNat) a) ∧ True) ∧ (∀ (b : Int), 0 ≤ b ∧ b ≤ LN l ∧ globIx n l 0 = globIx n (l.drop b.toNat) b →
 l.length ≤ 9223372036854775807 →
 (decide (b < LN l) = true →
 (0 ≤ b ∧ b < LN l) ∧ (∀ (c : Sym), l[b.toNat]? = some c →
 Ok (Ty.st SN.sym) c →
 (decide (c.name = n) = true →
 (0 ≤ b ∧ b < LN l) ∧ (∀ (d : Sym), l[b.toNat]? = some d →
 Ok (Ty.st SN.sym) d →
 (decide (d.bind ≠ 0) = true →
 b = globIx n l 0 ∧ True) ∧ (decide (d.bind ≠ 0) = false →
 i64 (b + 1) ∧ (∃ (e : Int), b + 1 = e ∧ l = l ∧ n = n ∧ (0 ≤ e ∧ e ≤ LN l ∧ globIx n l 0 = globIx n (l.drop e.toNat) e) ∧ l.length - e.toNat < l.length - b.toNat)))) ∧ (decide (c.name = n) = false →
 i64 (b + 1) ∧ (∃ (f : Int), b + 1 = f ∧ l = l ∧ n = n ∧ (0 ≤ f ∧ f ≤ LN l ∧ globIx n l 0 = globIx n (l.drop f.toNat) f) ∧ l.length - f.toNat < l.length - b.toNat)))) ∧ (decide (b < LN l) = false →
 (- (1 : Int)) = globIx n l 0 ∧ True))) := by kernel_rfl
theorem det_spec_l16Known : C_spec_l16Known.det = true → ∀ x, (C_spec_l16Known.out x).Det := fun _ _ => Det.vc'
theorem ok_spec_l16Known : ConOK Tryz.prog 36 C_spec_l16Known := by
 refine con_q (l := L_spec_l16Known) trivial Tryz.func36 rfl (by decide) (by kernel_rfl) rfl an_spec_l16Known fun x ho hx => ?_
 obtain ⟨l, n, ⟨⟩⟩ := x
 refine Keeps.of (vc_spec_l16Known l n) ?_
 revert l n ho hx
 show ∀ (l : List (Sym)) (n : ByteArray), _
 intro l n ho hx
 dsimp only [C_spec_l16Known, okPTL, okPT, Ok, Ty.cells, SN.cells, OkL, OkC, okI, ci, cb, cs, cl] at ho
 dsimp only [C_spec_l16Known, vc, v1, decB, SR.pre] at hx
 (try delta i64 LN); simp only [VBt]; (repeat' first | intro _ | apply And.intro); all_goals (try omega); all_goals (try have hdr := drop_get' (l := l) (by assumption) (by assumption)); all_goals (try grind [globIx, drop_end])
def C_spec_l16Better : Con := { ps := [.ro (.st .sym), .ro (.st .sym)], out := fun x => let s : Sym := x.1; let t : Sym := x.2.1; .req ((s.bind = 1 ∨ s.bind = 2) ∧ (t.bind = 1 ∨ t.bind = 2)) (vc .bool (tks t s)), det := true }
abbrev L_spec_l16Better : List (Nat × Con) := []
def G_spec_l16Better : Cfg := GK L_spec_l16Better
def an_spec_l16Better : PTL C_spec_l16Better.ps → Nat → Option Ann := fun _ _ => none
theorem vc_spec_l16Better (s : Sym) (t : Sym) : (KP Tryz.f37 G_spec_l16Better C_spec_l16Better an_spec_l16Better (s, t, ())) = ((decide (t.wher = (- (1 : Int))) = true →
 (decide (s.wher ≠ (- (1 : Int))) = true →
 true = tks t s ∧ True) ∧ (decide (s.wher ≠ (- (1 : Int))) = false →
 (decide (s.bind = 1) = true →
 decide (t.bind = 2) = tks t s ∧ True) ∧ (decide (s.bind = 1) = false →
 false = tks t s ∧ True))) ∧ (decide (t.wher = (- (1 : Int))) = false →
 (decide (s.wher ≠ (- (1 : Int))) = true →
 (decide (s.bind = 1) = true →
 decide (t.bind = 2) = tks t s ∧ True) ∧ (decide (s.bind = 1) = false →
 false = tks t s ∧ True)) ∧ (decide (s.wher ≠ (- (1 : Int))) = false →
 false = tks t s ∧ True))) := by kernel_rfl
theorem det_spec_l16Better : C_spec_l16Better.det = true → ∀ x, (C_spec_l16Better.out x).Det := fun _ x => by simp only [C_spec_l16Better]; repeat (first | exact Det.ret _ | exact Det.vc' | apply Det.req)
theorem ok_spec_l16Better : ConOK Tryz.prog 37 C_spec_l16Better := by
 refine con_q (l := L_spec_l16Better) trivial Tryz.func37 rfl (by decide) (by kernel_rfl) rfl an_spec_l16Better fun x ho hx => ?_
 obtain ⟨s, t, ⟨⟩⟩ := x
 refine Keeps.of (vc_spec_l16Better s t) ?_
 revert s t ho hx
 show ∀ (s : Sym) (t : Sym), _
 intro s t ho hx
 dsimp only [C_spec_l16Better, okPTL, okPT, Ok, Ty.cells, SN.cells, OkL, OkC, okI, ci, cb, cs, cl] at ho
 dsimp only [C_spec_l16Better, vc, v1, decB, SR.pre] at hx
 (try delta i64 LN); simp only [VBt]; (repeat' first | intro _ | apply And.intro); all_goals (try omega); all_goals (try grind [tks])
def C_impl_JoinObjects : Con := { ps := [.ro (.st .obj), .ro (.st .obj)], out := fun x => let a : Objt := x.1; let b : Objt := x.2.1; newSB .obj (joinV a b) (joinOk a b), det := true }
abbrev L_impl_JoinObjects : List (Nat × Con) := [(14, C_impl_ObjectValid), (29, C_impl_namesTwice), (30, C_impl_copyObject), (31, C_impl_globalOf), (32, C_impl_takes)]
def G_impl_JoinObjects : Cfg := GK L_impl_JoinObjects
def an_impl_JoinObjects : PTL C_impl_JoinObjects.ps → Nat → Option Ann := fun x kk_ => let a : Objt := x.1; let b : Objt := x.2.1; if kk_ = 5 then some (.all (Int) fun i => .giv (J2 a b ∧ 0 ≤ i ∧ i ≤ b.syms.length) (.mk [(38, ai i), (36, al (.st .sym) b.syms), (37, ai b.syms.length), (6, aref 31), (7, asl 34), (4, aref 30), (2, aref 62), (3, aref 63)] [(30, .box false [.nil, .nil]), (31, .box false [.sl 32 [], .sl 33 []]), (32, .row none (.st .sect) a.sects true), (33, .row none (.st .sym) (jnA a b.syms i).syms true), (34, .row (some 3) .i (jnA a b.syms i).nums true), (62, bx (ast .obj a)), (63, bx (ast .obj b))] ((b.syms.length - i.toNat)))) else if kk_ = 19 then some (.all (Int) fun i => .giv (J2 a b ∧ 0 ≤ i ∧ i ≤ b.sects.length) (.mk [(97, ai i), (95, asl 36), (96, ai b.sects.length), (6, aref 31), (7, asl 34), (4, aref 30)] [(30, .box false [.nil, .nil]), (31, .box false [.sl 32 [], .sl 33 []]), (32, .row none (.st .sect) (a.sects ++ (b.sects.take i.toNat).map (reS (jnN a b))) true), (33, .row none (.st .sym) (jnF a b.syms).syms true), (34, .row (some 3) .i (jnN a b) true), (36, .row none (.hol .sect) (holS id b.sects i) true)] ((b.sects.length - i.toNat)))) else if kk_ = 2022 then some (.all (Int) fun i => .all (Int) fun j => .giv (J2 a b ∧ 0 ≤ i ∧ i < b.sects.length ∧ (sAt b.sects i).fixups.length ≤ 6 ∧ 0 ≤ j ∧ j ≤ (sAt b.sects i).fixups.length) (.mk [(97, ai i), (104, ai j), (95, asl 36), (96, ai b.sects.length), (103, ai (sAt b.sects i).fixups.length), (13, aref 35), (6, aref 31), (7, asl 34), (4, aref 30)] [(30, .box false [.nil, .nil]), (31, .box false [.sl 32 [], .sl 33 []]), (32, .row none (.st .sect) (a.sects ++ (b.sects.take i.toNat).map (reS (jnN a b))) true), (33, .row none (.st .sym) (jnF a b.syms).syms true), (34, .row (some 3) .i (jnN a b) true), (35, .box false [.c (cs (sAt b.sects i).name), .c (ci (sAt b.sects i).kind), .c (ci (sAt b.sects i).align), .sl 37 [], .c (ci (sAt b.sects i).size), .sl 38 []]), (36, .row none (.hol .sect) (holS id b.sects (i + 1)) true), (37, .row none .u (sAt b.sects i).bytes true), (38, .row none (.st .fixup) (midX (jnN a b) (sAt b.sects i).fixups j) true)] ((b.sects.length - i.toNat) * 1000 + (100 - j).toNat))) else none
theorem vc_impl_JoinObjects (a : Objt) (b : Objt) : (KP Tryz.f7 G_impl_JoinObjects C_impl_JoinObjects an_impl_JoinObjects (a, b, ())) = ((Bool.not (objB a) = true →
 false = joinOk a b ∧ ([] : List Sect) = (joinV a b).sects ∧ ([] : List Sym) = (joinV a b).syms ∧ True) ∧ (Bool.not (objB a) = false →
 (Bool.not (objB b) = true →
 false = joinOk a b ∧ ([] : List Sect) = (joinV a b).sects ∧ ([] : List Sym) = (joinV a b).syms ∧ True) ∧ (Bool.not (objB b) = false →
 (Bool.and (objB a) (Bool.and (objB b) true) = true ∧ [a, b].length ≤ 1000) ∧ ((nTw [a, b]).length ≤ 9223372036854775807 →
 (decide (0 < LN (nTw [a, b])) = true →
 false = joinOk a b ∧ ([] : List Sect) = (joinV a b).sects ∧ ([] : List Sym) = (joinV a b).syms ∧ True) ∧ (decide (0 < LN (nTw [a, b])) = false →
 szOb a ≤ 1048576 ∧ (b.syms.length ≤ 9223372036854775807 →
 (∃ (c : Int), 0 = c ∧ b.syms = b.syms ∧ LN b.syms = LN b.syms ∧ a.sects = a.sects ∧ a.syms = (jnA a b.syms c).syms ∧ ([] : List Int) = (jnA a b.syms c).nums ∧ a.sects = a.sects ∧ a.syms = a.syms ∧ b.sects = b.sects ∧ b.syms = b.syms ∧ (J2 a b ∧ 0 ≤ c ∧ c ≤ LN b.syms) ∧ True) ∧ (∀ (d : Int), J2 a b ∧ 0 ≤ d ∧ d ≤ LN b.syms →
 (decide (d < LN b.syms) = true →
 (0 ≤ d ∧ d < LN b.syms) ∧ (∀ (e : Sym), b.syms[d.toNat]? = some e →
 Ok (Ty.st SN.sym) e →
 (decide (0 ≤ e.wher) = true →
 a.sects.length ≤ 9223372036854775807 →
 i64 (e.wher + LN a.sects) ∧ (decide (e.bind = 0) = true →
 (jnA a b.syms d).syms.length ≤ 9223372036854775807 →
 (((jnA a b.syms d).syms.length + [Sym.mk e.name e.bind (e.wher + LN a.sects) e.value].length) * 40 ≤ 140737488355328 ∧ (jnA a b.syms d).syms.length + [Sym.mk e.name e.bind (e.wher + LN a.sects) e.value].length ≤ 1000000000000) ∧ (((jnA a b.syms d).nums.length + [LN (jnA a b.syms d).syms].length) * 8 ≤ 140737488355328 ∧ (jnA a b.syms d).nums.length + [LN (jnA a b.syms d).syms].length ≤ 1000000000000) ∧ i64 (d + 1) ∧ (∃ (f : Int), d + 1 = f ∧ b.syms = b.syms ∧ LN b.syms = LN b.syms ∧ a.sects = a.sects ∧ (jnA a b.syms d).syms ++ [Sym.mk e.name e.bind (e.wher + LN a.sects) e.value] = (jnA a b.syms f).syms ∧ (jnA a b.syms d).nums ++ [LN (jnA a b.syms d).syms] = (jnA a b.syms f).nums ∧ a.sects = a.sects ∧ a.syms = a.syms ∧ b.sects = b.sects ∧ b.syms = b.syms ∧ (J2 a b ∧ 0 ≤ f ∧ f ≤ LN b.syms) ∧ b.syms.length - f.toNat < b.syms.length - d.toNat)) ∧ (decide (e.bind = 0) = false →
 (decide (globIx e.name a.syms 0 < 0) = true →
 (jnA a b.syms d).syms.length ≤ 9223372036854775807 →
 (((jnA a b.syms d).syms.length + [Sym.mk e.name e.bind (e.wher + LN a.sects) e.value].length) * 40 ≤ 140737488355328 ∧ (jnA a b.syms d).syms.length + [Sym.mk e.name e.bind (e.wher + LN a.sects) e.value].length ≤ 1000000000000) ∧ (((jnA a b.syms d).nums.length + [LN (jnA a b.syms d).syms].length) * 8 ≤ 140737488355328 ∧ (jnA a b.syms d).nums.length + [LN (jnA a b.syms d).syms].length ≤ 1000000000000) ∧ i64 (d + 1) ∧ (∃ (g : Int), d + 1 = g ∧ b.syms = b.syms ∧ LN b.syms = LN b.syms ∧ a.sects = a.sects ∧ (jnA a b.syms d).syms ++ [Sym.mk e.name e.bind (e.wher + LN a.sects) e.value] = (jnA a b.syms g).syms ∧ (jnA a b.syms d).nums ++ [LN (jnA a b.syms d).syms] = (jnA a b.syms g).nums ∧ a.sects = a.sects ∧ a.syms = a.syms ∧ b.sects = b.sects ∧ b.syms = b.syms ∧ (J2 a b ∧ 0 ≤ g ∧ g ≤ LN b.syms) ∧ b.syms.length - g.toNat < b.syms.length - d.toNat)) ∧ (decide (globIx e.name a.syms 0 < 0) = false →
 (0 ≤ globIx e.name a.syms 0 ∧ globIx e.name a.syms 0 < LN a.syms) ∧ (∀ (h : Sym), a.syms[(globIx e.name a.syms 0).toNat]? = some h →
 Ok (Ty.st SN.sym) h →
 (tks h e = true →
 (0 ≤ globIx e.name a.syms 0 ∧ globIx e.name a.syms 0 < LN (jnA a b.syms d).syms) ∧ (∀ (i : Sym), (jnA a b.syms d).syms[(globIx e.name a.syms 0).toNat]? = some i →
 (((jnA a b.syms d).nums.length + [globIx e.name a.syms 0].length) * 8 ≤ 140737488355328 ∧ (jnA a b.syms d).nums.length + [globIx e.name a.syms 0].length ≤ 1000000000000) ∧ i64 (d + 1) ∧ (∃ (j : Int), d + 1 = j ∧ b.syms = b.syms ∧ LN b.syms = LN b.syms ∧ a.sects = a.sects ∧ (jnA a b.syms d).syms.set (globIx e.name a.syms 0).toNat (Sym.mk e.name e.bind (e.wher + LN a.sects) e.value) = (jnA a b.syms j).syms ∧ (jnA a b.syms d).nums ++ [globIx e.name a.syms 0] = (jnA a b.syms j).nums ∧ a.sects = a.sects ∧ a.syms = a.syms ∧ b.sects = b.sects ∧ b.syms = b.syms ∧ (J2 a b ∧ 0 ≤ j ∧ j ≤ LN b.syms) ∧ b.syms.length - j.toNat < b.syms.length - d.toNat))) ∧ (tks h e = false →
 (((jnA a b.syms d).nums.length + [globIx e.name a.syms 0].length) * 8 ≤ 140737488355328 ∧ (jnA a b.syms d).nums.length + [globIx e.name a.syms 0].length ≤ 1000000000000) ∧ i64 (d + 1) ∧ (∃ (k : Int), d + 1 = k ∧ b.syms = b.syms ∧ LN b.syms = LN b.syms ∧ a.sects = a.sects ∧ (jnA a b.syms d).syms = (jnA a b.syms k).syms ∧ (jnA a b.syms d).nums ++ [globIx e.name a.syms 0] = (jnA a b.syms k).nums ∧ a.sects = a.sects ∧ a.syms = a.syms ∧ b.sects = b.sects ∧ b.syms = b.syms ∧ (J2 a b ∧ 0 ≤ k ∧ k ≤ LN b.syms) ∧ b.syms.length - k.toNat < b.syms.length - d.toNat)))))) ∧ (decide (0 ≤ e.wher) = false →
 (decide (e.bind = 0) = true →
 (jnA a b.syms d).syms.length ≤ 9223372036854775807 →
 (((jnA a b.syms d).syms.length + [e].length) * 40 ≤ 140737488355328 ∧ (jnA a b.syms d).syms.length + [e].length ≤ 1000000000000) ∧ (((jnA a b.syms d).nums.length + [LN (jnA a b.syms d).syms].length) * 8 ≤ 140737488355328 ∧ (jnA a b.syms d).nums.length + [LN (jnA a b.syms d).syms].length ≤ 1000000000000) ∧ i64 (d + 1) ∧ (∃ (l : Int), d + 1 = l ∧ b.syms = b.syms ∧ LN b.syms = LN b.syms ∧ a.sects = a.sects ∧ (jnA a b.syms d).syms ++ [e] = (jnA a b.syms l).syms ∧ (jnA a b.syms d).nums ++ [LN (jnA a b.syms d).syms] = (jnA a b.syms l).nums ∧ a.sects = a.sects ∧ a.syms = a.syms ∧ b.sects = b.sects ∧ b.syms = b.syms ∧ (J2 a b ∧ 0 ≤ l ∧ l ≤ LN b.syms) ∧ b.syms.length - l.toNat < b.syms.length - d.toNat)) ∧ (decide (e.bind = 0) = false →
 (decide (globIx e.name a.syms 0 < 0) = true →
 (jnA a b.syms d).syms.length ≤ 9223372036854775807 →
 (((jnA a b.syms d).syms.length + [e].length) * 40 ≤ 140737488355328 ∧ (jnA a b.syms d).syms.length + [e].length ≤ 1000000000000) ∧ (((jnA a b.syms d).nums.length + [LN (jnA a b.syms d).syms].length) * 8 ≤ 140737488355328 ∧ (jnA a b.syms d).nums.length + [LN (jnA a b.syms d).syms].length ≤ 1000000000000) ∧ i64 (d + 1) ∧ (∃ (m : Int), d + 1 = m ∧ b.syms = b.syms ∧ LN b.syms = LN b.syms ∧ a.sects = a.sects ∧ (jnA a b.syms d).syms ++ [e] = (jnA a b.syms m).syms ∧ (jnA a b.syms d).nums ++ [LN (jnA a b.syms d).syms] = (jnA a b.syms m).nums ∧ a.sects = a.sects ∧ a.syms = a.syms ∧ b.sects = b.sects ∧ b.syms = b.syms ∧ (J2 a b ∧ 0 ≤ m ∧ m ≤ LN b.syms) ∧ b.syms.length - m.toNat < b.syms.length - d.toNat)) ∧ (decide (globIx e.name a.syms 0 < 0) = false →
 (0 ≤ globIx e.name a.syms 0 ∧ globIx e.name a.syms 0 < LN a.syms) ∧ (∀ (n : Sym), a.syms[(globIx e.name a.syms 0).toNat]? = some n →
 Ok (Ty.st SN.sym) n →
 (tks n e = true →
 (0 ≤ globIx e.name a.syms 0 ∧ globIx e.name a.syms 0 < LN (jnA a b.syms d).syms) ∧ (∀ (o : Sym), (jnA a b.syms d).syms[(globIx e.name a.syms 0).toNat]? = some o →
 (((jnA a b.syms d).nums.length + [globIx e.name a.syms 0].length) * 8 ≤ 140737488355328 ∧ (jnA a b.syms d).nums.length + [globIx e.name a.syms 0].length ≤ 1000000000000) ∧ i64 (d + 1) ∧ (∃ (p : Int), d + 1 = p ∧ b.syms = b.syms ∧ LN b.syms = LN b.syms ∧ a.sects = a.sects ∧ (jnA a b.syms d).syms.set (globIx e.name a.syms 0).toNat e = (jnA a b.syms p).syms ∧ (jnA a b.syms d).nums ++ [globIx e.name a.syms 0] = (jnA a b.syms p).nums ∧ a.sects = a.sects ∧ a.syms = a.syms ∧ b.sects = b.sects ∧ b.syms = b.syms ∧ (J2 a b ∧ 0 ≤ p ∧ p ≤ LN b.syms) ∧ b.syms.length - p.toNat < b.syms.length - d.toNat))) ∧ (tks n e = false →
 (((jnA a b.syms d).nums.length + [globIx e.name a.syms 0].length) * 8 ≤ 140737488355328 ∧ (jnA a b.syms d).nums.length + [globIx e.name a.syms 0].length ≤ 1000000000000) ∧ i64 (d + 1) ∧ (∃ (q : Int), d + 1 = q ∧ b.syms = b.syms ∧ LN b.syms = LN b.syms ∧ a.sects = a.sects ∧ (jnA a b.syms d).syms = (jnA a b.syms q).syms ∧ (jnA a b.syms d).nums ++ [globIx e.name a.syms 0] = (jnA a b.syms q).nums ∧ a.sects = a.sects ∧ a.syms = a.syms ∧ b.sects = b.sects ∧ b.syms = b.syms ∧ (J2 a b ∧ 0 ≤ q ∧ q ≤ LN b.syms) ∧ b.syms.length - q.toNat < b.syms.length - d.toNat)))))))) ∧ (decide (d < LN b.syms) = false →
 szOb b ≤ 1048576 ∧ (b.sects.length ≤ 9223372036854775807 →
 (∃ (r : Int), 0 = r ∧ LN b.sects = LN b.sects ∧ a.sects = a.sects ++ @List.map Sect Sect (reS (jnN a b)) (b.sects.take r.toNat) ∧ (jnA a b.syms d).syms = (jnF a b.syms).syms ∧ (jnA a b.syms d).nums = jnN a b ∧ @List.map Sect (Prod Sect Bool) (fun (s : Sect) => @Prod.mk Sect Bool s true) b.sects = holS (fun (t : Sect) => t) b.sects r ∧ (J2 a b ∧ 0 ≤ r ∧ r ≤ LN b.sects) ∧ True) ∧ (∀ (u : Int), J2 a b ∧ 0 ≤ u ∧ u ≤ LN b.sects →
 (decide (u < LN b.sects) = true →
 (0 ≤ u ∧ u < LN (holS (fun (v : Sect) => v) b.sects u)) ∧ (∃ (w : Sect), (holS (fun (x : Sect) => x) b.sects u)[u.toNat]? = some (@Prod.mk Sect Bool w true)) ∧ (∀ (y : Sect), (holS (fun (z : Sect) => z) b.sects u)[u.toNat]? = some (@Prod.mk Sect Bool y true) →
 Ok (Ty.st SN.sect) y →
 y.fixups.length ≤ 9223372036854775807 →
 (∃ (A : Int), (∃ (B : Int), u = A ∧ 0 = B ∧ LN b.sects = LN b.sects ∧ LN y.fixups = LN (sAt b.sects A).fixups ∧ a.sects ++ @List.map Sect Sect (reS (jnN a b)) (b.sects.take u.toNat) = a.sects ++ @List.map Sect Sect (reS (jnN a b)) (b.sects.take A.toNat) ∧ (jnF a b.syms).syms = (jnF a b.syms).syms ∧ jnN a b = jnN a b ∧ y.name = (sAt b.sects A).name ∧ y.kind = (sAt b.sects A).kind ∧ y.align = (sAt b.sects A).align ∧ y.size = (sAt b.sects A).size ∧ (holS (fun (C : Sect) => C) b.sects u).set u.toNat (@Prod.mk Sect Bool y false) = holS (fun (D : Sect) => D) b.sects (A + 1) ∧ y.bytes = (sAt b.sects A).bytes ∧ y.fixups = midX (jnN a b) (sAt b.sects A).fixups B ∧ (J2 a b ∧ 0 ≤ A ∧ A < LN b.sects ∧ (sAt b.sects A).fixups.length ≤ 6 ∧ 0 ≤ B ∧ B ≤ LN (sAt b.sects A).fixups) ∧ (∀ (E : Int), (∀ (F : Int), J2 a b ∧ 0 ≤ E ∧ E < LN b.sects ∧ (sAt b.sects E).fixups.length ≤ 6 ∧ 0 ≤ F ∧ F ≤ LN (sAt b.sects E).fixups →
 (b.sects.length - E.toNat) * 1000 + (100 - F).toNat ≤ (b.sects.length - A.toNat) * 1000 + (100 - B).toNat →
 (decide (F < LN (sAt b.sects E).fixups) = true →
 (0 ≤ F ∧ F < LN (midX (jnN a b) (sAt b.sects E).fixups F)) ∧ (∀ (G : Fixup), (midX (jnN a b) (sAt b.sects E).fixups F)[F.toNat]? = some G →
 Ok (Ty.st SN.fixup) G →
 (0 ≤ G.to ∧ G.to < LN (jnN a b)) ∧ (∀ (H : Int), (jnN a b)[G.to.toNat]? = some H →
 Ok (Ty.int IntKind.i64) H →
 (0 ≤ F ∧ F < LN (midX (jnN a b) (sAt b.sects E).fixups F)) ∧ (∀ (I : Fixup), (midX (jnN a b) (sAt b.sects E).fixups F)[F.toNat]? = some I →
 i64 (F + 1) ∧ (∃ (J : Int), (∃ (K : Int), E = J ∧ F + 1 = K ∧ LN b.sects = LN b.sects ∧ LN (sAt b.sects E).fixups = LN (sAt b.sects J).fixups ∧ a.sects ++ @List.map Sect Sect (reS (jnN a b)) (b.sects.take E.toNat) = a.sects ++ @List.map Sect Sect (reS (jnN a b)) (b.sects.take J.toNat) ∧ (jnF a b.syms).syms = (jnF a b.syms).syms ∧ jnN a b = jnN a b ∧ (sAt b.sects E).name = (sAt b.sects J).name ∧ (sAt b.sects E).kind = (sAt b.sects J).kind ∧ (sAt b.sects E).align = (sAt b.sects J).align ∧ (sAt b.sects E).size = (sAt b.sects J).size ∧ holS (fun (L : Sect) => L) b.sects (E + 1) = holS (fun (M : Sect) => M) b.sects (J + 1) ∧ (sAt b.sects E).bytes = (sAt b.sects J).bytes ∧ (midX (jnN a b) (sAt b.sects E).fixups F).set F.toNat (Fixup.mk I.at_ I.kind H I.add) = midX (jnN a b) (sAt b.sects J).fixups K ∧ (J2 a b ∧ 0 ≤ J ∧ J < LN b.sects ∧ (sAt b.sects J).fixups.length ≤ 6 ∧ 0 ≤ K ∧ K ≤ LN (sAt b.sects J).fixups) ∧ (b.sects.length - J.toNat) * 1000 + (100 - K).toNat < (b.sects.length - E.toNat) * 1000 + (100 - F).toNat)))))) ∧ (decide (F < LN (sAt b.sects E).fixups) = false →
 (((a.sects ++ @List.map Sect Sect (reS (jnN a b)) (b.sects.take E.toNat)).length + [Sect.mk (sAt b.sects E).name (sAt b.sects E).kind (sAt b.sects E).align (sAt b.sects E).bytes (sAt b.sects E).size (midX (jnN a b) (sAt b.sects E).fixups F)].length) * 88 ≤ 140737488355328 ∧ (a.sects ++ @List.map Sect Sect (reS (jnN a b)) (b.sects.take E.toNat)).length + [Sect.mk (sAt b.sects E).name (sAt b.sects E).kind (sAt b.sects E).align (sAt b.sects E).bytes (sAt b.sects E).size (midX (jnN a b) (sAt b.sects E).fixups F)].length ≤ 1000000000000) ∧ i64 (E + 1) ∧ (∃ (N : Int), E + 1 = N ∧ LN b.sects = LN b.sects ∧ a.sects ++ @List.map Sect Sect (reS (jnN a b)) (b.sects.take E.toNat) ++ [Sect.mk (sAt b.sects E).name (sAt b.sects E).kind (sAt b.sects E).align (sAt b.sects E).bytes (sAt b.sects E).size (midX (jnN a b) (sAt b.sects E).fixups F)] = a.sects ++ @List.map Sect Sect (reS (jnN a b)) (b.sects.take N.toNat) ∧ (jnF a b.syms).syms = (jnF a b.syms).syms ∧ jnN a b = jnN a b ∧ holS (fun (O : Sect) => O) b.sects (E + 1) = holS (fun (P : Sect) => P) b.sects N ∧ (J2 a b ∧ 0 ≤ N ∧ N ≤ LN b.sects) ∧ b.sects.length - N.toNat < b.sects.length - u.toNat)))))))) ∧ (decide (u < LN b.sects) = false →
 (Bool.not (objB (Objt.mk (a.sects ++ @List.map Sect Sect (reS (jnN a b)) (b.sects.take u.toNat)) (jnF a b.syms).syms)) = true →
 false = joinOk a b ∧ ([] : List Sect) = (joinV a b).sects ∧ ([] : List Sym) = (joinV a b).syms ∧ True) ∧ (Bool.not (objB (Objt.mk (a.sects ++ @List.map Sect Sect (reS (jnN a b)) (b.sects.take u.toNat)) (jnF a b.syms).syms)) = false →
 true = joinOk a b ∧ a.sects ++ @List.map Sect Sect (reS (jnN a b)) (b.sects.take u.toNat) = (joinV a b).sects ∧ (jnF a b.syms).syms = (joinV a b).syms ∧ True)))))))))))) := by kernel_rfl
theorem det_impl_JoinObjects : C_impl_JoinObjects.det = true → ∀ x, (C_impl_JoinObjects.out x).Det := fun _ _ => Det.ret _
theorem ok_impl_JoinObjects : ConOK Tryz.prog 7 C_impl_JoinObjects := by
 refine con_q (l := L_impl_JoinObjects) ⟨⟨ok_impl_ObjectValid, det_impl_ObjectValid⟩, ⟨⟨ok_impl_namesTwice, det_impl_namesTwice⟩, ⟨⟨ok_impl_copyObject, det_impl_copyObject⟩, ⟨⟨ok_impl_globalOf, det_impl_globalOf⟩, ⟨⟨ok_impl_takes, det_impl_takes⟩, trivial⟩⟩⟩⟩⟩ Tryz.func7 rfl (by decide) (by kernel_rfl) rfl an_impl_JoinObjects fun x ho hx => ?_
 obtain ⟨a, b, ⟨⟩⟩ := x
 refine Keeps.of (vc_impl_JoinObjects a b) ?_
 revert a b ho hx
 show ∀ (a : Objt) (b : Objt), _
 intro a b ho hx
 dsimp only [C_impl_JoinObjects, okPTL, okPT, Ok, Ty.cells, SN.cells, OkL, OkC, okI, ci, cb, cs, cl] at ho
 dsimp only [C_impl_JoinObjects, vc, v1, decB, SR.pre] at hx
 (try delta i64 LN); simp only [VBt]; (repeat' first | intro _ | apply And.intro); all_goals (try omega)
 all_goals (first | omega | (with_reducible first | exact JE_f1 (by assumption) (HF_e (by assumption)) (by assumption) | exact JE_f2 (by assumption) (HF_e (by assumption)) (by assumption) | exact JE_f3 (by assumption) (HF_e (by assumption)) (by assumption) | exact JE_t1 (by assumption) (HF_e (by assumption)) (by assumption) | exact JE_t2 (by assumption) (HF_e (by assumption)) (by assumption) | exact JE_t3 (by assumption) (HF_e (by assumption)) (by assumption) | exact JU_1 (by assumption) (by assumption) (by assumption) | exact JU_2 (by assumption) (by assumption) (by assumption) | exact JU_3 (by assumption) (by assumption) (by assumption) | exact JU_4 (by assumption) (by assumption) (by assumption) | exact JB_s (by assumption) (by assumption) (by assumption) | exact JB_h (by assumption) (by assumption) (by assumption) | exact JS_4a (by assumption) (by assumption) (by assumption) (by assumption) (by assumption) (by assumption) (by assumption) | exact JS_4c (by assumption) (by assumption) (by assumption) (by assumption) (by assumption) (by assumption) (by assumption) | exact JS_5a (by assumption) (by assumption) (by assumption) (by assumption) (by assumption) (by assumption) (by assumption) | exact JS_5c (by assumption) (by assumption) (by assumption) (by assumption) (by assumption) (by assumption) (by assumption) | exact holF_zero | exact HF_1 (by assumption) | exact HF_2 (by assumption) (by assumption) (by assumption) | exact HF_3 (by assumption) | exact HF_4 (by assumption) (by assumption) | exact HF_5 (by assumption) (by assumption) (by assumption) | exact HF_6 (by assumption) (by assumption) (by assumption) (by assumption) | exact HF_t0 (by assumption) (by assumption) (by assumption) (by assumption) (by assumption) | exact HF_t1 (by assumption) (by assumption) (by assumption) (by assumption) (by assumption) | exact HF_s (by assumption) (by assumption) (by assumption) (by assumption) (by assumption) (by assumption) (by assumption) (by assumption) | exact HF_o (by assumption) (by assumption) (by assumption) (by assumption) (by assumption) | exact HF_a (by assumption) (by assumption) (by assumption) (by assumption) (by assumption) | exact MX_l (by assumption) | exact MX_t0 (by assumption) (by assumption) (by assumption) (by assumption) | exact MX_t1 (by assumption) (by assumption) (by assumption) (by assumption) | exact MX_set (by assumption) (by assumption) (by assumption) (by assumption) | exact JR_1 (by assumption) | exact JR_2 (by assumption) | exact JR_3 (by assumption) (by assumption) (by assumption) | exact HS_n (by assumption) | exact HS_k (by assumption) | exact HS_a (by assumption) | exact HS_s (by assumption) | exact HS_b (by assumption) | exact HS_f (by assumption) | exact HS_l (by assumption) | exact HS_i (by assumption) | exact HS_e (by assumption) (by assumption) | exact HS_x (by assumption) (by assumption) | exact holS_zero | exact JE_0 | exact JE_1 (by assumption) | exact JE_2 (by assumption) | exact JE_f1 (by assumption) (by assumption) (by assumption) | exact JE_f2 (by assumption) (by assumption) (by assumption) | exact JE_f3 (by assumption) (by assumption) (by assumption) | exact JE_t1 (by assumption) (by assumption) (by assumption) | exact JE_t2 (by assumption) (by assumption) (by assumption) | exact JE_t3 (by assumption) (by assumption) (by assumption) | exact JE_6 (by assumption) (by assumption) (by assumption) | exact JA_1 (by assumption) | exact JA_2 (by assumption) | exact JA_3 (by assumption) | exact JB_1 (by assumption) | exact JB_2 (by assumption) | exact JB_3 (by assumption) | exact JT_1 (by assumption) | exact JT_2 (by assumption) | exact JT_3 (by assumption) | exact JX_1 (by assumption) (by assumption) | exact JZ_1 | exact JZ_2 | exact J2.mk (by assumption) (by assumption) (by assumption) | exact JL_1 (by assumption) | exact JL_2 (by assumption) | exact JL_3 (by assumption) | exact JL_4 (by assumption) | exact JW_1 (by assumption) (by assumption) | exact JS_0a (by assumption) (by assumption) (by assumption) (by assumption) | exact JS_0b (by assumption) (by assumption) (by assumption) (by assumption) | exact JS_0c (by assumption) (by assumption) (by assumption) | exact JS_1a (by assumption) (by assumption) (by assumption) (by assumption) | exact JS_1b (by assumption) (by assumption) (by assumption) (by assumption) | exact JS_1c (by assumption) (by assumption) (by assumption) | exact JS_2a (by assumption) (by assumption) (by assumption) (by assumption) (by assumption) (by assumption) (by assumption) | exact JS_2b (by assumption) (by assumption) (by assumption) (by assumption) (by assumption) (by assumption) (by assumption) | exact JS_2c (by assumption) (by assumption) (by assumption) (by assumption) (by assumption) (by assumption) | exact JS_3a (by assumption) (by assumption) (by assumption) (by assumption) (by assumption) (by assumption) | exact JS_3c (by assumption) (by assumption) (by assumption) (by assumption) (by assumption) (by assumption) | exact JG_1 (by assumption) | exact JG_2 (by assumption) (by assumption)) | (have := objB_sz (o := a) (by assumption); omega) | (have := objB_sz (o := b) (by assumption); omega) | skip)
def C_spec_JoinObjects : Con := { ps := [.ro (.st .obj), .ro (.st .obj)], out := fun x => let a : Objt := x.1; let b : Objt := x.2.1; newSB .obj (joinV a b) (joinOk a b), det := true }
abbrev L_spec_JoinObjects : List (Nat × Con) := [(33, C_spec_ObjectValid), (34, C_spec_NamesTwice), (35, C_spec_l4Copy), (36, C_spec_l16Known), (37, C_spec_l16Better)]
def G_spec_JoinObjects : Cfg := GK L_spec_JoinObjects
def an_spec_JoinObjects : PTL C_spec_JoinObjects.ps → Nat → Option Ann := fun x kk_ => let a : Objt := x.1; let b : Objt := x.2.1; if kk_ = 7 then some (.all (Int) fun i => .giv (J2 a b ∧ 0 ≤ i ∧ i ≤ b.syms.length) (.mk [(9, ai i), (6, aref 31), (7, aref 39), (8, asl 34), (4, aref 30), (2, aref 62)] [(30, .box false [.nil, .nil]), (31, .box false [.sl 32 [], .sl 33 []]), (32, .row none (.st .sect) a.sects true), (33, .row none (.st .sym) (jnA a b.syms i).syms true), (34, .row (some 3) .i (jnA a b.syms i).nums true), (39, .box false [.sl 36 [], .sl 40 []]), (36, .row none (.st .sect) b.sects true), (40, .row none (.st .sym) b.syms true), (62, bx (ast .obj a))] ((b.syms.length - i.toNat)))) else if kk_ = 20 then some (.all (Int) fun i => .giv (J2 a b ∧ 0 ≤ i ∧ i ≤ b.sects.length) (.mk [(12, ai i), (6, aref 31), (7, aref 39), (8, asl 34), (4, aref 30)] [(30, .box false [.nil, .nil]), (31, .box false [.sl 32 [], .sl 33 []]), (32, .row none (.st .sect) (a.sects ++ (b.sects.take i.toNat).map (reS (jnN a b))) true), (33, .row none (.st .sym) (jnF a b.syms).syms true), (34, .row (some 3) .i (jnN a b) true), (39, .box false [.sl 36 [], .sl 40 []]), (36, .row none (.hol .sect) (holS (reS (jnN a b)) b.sects i) true), (40, .row none (.st .sym) b.syms true)] ((b.sects.length - i.toNat)))) else if kk_ = 2023 then some (.all (Int) fun i => .all (Int) fun j => .giv (J2 a b ∧ 0 ≤ i ∧ i < b.sects.length ∧ (sAt b.sects i).fixups.length ≤ 6 ∧ 0 ≤ j ∧ j ≤ (sAt b.sects i).fixups.length) (.mk [(12, ai i), (13, ai j), (6, aref 31), (7, aref 39), (8, asl 34), (4, aref 30)] [(30, .box false [.nil, .nil]), (31, .box false [.sl 32 [], .sl 33 []]), (32, .row none (.st .sect) (a.sects ++ (b.sects.take i.toNat).map (reS (jnN a b))) true), (33, .row none (.st .sym) (jnF a b.syms).syms true), (34, .row (some 3) .i (jnN a b) true), (39, .box false [.sl 36 [], .sl 40 []]), (36, .row none (.hol .sect) (holF (jnN a b) b.sects i j) true), (40, .row none (.st .sym) b.syms true)] ((b.sects.length - i.toNat) * 1000 + (100 - j).toNat))) else none
theorem vc_spec_JoinObjects (a : Objt) (b : Objt) : (KP Tryz.f8 G_spec_JoinObjects C_spec_JoinObjects an_spec_JoinObjects (a, b, ())) = ((Bool.not (objB a) = true →
 false = joinOk a b ∧ ([] : List Sect) = (joinV a b).sects ∧ ([] : List Sym) = (joinV a b).syms ∧ True) ∧ (Bool.not (objB a) = false →
 (Bool.not (objB b) = true →
 false = joinOk a b ∧ ([] : List Sect) = (joinV a b).sects ∧ ([] : List Sym) = (joinV a b).syms ∧ True) ∧ (Bool.not (objB b) = false →
 (namesT [a, b]).length ≤ 9223372036854775807 →
 (decide (0 < LN (namesT [a, b])) = true →
 false = joinOk a b ∧ ([] : List Sect) = (joinV a b).sects ∧ ([] : List Sym) = (joinV a b).syms ∧ True) ∧ (decide (0 < LN (namesT [a, b])) = false →
 szOb a ≤ 1048576 ∧ szOb b ≤ 1048576 ∧ (∃ (c : Int), 0 = c ∧ a.sects = a.sects ∧ a.syms = (jnA a b.syms c).syms ∧ ([] : List Int) = (jnA a b.syms c).nums ∧ b.sects = b.sects ∧ b.syms = b.syms ∧ a.sects = a.sects ∧ a.syms = a.syms ∧ (J2 a b ∧ 0 ≤ c ∧ c ≤ LN b.syms) ∧ True) ∧ (∀ (d : Int), J2 a b ∧ 0 ≤ d ∧ d ≤ LN b.syms →
 b.syms.length ≤ 9223372036854775807 →
 (decide (d < LN b.syms) = true →
 (0 ≤ d ∧ d < LN b.syms) ∧ (∀ (e : Sym), b.syms[d.toNat]? = some e →
 Ok (Ty.st SN.sym) e →
 (decide (0 ≤ e.wher) = true →
 a.sects.length ≤ 9223372036854775807 →
 i64 (e.wher + LN a.sects) ∧ (decide (e.bind = 0) = true →
 (jnA a b.syms d).syms.length ≤ 9223372036854775807 →
 (((jnA a b.syms d).nums.length + [LN (jnA a b.syms d).syms].length) * 8 ≤ 140737488355328 ∧ (jnA a b.syms d).nums.length + [LN (jnA a b.syms d).syms].length ≤ 1000000000000) ∧ (((jnA a b.syms d).syms.length + [Sym.mk e.name e.bind (e.wher + LN a.sects) e.value].length) * 40 ≤ 140737488355328 ∧ (jnA a b.syms d).syms.length + [Sym.mk e.name e.bind (e.wher + LN a.sects) e.value].length ≤ 1000000000000) ∧ i64 (d + 1) ∧ (∃ (f : Int), d + 1 = f ∧ a.sects = a.sects ∧ (jnA a b.syms d).syms ++ [Sym.mk e.name e.bind (e.wher + LN a.sects) e.value] = (jnA a b.syms f).syms ∧ (jnA a b.syms d).nums ++ [LN (jnA a b.syms d).syms] = (jnA a b.syms f).nums ∧ b.sects = b.sects ∧ b.syms = b.syms ∧ a.sects = a.sects ∧ a.syms = a.syms ∧ (J2 a b ∧ 0 ≤ f ∧ f ≤ LN b.syms) ∧ b.syms.length - f.toNat < b.syms.length - d.toNat)) ∧ (decide (e.bind = 0) = false →
 (decide (globIx e.name a.syms 0 < 0) = true →
 (jnA a b.syms d).syms.length ≤ 9223372036854775807 →
 (((jnA a b.syms d).nums.length + [LN (jnA a b.syms d).syms].length) * 8 ≤ 140737488355328 ∧ (jnA a b.syms d).nums.length + [LN (jnA a b.syms d).syms].length ≤ 1000000000000) ∧ (((jnA a b.syms d).syms.length + [Sym.mk e.name e.bind (e.wher + LN a.sects) e.value].length) * 40 ≤ 140737488355328 ∧ (jnA a b.syms d).syms.length + [Sym.mk e.name e.bind (e.wher + LN a.sects) e.value].length ≤ 1000000000000) ∧ i64 (d + 1) ∧ (∃ (g : Int), d + 1 = g ∧ a.sects = a.sects ∧ (jnA a b.syms d).syms ++ [Sym.mk e.name e.bind (e.wher + LN a.sects) e.value] = (jnA a b.syms g).syms ∧ (jnA a b.syms d).nums ++ [LN (jnA a b.syms d).syms] = (jnA a b.syms g).nums ∧ b.sects = b.sects ∧ b.syms = b.syms ∧ a.sects = a.sects ∧ a.syms = a.syms ∧ (J2 a b ∧ 0 ≤ g ∧ g ≤ LN b.syms) ∧ b.syms.length - g.toNat < b.syms.length - d.toNat)) ∧ (decide (globIx e.name a.syms 0 < 0) = false →
 (((jnA a b.syms d).nums.length + [globIx e.name a.syms 0].length) * 8 ≤ 140737488355328 ∧ (jnA a b.syms d).nums.length + [globIx e.name a.syms 0].length ≤ 1000000000000) ∧ (0 ≤ globIx e.name a.syms 0 ∧ globIx e.name a.syms 0 < LN a.syms) ∧ (∀ (h : Sym), a.syms[(globIx e.name a.syms 0).toNat]? = some h →
 Ok (Ty.st SN.sym) h →
 ((e.bind = 1 ∨ e.bind = 2) ∧ (h.bind = 1 ∨ h.bind = 2)) ∧ (tks h (Sym.mk e.name e.bind (e.wher + LN a.sects) e.value) = true →
 (0 ≤ globIx e.name a.syms 0 ∧ globIx e.name a.syms 0 < LN (jnA a b.syms d).syms) ∧ (∀ (i : Sym), (jnA a b.syms d).syms[(globIx e.name a.syms 0).toNat]? = some i →
 i64 (d + 1) ∧ (∃ (j : Int), d + 1 = j ∧ a.sects = a.sects ∧ (jnA a b.syms d).syms.set (globIx e.name a.syms 0).toNat (Sym.mk e.name e.bind (e.wher + LN a.sects) e.value) = (jnA a b.syms j).syms ∧ (jnA a b.syms d).nums ++ [globIx e.name a.syms 0] = (jnA a b.syms j).nums ∧ b.sects = b.sects ∧ b.syms = b.syms ∧ a.sects = a.sects ∧ a.syms = a.syms ∧ (J2 a b ∧ 0 ≤ j ∧ j ≤ LN b.syms) ∧ b.syms.length - j.toNat < b.syms.length - d.toNat))) ∧ (tks h (Sym.mk e.name e.bind (e.wher + LN a.sects) e.value) = false →
 i64 (d + 1) ∧ (∃ (k : Int), d + 1 = k ∧ a.sects = a.sects ∧ (jnA a b.syms d).syms = (jnA a b.syms k).syms ∧ (jnA a b.syms d).nums ++ [globIx e.name a.syms 0] = (jnA a b.syms k).nums ∧ b.sects = b.sects ∧ b.syms = b.syms ∧ a.sects = a.sects ∧ a.syms = a.syms ∧ (J2 a b ∧ 0 ≤ k ∧ k ≤ LN b.syms) ∧ b.syms.length - k.toNat < b.syms.length - d.toNat)))))) ∧ (decide (0 ≤ e.wher) = false →
 (decide (e.bind = 0) = true →
 (jnA a b.syms d).syms.length ≤ 9223372036854775807 →
 (((jnA a b.syms d).nums.length + [LN (jnA a b.syms d).syms].length) * 8 ≤ 140737488355328 ∧ (jnA a b.syms d).nums.length + [LN (jnA a b.syms d).syms].length ≤ 1000000000000) ∧ (((jnA a b.syms d).syms.length + [e].length) * 40 ≤ 140737488355328 ∧ (jnA a b.syms d).syms.length + [e].length ≤ 1000000000000) ∧ i64 (d + 1) ∧ (∃ (l : Int), d + 1 = l ∧ a.sects = a.sects ∧ (jnA a b.syms d).syms ++ [e] = (jnA a b.syms l).syms ∧ (jnA a b.syms d).nums ++ [LN (jnA a b.syms d).syms] = (jnA a b.syms l).nums ∧ b.sects = b.sects ∧ b.syms = b.syms ∧ a.sects = a.sects ∧ a.syms = a.syms ∧ (J2 a b ∧ 0 ≤ l ∧ l ≤ LN b.syms) ∧ b.syms.length - l.toNat < b.syms.length - d.toNat)) ∧ (decide (e.bind = 0) = false →
 (decide (globIx e.name a.syms 0 < 0) = true →
 (jnA a b.syms d).syms.length ≤ 9223372036854775807 →
 (((jnA a b.syms d).nums.length + [LN (jnA a b.syms d).syms].length) * 8 ≤ 140737488355328 ∧ (jnA a b.syms d).nums.length + [LN (jnA a b.syms d).syms].length ≤ 1000000000000) ∧ (((jnA a b.syms d).syms.length + [e].length) * 40 ≤ 140737488355328 ∧ (jnA a b.syms d).syms.length + [e].length ≤ 1000000000000) ∧ i64 (d + 1) ∧ (∃ (m : Int), d + 1 = m ∧ a.sects = a.sects ∧ (jnA a b.syms d).syms ++ [e] = (jnA a b.syms m).syms ∧ (jnA a b.syms d).nums ++ [LN (jnA a b.syms d).syms] = (jnA a b.syms m).nums ∧ b.sects = b.sects ∧ b.syms = b.syms ∧ a.sects = a.sects ∧ a.syms = a.syms ∧ (J2 a b ∧ 0 ≤ m ∧ m ≤ LN b.syms) ∧ b.syms.length - m.toNat < b.syms.length - d.toNat)) ∧ (decide (globIx e.name a.syms 0 < 0) = false →
 (((jnA a b.syms d).nums.length + [globIx e.name a.syms 0].length) * 8 ≤ 140737488355328 ∧ (jnA a b.syms d).nums.length + [globIx e.name a.syms 0].length ≤ 1000000000000) ∧ (0 ≤ globIx e.name a.syms 0 ∧ globIx e.name a.syms 0 < LN a.syms) ∧ (∀ (n : Sym), a.syms[(globIx e.name a.syms 0).toNat]? = some n →
 Ok (Ty.st SN.sym) n →
 ((e.bind = 1 ∨ e.bind = 2) ∧ (n.bind = 1 ∨ n.bind = 2)) ∧ (tks n e = true →
 (0 ≤ globIx e.name a.syms 0 ∧ globIx e.name a.syms 0 < LN (jnA a b.syms d).syms) ∧ (∀ (o : Sym), (jnA a b.syms d).syms[(globIx e.name a.syms 0).toNat]? = some o →
 i64 (d + 1) ∧ (∃ (p : Int), d + 1 = p ∧ a.sects = a.sects ∧ (jnA a b.syms d).syms.set (globIx e.name a.syms 0).toNat e = (jnA a b.syms p).syms ∧ (jnA a b.syms d).nums ++ [globIx e.name a.syms 0] = (jnA a b.syms p).nums ∧ b.sects = b.sects ∧ b.syms = b.syms ∧ a.sects = a.sects ∧ a.syms = a.syms ∧ (J2 a b ∧ 0 ≤ p ∧ p ≤ LN b.syms) ∧ b.syms.length - p.toNat < b.syms.length - d.toNat))) ∧ (tks n e = false →
 i64 (d + 1) ∧ (∃ (q : Int), d + 1 = q ∧ a.sects = a.sects ∧ (jnA a b.syms d).syms = (jnA a b.syms q).syms ∧ (jnA a b.syms d).nums ++ [globIx e.name a.syms 0] = (jnA a b.syms q).nums ∧ b.sects = b.sects ∧ b.syms = b.syms ∧ a.sects = a.sects ∧ a.syms = a.syms ∧ (J2 a b ∧ 0 ≤ q ∧ q ≤ LN b.syms) ∧ b.syms.length - q.toNat < b.syms.length - d.toNat)))))))) ∧ (decide (d < LN b.syms) = false →
 (∃ (r : Int), 0 = r ∧ a.sects = a.sects ++ @List.map Sect Sect (reS (jnN a b)) (b.sects.take r.toNat) ∧ (jnA a b.syms d).syms = (jnF a b.syms).syms ∧ (jnA a b.syms d).nums = jnN a b ∧ @List.map Sect (Prod Sect Bool) (fun (s : Sect) => @Prod.mk Sect Bool s true) b.sects = holS (reS (jnN a b)) b.sects r ∧ b.syms = b.syms ∧ (J2 a b ∧ 0 ≤ r ∧ r ≤ LN b.sects) ∧ True) ∧ (∀ (t : Int), J2 a b ∧ 0 ≤ t ∧ t ≤ LN b.sects →
 (holS (reS (jnN a b)) b.sects t).length ≤ 9223372036854775807 →
 (decide (t < LN (holS (reS (jnN a b)) b.sects t)) = true →
 (∃ (u : Int), (∃ (v : Int), t = u ∧ 0 = v ∧ a.sects ++ @List.map Sect Sect (reS (jnN a b)) (b.sects.take t.toNat) = a.sects ++ @List.map Sect Sect (reS (jnN a b)) (b.sects.take u.toNat) ∧ (jnF a b.syms).syms = (jnF a b.syms).syms ∧ jnN a b = jnN a b ∧ holS (reS (jnN a b)) b.sects t = holF (jnN a b) b.sects u v ∧ b.syms = b.syms ∧ (J2 a b ∧ 0 ≤ u ∧ u < LN b.sects ∧ (sAt b.sects u).fixups.length ≤ 6 ∧ 0 ≤ v ∧ v ≤ LN (sAt b.sects u).fixups) ∧ (∀ (w : Int), (∀ (x : Int), J2 a b ∧ 0 ≤ w ∧ w < LN b.sects ∧ (sAt b.sects w).fixups.length ≤ 6 ∧ 0 ≤ x ∧ x ≤ LN (sAt b.sects w).fixups →
 (b.sects.length - w.toNat) * 1000 + (100 - x).toNat ≤ (b.sects.length - u.toNat) * 1000 + (100 - v).toNat →
 (0 ≤ w ∧ w < LN (holF (jnN a b) b.sects w x)) ∧ (∃ (y : Sect), (holF (jnN a b) b.sects w x)[w.toNat]? = some (@Prod.mk Sect Bool y true)) ∧ (∀ (z : Sect), (holF (jnN a b) b.sects w x)[w.toNat]? = some (@Prod.mk Sect Bool z true) →
 Ok (Ty.st SN.sect) z →
 (∃ (A : Sect), (holF (jnN a b) b.sects w x)[w.toNat]? = some (@Prod.mk Sect Bool A true)) ∧ (∀ (B : Sect), (holF (jnN a b) b.sects w x)[w.toNat]? = some (@Prod.mk Sect Bool B true) →
 B.fixups.length ≤ 9223372036854775807 →
 (decide (x < LN B.fixups) = true →
 (0 ≤ w ∧ w < LN (holF (jnN a b) b.sects w x)) ∧ (∃ (C : Sect), (holF (jnN a b) b.sects w x)[w.toNat]? = some (@Prod.mk Sect Bool C true)) ∧ (∀ (D : Sect), (holF (jnN a b) b.sects w x)[w.toNat]? = some (@Prod.mk Sect Bool D true) →
 Ok (Ty.st SN.sect) D →
 (∃ (E : Sect), (holF (jnN a b) b.sects w x)[w.toNat]? = some (@Prod.mk Sect Bool E true)) ∧ (∀ (F : Sect), (holF (jnN a b) b.sects w x)[w.toNat]? = some (@Prod.mk Sect Bool F true) →
 (0 ≤ x ∧ x < LN F.fixups) ∧ (∃ (G : Sect), (holF (jnN a b) b.sects w x)[w.toNat]? = some (@Prod.mk Sect Bool G true)) ∧ (∀ (H : Sect), (holF (jnN a b) b.sects w x)[w.toNat]? = some (@Prod.mk Sect Bool H true) →
 (∀ (I : Fixup), H.fixups[x.toNat]? = some I →
 Ok (Ty.st SN.fixup) I →
 (0 ≤ w ∧ w < LN (holF (jnN a b) b.sects w x)) ∧ (∃ (J : Sect), (holF (jnN a b) b.sects w x)[w.toNat]? = some (@Prod.mk Sect Bool J true)) ∧ (∀ (K : Sect), (holF (jnN a b) b.sects w x)[w.toNat]? = some (@Prod.mk Sect Bool K true) →
 Ok (Ty.st SN.sect) K →
 (0 ≤ I.to ∧ I.to < LN (jnN a b)) ∧ (∀ (L : Int), (jnN a b)[I.to.toNat]? = some L →
 Ok (Ty.int IntKind.i64) L →
 (∃ (M : Sect), (holF (jnN a b) b.sects w x)[w.toNat]? = some (@Prod.mk Sect Bool M true)) ∧ (∀ (N : Sect), (holF (jnN a b) b.sects w x)[w.toNat]? = some (@Prod.mk Sect Bool N true) →
 (0 ≤ x ∧ x < LN N.fixups) ∧ (∃ (O : Sect), (holF (jnN a b) b.sects w x)[w.toNat]? = some (@Prod.mk Sect Bool O true)) ∧ (∀ (P : Sect), (holF (jnN a b) b.sects w x)[w.toNat]? = some (@Prod.mk Sect Bool P true) →
 (∀ (Q : Fixup), P.fixups[x.toNat]? = some Q →
 i64 (x + 1) ∧ (∃ (R : Int), (∃ (S : Int), w = R ∧ x + 1 = S ∧ a.sects ++ @List.map Sect Sect (reS (jnN a b)) (b.sects.take w.toNat) = a.sects ++ @List.map Sect Sect (reS (jnN a b)) (b.sects.take R.toNat) ∧ (jnF a b.syms).syms = (jnF a b.syms).syms ∧ jnN a b = jnN a b ∧ (holF (jnN a b) b.sects w x).set w.toNat (@Prod.mk Sect Bool (Sect.mk P.name P.kind P.align P.bytes P.size (P.fixups.set x.toNat (Fixup.mk Q.at_ Q.kind L Q.add))) true) = holF (jnN a b) b.sects R S ∧ b.syms = b.syms ∧ (J2 a b ∧ 0 ≤ R ∧ R < LN b.sects ∧ (sAt b.sects R).fixups.length ≤ 6 ∧ 0 ≤ S ∧ S ≤ LN (sAt b.sects R).fixups) ∧ (b.sects.length - R.toNat) * 1000 + (100 - S).toNat < (b.sects.length - w.toNat) * 1000 + (100 - x).toNat)))))))))))) ∧ (decide (x < LN B.fixups) = false →
 (0 ≤ w ∧ w < LN (holF (jnN a b) b.sects w x)) ∧ (∃ (T : Sect), (holF (jnN a b) b.sects w x)[w.toNat]? = some (@Prod.mk Sect Bool T true)) ∧ (∀ (U : Sect), (holF (jnN a b) b.sects w x)[w.toNat]? = some (@Prod.mk Sect Bool U true) →
 Ok (Ty.st SN.sect) U →
 (((a.sects ++ @List.map Sect Sect (reS (jnN a b)) (b.sects.take w.toNat)).length + [U].length) * 88 ≤ 140737488355328 ∧ (a.sects ++ @List.map Sect Sect (reS (jnN a b)) (b.sects.take w.toNat)).length + [U].length ≤ 1000000000000) ∧ i64 (w + 1) ∧ (∃ (V : Int), w + 1 = V ∧ a.sects ++ @List.map Sect Sect (reS (jnN a b)) (b.sects.take w.toNat) ++ [U] = a.sects ++ @List.map Sect Sect (reS (jnN a b)) (b.sects.take V.toNat) ∧ (jnF a b.syms).syms = (jnF a b.syms).syms ∧ jnN a b = jnN a b ∧ (holF (jnN a b) b.sects w x).set w.toNat (@Prod.mk Sect Bool U false) = holS (reS (jnN a b)) b.sects V ∧ b.syms = b.syms ∧ (J2 a b ∧ 0 ≤ V ∧ V ≤ LN b.sects) ∧ b.sects.length - V.toNat < b.sects.length - t.toNat)))))))))) ∧ (decide (t < LN (holS (reS (jnN a b)) b.sects t)) = false →
 (Bool.not (objB (Objt.mk (a.sects ++ @List.map Sect Sect (reS (jnN a b)) (b.sects.take t.toNat)) (jnF a b.syms).syms)) = true →
 false = joinOk a b ∧ ([] : List Sect) = (joinV a b).sects ∧ ([] : List Sym) = (joinV a b).syms ∧ True) ∧ (Bool.not (objB (Objt.mk (a.sects ++ @List.map Sect Sect (reS (jnN a b)) (b.sects.take t.toNat)) (jnF a b.syms).syms)) = false →
 true = joinOk a b ∧ a.sects ++ @List.map Sect Sect (reS (jnN a b)) (b.sects.take t.toNat) = (joinV a b).sects ∧ (jnF a b.syms).syms = (joinV a b).syms ∧ True))))))))) := by kernel_rfl
theorem det_spec_JoinObjects : C_spec_JoinObjects.det = true → ∀ x, (C_spec_JoinObjects.out x).Det := fun _ _ => Det.ret _
theorem ok_spec_JoinObjects : ConOK Tryz.prog 8 C_spec_JoinObjects := by
 refine con_q (l := L_spec_JoinObjects) ⟨⟨ok_spec_ObjectValid, det_spec_ObjectValid⟩, ⟨⟨ok_spec_NamesTwice, det_spec_NamesTwice⟩, ⟨⟨ok_spec_l4Copy, det_spec_l4Copy⟩, ⟨⟨ok_spec_l16Known, det_spec_l16Known⟩, ⟨⟨ok_spec_l16Better, det_spec_l16Better⟩, trivial⟩⟩⟩⟩⟩ Tryz.func8 rfl (by decide) (by kernel_rfl) rfl an_spec_JoinObjects fun x ho hx => ?_
 obtain ⟨a, b, ⟨⟩⟩ := x
 refine Keeps.of (vc_spec_JoinObjects a b) ?_
 revert a b ho hx
 show ∀ (a : Objt) (b : Objt), _
 intro a b ho hx
 dsimp only [C_spec_JoinObjects, okPTL, okPT, Ok, Ty.cells, SN.cells, OkL, OkC, okI, ci, cb, cs, cl] at ho
 dsimp only [C_spec_JoinObjects, vc, v1, decB, SR.pre] at hx
 (try delta i64 LN); simp only [VBt]; (repeat' first | intro _ | apply And.intro); all_goals (try omega)
 all_goals (first | omega | (with_reducible first | exact JE_f1 (by assumption) (HF_e (by assumption)) (by assumption) | exact JE_f2 (by assumption) (HF_e (by assumption)) (by assumption) | exact JE_f3 (by assumption) (HF_e (by assumption)) (by assumption) | exact JE_t1 (by assumption) (HF_e (by assumption)) (by assumption) | exact JE_t2 (by assumption) (HF_e (by assumption)) (by assumption) | exact JE_t3 (by assumption) (HF_e (by assumption)) (by assumption) | exact JU_1 (by assumption) (by assumption) (by assumption) | exact JU_2 (by assumption) (by assumption) (by assumption) | exact JU_3 (by assumption) (by assumption) (by assumption) | exact JU_4 (by assumption) (by assumption) (by assumption) | exact JB_s (by assumption) (by assumption) (by assumption) | exact JB_h (by assumption) (by assumption) (by assumption) | exact JS_4a (by assumption) (by assumption) (by assumption) (by assumption) (by assumption) (by assumption) (by assumption) | exact JS_4c (by assumption) (by assumption) (by assumption) (by assumption) (by assumption) (by assumption) (by assumption) | exact JS_5a (by assumption) (by assumption) (by assumption) (by assumption) (by assumption) (by assumption) (by assumption) | exact JS_5c (by assumption) (by assumption) (by assumption) (by assumption) (by assumption) (by assumption) (by assumption) | exact holF_zero | exact HF_1 (by assumption) | exact HF_2 (by assumption) (by assumption) (by assumption) | exact HF_3 (by assumption) | exact HF_4 (by assumption) (by assumption) | exact HF_5 (by assumption) (by assumption) (by assumption) | exact HF_6 (by assumption) (by assumption) (by assumption) (by assumption) | exact HF_t0 (by assumption) (by assumption) (by assumption) (by assumption) (by assumption) | exact HF_t1 (by assumption) (by assumption) (by assumption) (by assumption) (by assumption) | exact HF_s (by assumption) (by assumption) (by assumption) (by assumption) (by assumption) (by assumption) (by assumption) (by assumption) | exact HF_o (by assumption) (by assumption) (by assumption) (by assumption) (by assumption) | exact HF_a (by assumption) (by assumption) (by assumption) (by assumption) (by assumption) | exact MX_l (by assumption) | exact MX_t0 (by assumption) (by assumption) (by assumption) (by assumption) | exact MX_t1 (by assumption) (by assumption) (by assumption) (by assumption) | exact MX_set (by assumption) (by assumption) (by assumption) (by assumption) | exact JR_1 (by assumption) | exact JR_2 (by assumption) | exact JR_3 (by assumption) (by assumption) (by assumption) | exact HS_n (by assumption) | exact HS_k (by assumption) | exact HS_a (by assumption) | exact HS_s (by assumption) | exact HS_b (by assumption) | exact HS_f (by assumption) | exact HS_l (by assumption) | exact HS_i (by assumption) | exact HS_e (by assumption) (by assumption) | exact HS_x (by assumption) (by assumption) | exact holS_zero | exact JE_0 | exact JE_1 (by assumption) | exact JE_2 (by assumption) | exact JE_f1 (by assumption) (by assumption) (by assumption) | exact JE_f2 (by assumption) (by assumption) (by assumption) | exact JE_f3 (by assumption) (by assumption) (by assumption) | exact JE_t1 (by assumption) (by assumption) (by assumption) | exact JE_t2 (by assumption) (by assumption) (by assumption) | exact JE_t3 (by assumption) (by assumption) (by assumption) | exact JE_6 (by assumption) (by assumption) (by assumption) | exact JA_1 (by assumption) | exact JA_2 (by assumption) | exact JA_3 (by assumption) | exact JB_1 (by assumption) | exact JB_2 (by assumption) | exact JB_3 (by assumption) | exact JT_1 (by assumption) | exact JT_2 (by assumption) | exact JT_3 (by assumption) | exact JX_1 (by assumption) (by assumption) | exact JZ_1 | exact JZ_2 | exact J2.mk (by assumption) (by assumption) (by assumption) | exact JL_1 (by assumption) | exact JL_2 (by assumption) | exact JL_3 (by assumption) | exact JL_4 (by assumption) | exact JW_1 (by assumption) (by assumption) | exact JS_0a (by assumption) (by assumption) (by assumption) (by assumption) | exact JS_0b (by assumption) (by assumption) (by assumption) (by assumption) | exact JS_0c (by assumption) (by assumption) (by assumption) | exact JS_1a (by assumption) (by assumption) (by assumption) (by assumption) | exact JS_1b (by assumption) (by assumption) (by assumption) (by assumption) | exact JS_1c (by assumption) (by assumption) (by assumption) | exact JS_2a (by assumption) (by assumption) (by assumption) (by assumption) (by assumption) (by assumption) (by assumption) | exact JS_2b (by assumption) (by assumption) (by assumption) (by assumption) (by assumption) (by assumption) (by assumption) | exact JS_2c (by assumption) (by assumption) (by assumption) (by assumption) (by assumption) (by assumption) | exact JS_3a (by assumption) (by assumption) (by assumption) (by assumption) (by assumption) (by assumption) | exact JS_3c (by assumption) (by assumption) (by assumption) (by assumption) (by assumption) (by assumption) | exact JG_1 (by assumption) | exact JG_2 (by assumption) (by assumption)) | (have := objB_sz (o := a) (by assumption); omega) | (have := objB_sz (o := b) (by assumption); omega) | skip)
end Go.Proofs.YtpgglbnagphgoaaGreat
