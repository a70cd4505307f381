/- The readers of objects. -/
import Derived.Test.YthkefakjihafeaaDrawI
import Derived.Test.YthkefakjihafeaaObjV
import Derived.Test.YthkefakjihafeaaRes
set_option linter.unusedVariables false
set_option linter.unusedSimpArgs false
namespace Go.Proofs.Ythkefakjihafeaa
open Go Go.RowKit


theorem ex_sect2 {a : ByteArray} {b c e : Int} {d : List Int} {f : List Fixup} {P : Sect → Prop} : (∃ x : Sect, a = x.name ∧ b = x.kind ∧ c = x.align ∧ e = x.size ∧ d = x.bytes ∧ f = x.fixups ∧ P x) ↔ P ⟨a, b, c, d, e, f⟩ := ⟨fun ⟨x, h1, h2, h3, h4, h5, h6, h7⟩ => by subst h1; subst h2; subst h3; subst h4; subst h5; subst h6; exact h7, fun h => ⟨_, rfl, rfl, rfl, rfl, rfl, rfl, h⟩⟩
def secSm (s : Sect) : Bool := decide (s.name.size ≤ 16 ∧ s.bytes.length ≤ 60 ∧ s.fixups.length ≤ 8 ∧ -1 ≤ s.size ∧ s.size ≤ 60)
def nmSm (s : ByteArray) : Bool := decide (s.size ≤ 16)
def symSm (s : Sym) : Bool := nmSm s.name
def secsSm (l : List Sect) : Bool := l.all secSm
def symsSm (l : List Sym) : Bool := l.all symSm
def objSm (o : Objt) : Bool := decide (o.sects.length ≤ 6 ∧ o.syms.length ≤ 20) && (secsSm o.sects && symsSm o.syms)
def objsA (l : List Objt) : Bool := l.all objSm
def nmsSm (l : List ByteArray) : Bool := l.all nmSm
theorem secSm_mk {a : ByteArray} {b c e : Int} {d : List Int} {f : List Fixup} (h1 : a.size ≤ 16) (h2 : d.length ≤ 60) (h3 : f.length ≤ 8) (h4 : -1 ≤ e) (h5 : e ≤ 60) : secSm ⟨a, b, c, d, e, f⟩ = true := decide_eq_true ⟨h1, h2, h3, h4, h5⟩
theorem secSm_iff {s : Sect} : secSm s = true ↔ s.name.size ≤ 16 ∧ s.bytes.length ≤ 60 ∧ s.fixups.length ≤ 8 ∧ -1 ≤ s.size ∧ s.size ≤ 60 := decide_eq_true_iff
theorem secSize_sm {s : Sect} (h : secSm s = true) : -1 ≤ secSize s ∧ secSize s ≤ 60 := by
  have := secSm_iff.1 h
  unfold secSize
  split <;> omega
theorem secs_sz {l : List Sect} {k : Nat} {s : Sect} (h : secsSm l = true) (hs : l[k]? = some s) : -1 ≤ secSize s ∧ secSize s ≤ 60 := secSize_sm (List.all_eq_true.1 h s (List.mem_of_getElem? hs))
theorem symSm_iff {s : Sym} : symSm s = true ↔ s.name.size ≤ 16 := decide_eq_true_iff
theorem symSm_mk {a : ByteArray} {b c d : Int} (h : a.size ≤ 16) : symSm ⟨a, b, c, d⟩ = true := decide_eq_true h
theorem all_snoc {α : Type} {p : α → Bool} {l : List α} {x : α} (h : l.all p = true) (hx : p x = true) : (l ++ [x]).all p = true := by rw [List.all_append, h]; simp [hx]
theorem secsSm_nil : secsSm [] = true := rfl
theorem symsSm_nil : symsSm [] = true := rfl
theorem objsA_nil : objsA [] = true := rfl
theorem nmsSm_nil : nmsSm [] = true := rfl
theorem secsSm_app {l : List Sect} {s : Sect} (h : secsSm l = true) (hs : secSm s = true) : secsSm (l ++ [s]) = true := all_snoc h hs
theorem symsSm_app {l : List Sym} {s : Sym} (h : symsSm l = true) (hs : symSm s = true) : symsSm (l ++ [s]) = true := all_snoc h hs
theorem objsA_app {l : List Objt} {s : Objt} (h : objsA l = true) (hs : objSm s = true) : objsA (l ++ [s]) = true := all_snoc h hs
theorem nmsSm_app {l m : List ByteArray} (h : nmsSm l = true) (hs : nmsSm m = true) : nmsSm (l ++ m) = true := by unfold nmsSm at *; rw [List.all_append, h, hs]; rfl
theorem secsSm_get {l : List Sect} {k : Nat} {s : Sect} (h : secsSm l = true) (hs : l[k]? = some s) : secSm s = true := all_get h hs
theorem symsSm_get {l : List Sym} {k : Nat} {s : Sym} (h : symsSm l = true) (hs : l[k]? = some s) : symSm s = true := all_get h hs
theorem objsA_get {l : List Objt} {k : Nat} {s : Objt} (h : objsA l = true) (hs : l[k]? = some s) : objSm s = true := all_get h hs
theorem nmsSm_get {l : List ByteArray} {k : Nat} {s : ByteArray} (h : nmsSm l = true) (hs : l[k]? = some s) : nmSm s = true := all_get h hs
theorem objSm_iff {o : Objt} : objSm o = true ↔ (o.sects.length ≤ 6 ∧ o.syms.length ≤ 20) ∧ secsSm o.sects = true ∧ symsSm o.syms = true := by simp [objSm]
theorem objSm_mk {a : List Sect} {b : List Sym} (h1 : a.length ≤ 6) (h2 : b.length ≤ 20) (h3 : secsSm a = true) (h4 : symsSm b = true) : objSm ⟨a, b⟩ = true := objSm_iff.2 ⟨⟨h1, h2⟩, h3, h4⟩
theorem objSm_two {a : List Sect} {b : List Sym} {s t : Sym} (h1 : a.length ≤ 3) (h2 : b.length ≤ 5) (h3 : secsSm a = true) (h4 : symsSm b = true) (hs : symSm s = true) (ht : symSm t = true) : objSm ⟨a, b ++ [s, t]⟩ = true := by
  have e : b ++ [s, t] = (b ++ [s]) ++ [t] := by simp
  rw [e]
  exact objSm_mk (by omega) (by simp; omega) h3 (symsSm_app (symsSm_app h4 hs) ht)
theorem symSm_dig {z b c d : Int} : symSm ⟨⟨⟨[115]⟩⟩ ++ strOf [z], b, c, d⟩ = true := by
  refine symSm_mk ?_
  rw [ba_len, strOf_len]
  simp [ByteArray.size]
theorem symsAt_sm {l : List Objt} (h : objsA l = true) (k : Int) : (symsAt l k).length ≤ 20 := by
  unfold symsAt
  split
  · rename_i o ho; exact (objSm_iff.1 (all_get h ho)).1.2
  · simp
theorem symsAt_set {l : List Objt} {k j : Int} {o : Objt} {s : Sym} {b : List Sect} (h : l[k.toNat]? = some o) : symsAt (l.set k.toNat ⟨b, o.syms.set j.toNat s⟩) k = (symsAt l k).set j.toNat s := by
  unfold symsAt
  rw [List.getElem?_set_self (lt_of_some h), h]
theorem symsAt_slen {l : List Objt} {k j i : Int} {o : Objt} {s : Sym} {b : List Sect} (h : l[k.toNat]? = some o) (hi : i < (symsAt l k).length) : i + 1 ≤ ((symsAt (l.set k.toNat ⟨b, o.syms.set j.toNat s⟩) k).length : Int) := by
  rw [symsAt_set h, List.length_set]; omega
theorem symsAt_sl2 {l : List Objt} {k j : Int} {o : Objt} {s : Sym} {b : List Sect} (h : l[k.toNat]? = some o) (hi : (symsAt l k).length ≤ 20) : (symsAt (l.set k.toNat ⟨b, o.syms.set j.toNat s⟩) k).length ≤ 20 := by
  rw [symsAt_set h, List.length_set]; omega
theorem all_set {α : Type} {p : α → Bool} {l : List α} {k : Nat} {x : α} (h : l.all p = true) (hx : p x = true) : (l.set k x).all p = true := by
  rw [List.all_eq_true] at *
  intro y hy
  rcases List.mem_or_eq_of_mem_set hy with hy | rfl
  · exact h y hy
  · exact hx
theorem symsSm_set {l : List Sym} {k : Nat} {s : Sym} (h : symsSm l = true) (hs : symSm s = true) : symsSm (l.set k s) = true := all_set h hs
theorem objsA_set {l : List Objt} {k : Nat} {s : Objt} (h : objsA l = true) (hs : objSm s = true) : objsA (l.set k s) = true := all_set h hs
theorem symsSm_bind {l : List Sym} {k : Nat} {s : Sym} {b : Int} (h : symsSm l = true) (hs : l[k]? = some s) : symsSm (l.set k ⟨s.name, b, s.wher, s.value⟩) = true := symsSm_set h (show nmSm s.name = true from symsSm_get h hs)
theorem objsA_name {l : List Objt} {k j : Nat} {o : Objt} {s : Sym} {n : ByteArray} (h : objsA l = true) (ho : l[k]? = some o) (hs : o.syms[j]? = some s) (hn : nmSm n = true) : objsA (l.set k ⟨o.sects, o.syms.set j ⟨n, s.bind, s.wher, s.value⟩⟩) = true := by
  have h1 := objSm_iff.1 (objsA_get h ho)
  exact objsA_set h (objSm_mk h1.1.1 (by rw [List.length_set]; exact h1.1.2) h1.2.1 (symsSm_set h1.2.2 hn))
theorem namesG_sm {o : Objt} (h : objSm o = true) : nmsSm (namesG o) = true ∧ (namesG o).length ≤ 20 := by
  have h1 := objSm_iff.1 h
  unfold namesG
  split
  · have h2 := (sortU_len (symP giveS o.syms)).1
    have h3 := symP_len (p := giveS) (l := o.syms)
    refine ⟨List.all_eq_true.2 fun n hn => ?_, by omega⟩
    obtain ⟨s, hs, _, rfl⟩ := mem_symP.1 (mem_sortU.1 hn)
    exact List.all_eq_true.1 h1.2.2 s hs
  · exact ⟨rfl, by simp⟩
theorem namesG_two {l : List Objt} {k : Nat} {o q : Objt} (h : objsA l = true) (ho : l[k]? = some o) (hq : l[k]? = some q) : nmsSm (namesG ⟨o.sects, q.syms⟩) = true ∧ (namesG ⟨o.sects, q.syms⟩).length ≤ 20 := by
  rw [ho] at hq
  injection hq with hq
  subst hq
  exact namesG_sm (objsA_get h ho)
theorem repl_secs (n : Int) : (repl n (0 : Int)).length = n.toNat := by simp [repl]
theorem repl_syms (n : Int) : symsSm (repl n (⟨⟨⟨[]⟩⟩, 0, 0, 0⟩ : Sym)) = true := List.all_eq_true.2 fun y hy => by rw [List.eq_of_mem_replicate hy]; rfl
theorem repl_objs (n : Int) : objsA (repl n (⟨[], []⟩ : Objt)) = true := List.all_eq_true.2 fun y hy => by rw [List.eq_of_mem_replicate hy]; rfl
def C_spec_l20Section : Con := { ps := [.box (.ty (.st .reader)), .ro .i, .ro .i], out := fun x => let r : Reader := x.1; let many : Int := x.2.1; let n : Int := x.2.2.1; .req (0 ≤ r.p ∧ r.p ≤ 100000000 ∧ 0 ≤ many ∧ many ≤ 1000 ∧ n ≤ 1000000) (.all Sect fun s => .all Int fun p => .giv (r.p ≤ p ∧ p ≤ r.p + 100 ∧ secSm s = true) (rdS .sect s p)), det := false }
abbrev L_spec_l20Section : List (Nat × Con) := [(77, C_spec_l20Name), (61, C_spec_l20Rd_pick), (94, C_spec_l20Bytes), (95, C_spec_FixupWide), (64, C_spec_l20Rd_odd)]
def G_spec_l20Section : Cfg := mkG (tyL tys_) L_spec_l20Section false
def an_spec_l20Section : PTL C_spec_l20Section.ps → Nat → Option Ann := fun x kk_ => let r : Reader := x.1; let many : Int := x.2.1; let n : Int := x.2.2.1; if kk_ = 7 then some (.all (ByteArray) fun nm => .all (Int) fun kd => .all (Int) fun an => .all (List Int) fun y => .all (List Fixup) fun f => .all (Int) fun a => .all (Int) fun k => .all (Int) fun p => .giv (nm.size ≤ 16 ∧ y.length ≤ 14 ∧ 0 ≤ k ∧ f.length + k ≤ 3 ∧ 0 ≤ a ∧ a ≤ 100 ∧ r.p ≤ p ∧ p + 9 * k ≤ r.p + 70) (.mk [(9, ai k), (8, ai a), (6, aref 30), (7, aref 31), (0, aref 0), (1, ai many), (2, ai n)] [(0, lent (.st .reader) ⟨r.b, p⟩), (30, bx (ast .sect ⟨⟨⟨[]⟩⟩, 0, 0, [], 0, []⟩)), (31, .box false [.c (cs nm), .c (ci kd), .c (ci an), .sl 32 [], .c (ci 0), .sl 33 []]), (32, .row none .u y true), (33, .row (some 117) (.st .fixup) f true)] (k.toNat))) else if kk_ = 1013 then some (.all (ByteArray) fun nm => .all (Int) fun kd => .all (Int) fun an => .all (List Int) fun y => .all (Int) fun z => .all (List Fixup) fun f => .all (Int) fun p => .giv (nm.size ≤ 16 ∧ y.length ≤ 14 ∧ f.length ≤ 3 ∧ -1 ≤ z ∧ z ≤ 48 ∧ r.p ≤ p ∧ p ≤ r.p + 80) (.mk [(0, aref 0), (1, ai many), (2, ai n), (6, aref 30), (7, aref 31)] [(0, lent (.st .reader) ⟨r.b, p⟩), (30, bx (ast .sect ⟨⟨⟨[]⟩⟩, 0, 0, [], 0, []⟩)), (31, .box false [.c (cs nm), .c (ci kd), .c (ci an), .sl 32 [], .c (ci z), .sl 33 []]), (32, .row none .u y true), (33, .row none (.st .fixup) f true)] (0))) else none
def R_spec_l20Section_1 (r : Reader) (many : Int) (n : Int) : Prop := (∀ (x_12 : ByteArray), (∀ (x_13 : Int), (∀ (x_14 : Int), (∀ (x_15 : (List Int)), (∀ (x_16 : Int), (∀ (x_17 : (List Fixup)), (∀ (x_18 : Int), ((((ByteArray.size x_12) ≤ 16) ∧
 (((List.length x_15) ≤ 14) ∧
 (((List.length x_17) ≤ 3) ∧
 (((- (1 : Int)) ≤ x_16) ∧
 ((x_16 ≤ (48 : Int)) ∧
 (((Reader.p r) ≤ x_18) ∧
 (x_18 ≤ ((Reader.p r) + 80)))))))) →
 (((0 : Nat) = (0 : Nat)) →
 (((0 ≤ x_18) ∧
 ((x_18 ≤ (1000000000000 : Int)) ∧
 (n ≤ 1000000))) ∧
 (∀ (x_19 : Bool), (∀ (x_20 : Int), (((x_18 ≤ x_20) ∧
 ((x_20 ≤ (x_18 + (1 : Int))) ∧
 ((n ≤ 0) →
 (x_19 = false)))) →
 (((x_19 = true) →
 (((0 ≤ x_20) ∧
 (x_20 ≤ (1000000000000 : Int))) ∧
 ((((decide ((pickF (Reader.b r) x_20 (6 : Int)) = 0)) = true) →
 (((0 ≤ (x_20 + (1 : Int))) ∧
 (((x_20 + (1 : Int)) ≤ 1000000000) ∧
 ((1 : Int) ≤ (1000000 : Int)))) ∧
 (∀ (x_21 : ByteArray), (∀ (x_22 : Int), ((((x_20 + (1 : Int)) ≤ x_22) ∧
 ((x_22 ≤ ((x_20 + (1 : Int)) + 3)) ∧
 (((ByteArray.size x_21) ≤ 16) ∧
 (((1 : Int) ≤ (0 : Int)) →
 ((nameB x_21) = true))))) →
 (∃ (x_23 : Sect), (∃ (x_24 : Int), (((@Eq ByteArray x_21 (Sect.name x_23)) ∧
 ((x_13 = (Sect.kind x_23)) ∧
 ((x_14 = (Sect.align x_23)) ∧
 ((x_16 = (Sect.size x_23)) ∧
 ((@Eq (List Int) x_15 (Sect.bytes x_23)) ∧
 ((@Eq (List Fixup) x_17 (Sect.fixups x_23)) ∧
 ((@Eq (List Int) (Reader.b r) (Reader.b r)) ∧
 ((x_22 = x_24) ∧
 True)))))))) ∧
 (((Reader.p r) ≤ x_24) ∧
 ((x_24 ≤ ((Reader.p r) + 100)) ∧
 ((secSm x_23) = true))))))))))) ∧
 (((decide ((pickF (Reader.b r) x_20 (6 : Int)) = 0)) = false) →
 ((((decide ((pickF (Reader.b r) x_20 (6 : Int)) = 1)) = true) →
 (((0 ≤ (x_20 + (1 : Int))) ∧
 ((x_20 + (1 : Int)) ≤ 1000000000000)) ∧
 (((0 ≤ (pickF (Reader.b r) (x_20 + (1 : Int)) (2 : Int))) ∧
 ((pickF (Reader.b r) (x_20 + (1 : Int)) (2 : Int)) < (@Nat.cast Int _ (2 : Nat)))) ∧
 (∀ (x_25 : Int), ((@Eq (Option Int) ([(0 : Int), (4 : Int)])[(Int.toNat (pickF (Reader.b r) (x_20 + (1 : Int)) (2 : Int)))]? (some x_25)) →
 ((Ok (Ty.int IntKind.i64) x_25) →
 (∃ (x_26 : Sect), (∃ (x_27 : Int), (((@Eq ByteArray x_12 (Sect.name x_26)) ∧
 ((x_25 = (Sect.kind x_26)) ∧
 ((x_14 = (Sect.align x_26)) ∧
 ((x_16 = (Sect.size x_26)) ∧
 ((@Eq (List Int) x_15 (Sect.bytes x_26)) ∧
 ((@Eq (List Fixup) x_17 (Sect.fixups x_26)) ∧
 ((@Eq (List Int) (Reader.b r) (Reader.b r)) ∧
 ((((x_20 + (1 : Int)) + 1) = x_27) ∧
 True)))))))) ∧
 (((Reader.p r) ≤ x_27) ∧
 ((x_27 ≤ ((Reader.p r) + 100)) ∧
 ((secSm x_26) = true)))))))))))) ∧
 (((decide ((pickF (Reader.b r) x_20 (6 : Int)) = 1)) = false) →
 ((((decide ((pickF (Reader.b r) x_20 (6 : Int)) = 2)) = true) →
 (((0 ≤ (x_20 + (1 : Int))) ∧
 ((x_20 + (1 : Int)) ≤ 1000000000000)) ∧
 (((0 ≤ (pickF (Reader.b r) (x_20 + (1 : Int)) (3 : Int))) ∧
 ((pickF (Reader.b r) (x_20 + (1 : Int)) (3 : Int)) < (@Nat.cast Int _ (3 : Nat)))) ∧
 (∀ (x_28 : Int), ((@Eq (Option Int) ([(0 : Int), (3 : Int), (16 : Int)])[(Int.toNat (pickF (Reader.b r) (x_20 + (1 : Int)) (3 : Int)))]? (some x_28)) →
 ((Ok (Ty.int IntKind.i64) x_28) →
 (∃ (x_29 : Sect), (∃ (x_30 : Int), (((@Eq ByteArray x_12 (Sect.name x_29)) ∧
 ((x_13 = (Sect.kind x_29)) ∧
 ((x_28 = (Sect.align x_29)) ∧
 ((x_16 = (Sect.size x_29)) ∧
 ((@Eq (List Int) x_15 (Sect.bytes x_29)) ∧
 ((@Eq (List Fixup) x_17 (Sect.fixups x_29)) ∧
 ((@Eq (List Int) (Reader.b r) (Reader.b r)) ∧
 ((((x_20 + (1 : Int)) + 1) = x_30) ∧
 True)))))))) ∧
 (((Reader.p r) ≤ x_30) ∧
 ((x_30 ≤ ((Reader.p r) + 100)) ∧
 ((secSm x_29) = true)))))))))))) ∧
 (((decide ((pickF (Reader.b r) x_20 (6 : Int)) = 2)) = false) →
 ((((decide ((pickF (Reader.b r) x_20 (6 : Int)) = 3)) = true) →
 (((0 ≤ (x_20 + (1 : Int))) ∧
 ((x_20 + (1 : Int)) ≤ 1000000000000)) ∧
 (((0 ≤ (pickF (Reader.b r) (x_20 + (1 : Int)) (2 : Int))) ∧
 ((pickF (Reader.b r) (x_20 + (1 : Int)) (2 : Int)) < (@Nat.cast Int _ (2 : Nat)))) ∧
 (∀ (x_31 : Int), ((@Eq (Option Int) ([(- (1 : Int)), (49 : Int)])[(Int.toNat (pickF (Reader.b r) (x_20 + (1 : Int)) (2 : Int)))]? (some x_31)) →
 ((Ok (Ty.int IntKind.i64) x_31) →
 (∃ (x_32 : Sect), (∃ (x_33 : Int), (((@Eq ByteArray x_12 (Sect.name x_32)) ∧
 ((x_13 = (Sect.kind x_32)) ∧
 ((x_14 = (Sect.align x_32)) ∧
 ((x_31 = (Sect.size x_32)) ∧
 ((@Eq (List Int) x_15 (Sect.bytes x_32)) ∧
 ((@Eq (List Fixup) x_17 (Sect.fixups x_32)) ∧
 ((@Eq (List Int) (Reader.b r) (Reader.b r)) ∧
 ((((x_20 + (1 : Int)) + 1) = x_33) ∧
 True)))))))) ∧
 (((Reader.p r) ≤ x_33) ∧
 ((x_33 ≤ ((Reader.p r) + 100)) ∧
 ((secSm x_32) = true)))))))))))) ∧
 (((decide ((pickF (Reader.b r) x_20 (6 : Int)) = 3)) = false) →
 ((((decide ((pickF (Reader.b r) x_20 (6 : Int)) = 4)) = true) →
 (((0 ≤ (x_20 + (1 : Int))) ∧
 ((x_20 + (1 : Int)) ≤ 1000000000000)) ∧
 (((0 ≤ (pickF (Reader.b r) (x_20 + (1 : Int)) (3 : Int))) ∧
 ((pickF (Reader.b r) (x_20 + (1 : Int)) (3 : Int)) < (LN [(0 : Int), (- (1 : Int)), many]))) ∧
 (∀ (x_34 : Int), ((@Eq (Option Int) ([(0 : Int), (- (1 : Int)), many])[(Int.toNat (pickF (Reader.b r) (x_20 + (1 : Int)) (3 : Int)))]? (some x_34)) →
 ((Ok (Ty.int IntKind.i64) x_34) →
 (((0 ≤ ((x_20 + (1 : Int)) + 1)) ∧
 (((x_20 + (1 : Int)) + 1) ≤ 1000000000000)) ∧
 (((0 ≤ (pickF (Reader.b r) ((x_20 + (1 : Int)) + 1) (2 : Int))) ∧
 ((pickF (Reader.b r) ((x_20 + (1 : Int)) + 1) (2 : Int)) < (@Nat.cast Int _ (2 : Nat)))) ∧
 (∀ (x_35 : Int), ((@Eq (Option Int) ([(0 : Int), (1001 : Int)])[(Int.toNat (pickF (Reader.b r) ((x_20 + (1 : Int)) + 1) (2 : Int)))]? (some x_35)) →
 ((Ok (Ty.int IntKind.i64) x_35) →
 ((((((List.length x_17) + (List.length [(Fixup.mk (0 : Int) (1 : Int) x_34 x_35)])) * 32) ≤ 140737488355328) ∧
 (((List.length x_17) + (List.length [(Fixup.mk (0 : Int) (1 : Int) x_34 x_35)])) ≤ 1000000000000)) ∧
 (∃ (x_36 : Sect), (∃ (x_37 : Int), (((@Eq ByteArray x_12 (Sect.name x_36)) ∧
 ((x_13 = (Sect.kind x_36)) ∧
 ((x_14 = (Sect.align x_36)) ∧
 ((x_16 = (Sect.size x_36)) ∧
 ((@Eq (List Int) x_15 (Sect.bytes x_36)) ∧
 ((@Eq (List Fixup) (x_17 ++ [(Fixup.mk (0 : Int) (1 : Int) x_34 x_35)]) (Sect.fixups x_36)) ∧
 ((@Eq (List Int) (Reader.b r) (Reader.b r)) ∧
 (((((x_20 + (1 : Int)) + 1) + 1) = x_37) ∧
 True)))))))) ∧
 (((Reader.p r) ≤ x_37) ∧
 ((x_37 ≤ ((Reader.p r) + 100)) ∧
 ((secSm x_36) = true)))))))))))))))))) ∧
 (((decide ((pickF (Reader.b r) x_20 (6 : Int)) = 4)) = false) →
 ((((49 : Int) = (49 : Int)) ∧
 (((0 : Int) ≤ (49 : Int)) ∧
 (((49 : Int) ≤ (1000000000000 : Int)) ∧
 (((@Nat.cast Int _ (1 : Nat)) * 49) ≤ 140737488355328)))) ∧
 (∃ (x_38 : Sect), (∃ (x_39 : Int), (((@Eq ByteArray x_12 (Sect.name x_38)) ∧
 ((x_13 = (Sect.kind x_38)) ∧
 ((x_14 = (Sect.align x_38)) ∧
 ((x_16 = (Sect.size x_38)) ∧
 ((@Eq (List Int) (@repl Int (49 : Int) (0 : Int)) (Sect.bytes x_38)) ∧
 ((@Eq (List Fixup) x_17 (Sect.fixups x_38)) ∧
 ((@Eq (List Int) (Reader.b r) (Reader.b r)) ∧
 (((x_20 + (1 : Int)) = x_39) ∧
 True)))))))) ∧
 (((Reader.p r) ≤ x_39) ∧
 ((x_39 ≤ ((Reader.p r) + 100)) ∧
 ((secSm x_38) = true))))))))))))))))))) ∧
 ((x_19 = false) →
 (∃ (x_40 : Sect), (∃ (x_41 : Int), (((@Eq ByteArray x_12 (Sect.name x_40)) ∧
 ((x_13 = (Sect.kind x_40)) ∧
 ((x_14 = (Sect.align x_40)) ∧
 ((x_16 = (Sect.size x_40)) ∧
 ((@Eq (List Int) x_15 (Sect.bytes x_40)) ∧
 ((@Eq (List Fixup) x_17 (Sect.fixups x_40)) ∧
 ((@Eq (List Int) (Reader.b r) (Reader.b r)) ∧
 ((x_20 = x_41) ∧
 True)))))))) ∧
 (((Reader.p r) ≤ x_41) ∧
 ((x_41 ≤ ((Reader.p r) + 100)) ∧
 ((secSm x_40) = true)))))))))))))))))))))
set_option maxRecDepth 200000 in
theorem vc_spec_l20Section (r : Reader) (many : Int) (n : Int) : (keeps Try.prog G_spec_l20Section (an_spec_l20Section (r, many, n, ())) (Try.f62.body.getD .skip) Try.f62.results.toList C_spec_l20Section (r, many, n, ())) = ((((0 ≤ (Reader.p r)) ∧
 (((Reader.p r) ≤ 1000000000) ∧
 ((0 : Int) ≤ (1000000 : Int)))) ∧
 (∀ (x_1 : ByteArray), (∀ (x_2 : Int), ((((Reader.p r) ≤ x_2) ∧
 ((x_2 ≤ ((Reader.p r) + 3)) ∧
 (((ByteArray.size x_1) ≤ 16) ∧
 (((0 : Int) ≤ (0 : Int)) →
 ((nameB x_1) = true))))) →
 (((0 ≤ x_2) ∧
 (x_2 ≤ (1000000000000 : Int))) ∧
 ((i64 (1 + (pickF (Reader.b r) x_2 (3 : Int)))) ∧
 (((0 ≤ (x_2 + (1 : Int))) ∧
 ((x_2 + (1 : Int)) ≤ 1000000000000)) ∧
 (((0 ≤ (pickF (Reader.b r) (x_2 + (1 : Int)) (4 : Int))) ∧
 ((pickF (Reader.b r) (x_2 + (1 : Int)) (4 : Int)) < (@Nat.cast Int _ (4 : Nat)))) ∧
 (∀ (x_3 : Int), ((@Eq (Option Int) ([(1 : Int), (2 : Int), (4 : Int), (8 : Int)])[(Int.toNat (pickF (Reader.b r) (x_2 + (1 : Int)) (4 : Int)))]? (some x_3)) →
 ((Ok (Ty.int IntKind.i64) x_3) →
 ((((decide ((1 + (pickF (Reader.b r) x_2 (3 : Int))) = 3)) = true) →
 (((0 ≤ ((x_2 + (1 : Int)) + 1)) ∧
 (((x_2 + (1 : Int)) + 1) ≤ 1000000000000)) ∧
 (((0 ≤ (((x_2 + (1 : Int)) + 1) + 1)) ∧
 ((((x_2 + (1 : Int)) + 1) + 1) ≤ 1000000000000)) ∧
 (((0 ≤ (pickF (Reader.b r) (((x_2 + (1 : Int)) + 1) + 1) (9 : Int))) ∧
 ((0 : Int) < (8 : Int))) ∧
 (((0 ≤ ((pickF (Reader.b r) (((x_2 + (1 : Int)) + 1) + 1) (9 : Int)) / 8)) ∧
 (((pickF (Reader.b r) (((x_2 + (1 : Int)) + 1) + 1) (9 : Int)) / 8) < (LN [(pickF (Reader.b r) ((x_2 + (1 : Int)) + 1) (12 : Int)), (48 : Int)]))) ∧
 (∀ (x_4 : Int), ((@Eq (Option Int) ([(pickF (Reader.b r) ((x_2 + (1 : Int)) + 1) (12 : Int)), (48 : Int)])[(Int.toNat ((pickF (Reader.b r) (((x_2 + (1 : Int)) + 1) + 1) (9 : Int)) / 8))]? (some x_4)) →
 ((Ok (Ty.int IntKind.i64) x_4) →
 (∃ (x_5 : ByteArray), (∃ (x_6 : Int), (∃ (x_7 : Int), (∃ (x_8 : (List Int)), (∃ (x_9 : Int), (∃ (x_10 : (List Fixup)), (∃ (x_11 : Int), ((many = many) ∧
 ((n = n) ∧
 ((@Eq (List Int) (Reader.b r) (Reader.b r)) ∧
 ((((((x_2 + (1 : Int)) + 1) + 1) + 1) = x_11) ∧
 ((@Eq ByteArray (ByteArray.mk (@Array.mk UInt8 ([] : List UInt8))) (ByteArray.mk (@Array.mk UInt8 ([] : List UInt8)))) ∧
 (((0 : Int) = (0 : Int)) ∧
 (((0 : Int) = (0 : Int)) ∧
 ((@Eq (List Int) ([] : List Int) ([] : List Int)) ∧
 (((0 : Int) = (0 : Int)) ∧
 ((@Eq (List Fixup) ([] : List Fixup) ([] : List Fixup)) ∧
 ((@Eq ByteArray x_1 x_5) ∧
 (((1 + (pickF (Reader.b r) x_2 (3 : Int))) = x_6) ∧
 ((x_3 = x_7) ∧
 ((x_4 = x_9) ∧
 ((@Eq (List Int) ([] : List Int) x_8) ∧
 ((@Eq (List Fixup) ([] : List Fixup) x_10) ∧
 ((((ByteArray.size x_5) ≤ 16) ∧
 (((List.length x_8) ≤ 14) ∧
 (((List.length x_10) ≤ 3) ∧
 (((- (1 : Int)) ≤ x_9) ∧
 ((x_9 ≤ (48 : Int)) ∧
 (((Reader.p r) ≤ x_11) ∧
 (x_11 ≤ ((Reader.p r) + 80)))))))) ∧
 (R_spec_l20Section_1 r many n))))))))))))))))))))))))))))))))) ∧
 (((decide ((1 + (pickF (Reader.b r) x_2 (3 : Int))) = 3)) = false) →
 (((0 ≤ ((x_2 + (1 : Int)) + 1)) ∧
 ((((x_2 + (1 : Int)) + 1) ≤ 1000000000) ∧
 (((0 : Int) ≤ (14 : Int)) ∧
 ((14 : Int) ≤ (1000 : Int))))) ∧
 (∀ (x_42 : (List Int)), (∀ (x_43 : Int), (((((x_2 + (1 : Int)) + 1) ≤ x_43) ∧
 ((x_43 ≤ ((((x_2 + (1 : Int)) + 1) + ((2 : Int) * (14 : Int))) + 1)) ∧
 (((LN x_42) ≤ 14) ∧
 (byB x_42)))) →
 (((0 ≤ x_43) ∧
 (x_43 ≤ (1000000000000 : Int))) ∧
 ((∃ (x_44 : ByteArray), (∃ (x_45 : Int), (∃ (x_46 : Int), (∃ (x_47 : (List Int)), (∃ (x_48 : (List Fixup)), (∃ (x_49 : Int), (∃ (x_50 : Int), (∃ (x_51 : Int), (((pickF (Reader.b r) x_43 (4 : Int)) = x_50) ∧
 ((0 = x_49) ∧
 ((many = many) ∧
 ((n = n) ∧
 ((@Eq (List Int) (Reader.b r) (Reader.b r)) ∧
 (((x_43 + (1 : Int)) = x_51) ∧
 ((@Eq ByteArray (ByteArray.mk (@Array.mk UInt8 ([] : List UInt8))) (ByteArray.mk (@Array.mk UInt8 ([] : List UInt8)))) ∧
 (((0 : Int) = (0 : Int)) ∧
 (((0 : Int) = (0 : Int)) ∧
 ((@Eq (List Int) ([] : List Int) ([] : List Int)) ∧
 (((0 : Int) = (0 : Int)) ∧
 ((@Eq (List Fixup) ([] : List Fixup) ([] : List Fixup)) ∧
 ((@Eq ByteArray x_1 x_44) ∧
 (((1 + (pickF (Reader.b r) x_2 (3 : Int))) = x_45) ∧
 ((x_3 = x_46) ∧
 (((0 : Int) = (0 : Int)) ∧
 ((@Eq (List Int) x_42 x_47) ∧
 ((@Eq (List Fixup) ([] : List Fixup) x_48) ∧
 ((((ByteArray.size x_44) ≤ 16) ∧
 (((List.length x_47) ≤ 14) ∧
 ((0 ≤ x_50) ∧
 ((((LN x_48) + x_50) ≤ 3) ∧
 ((0 ≤ x_49) ∧
 ((x_49 ≤ (100 : Int)) ∧
 (((Reader.p r) ≤ x_51) ∧
 ((x_51 + (9 * x_50)) ≤ ((Reader.p r) + 70))))))))) ∧
 True))))))))))))))))))))))))))) ∧
 (∀ (x_52 : ByteArray), (∀ (x_53 : Int), (∀ (x_54 : Int), (∀ (x_55 : (List Int)), (∀ (x_56 : (List Fixup)), (∀ (x_57 : Int), (∀ (x_58 : Int), (∀ (x_59 : Int), ((((ByteArray.size x_52) ≤ 16) ∧
 (((List.length x_55) ≤ 14) ∧
 ((0 ≤ x_58) ∧
 ((((LN x_56) + x_58) ≤ 3) ∧
 ((0 ≤ x_57) ∧
 ((x_57 ≤ (100 : Int)) ∧
 (((Reader.p r) ≤ x_59) ∧
 ((x_59 + (9 * x_58)) ≤ ((Reader.p r) + 70))))))))) →
 ((((decide (0 < x_58)) = true) →
 ((((decide (0 < many)) = true) →
 (((0 ≤ x_59) ∧
 (x_59 ≤ (1000000000000 : Int))) ∧
 ((i64 (x_57 + (pickF (Reader.b r) x_59 (3 : Int)))) ∧
 (((0 ≤ (x_59 + (1 : Int))) ∧
 ((x_59 + (1 : Int)) ≤ 1000000000000)) ∧
 ((i64 (1 + (pickF (Reader.b r) (x_59 + (1 : Int)) (3 : Int)))) ∧
 (((0 ≤ ((x_59 + (1 : Int)) + 1)) ∧
 (((x_59 + (1 : Int)) + 1) ≤ 1000000000000)) ∧
 (((0 ≤ (((x_59 + (1 : Int)) + 1) + 1)) ∧
 ((((x_59 + (1 : Int)) + 1) + 1) ≤ 1000000000000)) ∧
 ((i64 ((pickF (Reader.b r) (((x_59 + (1 : Int)) + 1) + 1) (9 : Int)) - 4)) ∧
 (((0 ≤ ((((x_59 + (1 : Int)) + 1) + 1) + 1)) ∧
 (((((x_59 + (1 : Int)) + 1) + 1) + 1) ≤ 1000000000000)) ∧
 (((0 ≤ (((((x_59 + (1 : Int)) + 1) + 1) + 1) + 1)) ∧
 ((((((x_59 + (1 : Int)) + 1) + 1) + 1) + 1) ≤ 1000000000000)) ∧
 ((i64 (- (pickF (Reader.b r) (((((x_59 + (1 : Int)) + 1) + 1) + 1) + 1) (256 : Int)))) ∧
 (((0 ≤ ((((((x_59 + (1 : Int)) + 1) + 1) + 1) + 1) + 1)) ∧
 (((((((x_59 + (1 : Int)) + 1) + 1) + 1) + 1) + 1) ≤ 1000000000000)) ∧
 (((0 ≤ (pickF (Reader.b r) ((((((x_59 + (1 : Int)) + 1) + 1) + 1) + 1) + 1) (7 : Int))) ∧
 ((pickF (Reader.b r) ((((((x_59 + (1 : Int)) + 1) + 1) + 1) + 1) + 1) (7 : Int)) < (@Nat.cast Int _ (7 : Nat)))) ∧
 (∀ (x_60 : Int), ((@Eq (Option Int) ([(0 : Int), (0 : Int), (0 : Int), (1 : Int), (1 : Int), (2 : Int), (3 : Int)])[(Int.toNat (pickF (Reader.b r) ((((((x_59 + (1 : Int)) + 1) + 1) + 1) + 1) + 1) (7 : Int)))]? (some x_60)) →
 ((Ok (Ty.int IntKind.i64) x_60) →
 (((0 ≤ x_60) ∧
 (x_60 < (LN [((pickF (Reader.b r) (((x_59 + (1 : Int)) + 1) + 1) (9 : Int)) - 4), (0 : Int), (pickF (Reader.b r) ((((x_59 + (1 : Int)) + 1) + 1) + 1) (256 : Int)), (- (pickF (Reader.b r) (((((x_59 + (1 : Int)) + 1) + 1) + 1) + 1) (256 : Int)))]))) ∧
 (∀ (x_61 : Int), ((@Eq (Option Int) ([((pickF (Reader.b r) (((x_59 + (1 : Int)) + 1) + 1) (9 : Int)) - 4), (0 : Int), (pickF (Reader.b r) ((((x_59 + (1 : Int)) + 1) + 1) + 1) (256 : Int)), (- (pickF (Reader.b r) (((((x_59 + (1 : Int)) + 1) + 1) + 1) + 1) (256 : Int)))])[(Int.toNat x_60)]? (some x_61)) →
 ((Ok (Ty.int IntKind.i64) x_61) →
 ((i64 ((x_57 + (pickF (Reader.b r) x_59 (3 : Int))) + (fixWide (1 + (pickF (Reader.b r) (x_59 + (1 : Int)) (3 : Int)))))) ∧
 (((List.length x_55) ≤ 9223372036854775807) →
 ((((decide ((LN x_55) < ((x_57 + (pickF (Reader.b r) x_59 (3 : Int))) + (fixWide (1 + (pickF (Reader.b r) (x_59 + (1 : Int)) (3 : Int))))))) = true) →
 (∃ (x_62 : ByteArray), (∃ (x_63 : Int), (∃ (x_64 : Int), (∃ (x_65 : (List Int)), (∃ (x_66 : Int), (∃ (x_67 : (List Fixup)), (∃ (x_68 : Int), ((many = many) ∧
 ((n = n) ∧
 ((@Eq (List Int) (Reader.b r) (Reader.b r)) ∧
 (((((((((x_59 + (1 : Int)) + 1) + 1) + 1) + 1) + 1) + 1) = x_68) ∧
 ((@Eq ByteArray (ByteArray.mk (@Array.mk UInt8 ([] : List UInt8))) (ByteArray.mk (@Array.mk UInt8 ([] : List UInt8)))) ∧
 (((0 : Int) = (0 : Int)) ∧
 (((0 : Int) = (0 : Int)) ∧
 ((@Eq (List Int) ([] : List Int) ([] : List Int)) ∧
 (((0 : Int) = (0 : Int)) ∧
 ((@Eq (List Fixup) ([] : List Fixup) ([] : List Fixup)) ∧
 ((@Eq ByteArray x_52 x_62) ∧
 ((x_53 = x_63) ∧
 ((x_54 = x_64) ∧
 ((0 = x_66) ∧
 ((@Eq (List Int) x_55 x_65) ∧
 ((@Eq (List Fixup) x_56 x_67) ∧
 ((((ByteArray.size x_62) ≤ 16) ∧
 (((List.length x_65) ≤ 14) ∧
 (((List.length x_67) ≤ 3) ∧
 (((- (1 : Int)) ≤ x_66) ∧
 ((x_66 ≤ (48 : Int)) ∧
 (((Reader.p r) ≤ x_68) ∧
 (x_68 ≤ ((Reader.p r) + 80)))))))) ∧
 (R_spec_l20Section_1 r many n)))))))))))))))))))))))))) ∧
 (((decide ((LN x_55) < ((x_57 + (pickF (Reader.b r) x_59 (3 : Int))) + (fixWide (1 + (pickF (Reader.b r) (x_59 + (1 : Int)) (3 : Int))))))) = false) →
 ((((((List.length x_56) + (List.length [(Fixup.mk (x_57 + (pickF (Reader.b r) x_59 (3 : Int))) (1 + (pickF (Reader.b r) (x_59 + (1 : Int)) (3 : Int))) (pickF (Reader.b r) ((x_59 + (1 : Int)) + 1) many) x_61)])) * 32) ≤ 140737488355328) ∧
 (((List.length x_56) + (List.length [(Fixup.mk (x_57 + (pickF (Reader.b r) x_59 (3 : Int))) (1 + (pickF (Reader.b r) (x_59 + (1 : Int)) (3 : Int))) (pickF (Reader.b r) ((x_59 + (1 : Int)) + 1) many) x_61)])) ≤ 1000000000000)) ∧
 ((i64 ((x_57 + (pickF (Reader.b r) x_59 (3 : Int))) + (fixWide (1 + (pickF (Reader.b r) (x_59 + (1 : Int)) (3 : Int)))))) ∧
 ((i64 (x_58 - (1 : Int))) ∧
 (∃ (x_99 : ByteArray), (∃ (x_100 : Int), (∃ (x_101 : Int), (∃ (x_102 : (List Int)), (∃ (x_103 : (List Fixup)), (∃ (x_104 : Int), (∃ (x_105 : Int), (∃ (x_106 : Int), (((x_58 - (1 : Int)) = x_105) ∧
 ((((x_57 + (pickF (Reader.b r) x_59 (3 : Int))) + (fixWide (1 + (pickF (Reader.b r) (x_59 + (1 : Int)) (3 : Int))))) = x_104) ∧
 ((many = many) ∧
 ((n = n) ∧
 ((@Eq (List Int) (Reader.b r) (Reader.b r)) ∧
 (((((((((x_59 + (1 : Int)) + 1) + 1) + 1) + 1) + 1) + 1) = x_106) ∧
 ((@Eq ByteArray (ByteArray.mk (@Array.mk UInt8 ([] : List UInt8))) (ByteArray.mk (@Array.mk UInt8 ([] : List UInt8)))) ∧
 (((0 : Int) = (0 : Int)) ∧
 (((0 : Int) = (0 : Int)) ∧
 ((@Eq (List Int) ([] : List Int) ([] : List Int)) ∧
 (((0 : Int) = (0 : Int)) ∧
 ((@Eq (List Fixup) ([] : List Fixup) ([] : List Fixup)) ∧
 ((@Eq ByteArray x_52 x_99) ∧
 ((x_53 = x_100) ∧
 ((x_54 = x_101) ∧
 (((0 : Int) = (0 : Int)) ∧
 ((@Eq (List Int) x_55 x_102) ∧
 ((@Eq (List Fixup) (x_56 ++ [(Fixup.mk (x_57 + (pickF (Reader.b r) x_59 (3 : Int))) (1 + (pickF (Reader.b r) (x_59 + (1 : Int)) (3 : Int))) (pickF (Reader.b r) ((x_59 + (1 : Int)) + 1) many) x_61)]) x_103) ∧
 ((((ByteArray.size x_99) ≤ 16) ∧
 (((List.length x_102) ≤ 14) ∧
 ((0 ≤ x_105) ∧
 ((((LN x_103) + x_105) ≤ 3) ∧
 ((0 ≤ x_104) ∧
 ((x_104 ≤ (100 : Int)) ∧
 (((Reader.p r) ≤ x_106) ∧
 ((x_106 + (9 * x_105)) ≤ ((Reader.p r) + 70))))))))) ∧
 ((Int.toNat x_105) < (Int.toNat x_58)))))))))))))))))))))))))))))))))))))))))))))))))))))))) ∧
 (((decide (0 < many)) = false) →
 (∃ (x_107 : ByteArray), (∃ (x_108 : Int), (∃ (x_109 : Int), (∃ (x_110 : (List Int)), (∃ (x_111 : Int), (∃ (x_112 : (List Fixup)), (∃ (x_113 : Int), ((many = many) ∧
 ((n = n) ∧
 ((@Eq (List Int) (Reader.b r) (Reader.b r)) ∧
 ((x_59 = x_113) ∧
 ((@Eq ByteArray (ByteArray.mk (@Array.mk UInt8 ([] : List UInt8))) (ByteArray.mk (@Array.mk UInt8 ([] : List UInt8)))) ∧
 (((0 : Int) = (0 : Int)) ∧
 (((0 : Int) = (0 : Int)) ∧
 ((@Eq (List Int) ([] : List Int) ([] : List Int)) ∧
 (((0 : Int) = (0 : Int)) ∧
 ((@Eq (List Fixup) ([] : List Fixup) ([] : List Fixup)) ∧
 ((@Eq ByteArray x_52 x_107) ∧
 ((x_53 = x_108) ∧
 ((x_54 = x_109) ∧
 ((0 = x_111) ∧
 ((@Eq (List Int) x_55 x_110) ∧
 ((@Eq (List Fixup) x_56 x_112) ∧
 ((((ByteArray.size x_107) ≤ 16) ∧
 (((List.length x_110) ≤ 14) ∧
 (((List.length x_112) ≤ 3) ∧
 (((- (1 : Int)) ≤ x_111) ∧
 ((x_111 ≤ (48 : Int)) ∧
 (((Reader.p r) ≤ x_113) ∧
 (x_113 ≤ ((Reader.p r) + 80)))))))) ∧
 (R_spec_l20Section_1 r many n)))))))))))))))))))))))))))) ∧
 (((decide (0 < x_58)) = false) →
 (∃ (x_144 : ByteArray), (∃ (x_145 : Int), (∃ (x_146 : Int), (∃ (x_147 : (List Int)), (∃ (x_148 : Int), (∃ (x_149 : (List Fixup)), (∃ (x_150 : Int), ((many = many) ∧
 ((n = n) ∧
 ((@Eq (List Int) (Reader.b r) (Reader.b r)) ∧
 ((x_59 = x_150) ∧
 ((@Eq ByteArray (ByteArray.mk (@Array.mk UInt8 ([] : List UInt8))) (ByteArray.mk (@Array.mk UInt8 ([] : List UInt8)))) ∧
 (((0 : Int) = (0 : Int)) ∧
 (((0 : Int) = (0 : Int)) ∧
 ((@Eq (List Int) ([] : List Int) ([] : List Int)) ∧
 (((0 : Int) = (0 : Int)) ∧
 ((@Eq (List Fixup) ([] : List Fixup) ([] : List Fixup)) ∧
 ((@Eq ByteArray x_52 x_144) ∧
 ((x_53 = x_145) ∧
 ((x_54 = x_146) ∧
 ((0 = x_148) ∧
 ((@Eq (List Int) x_55 x_147) ∧
 ((@Eq (List Fixup) x_56 x_149) ∧
 ((((ByteArray.size x_144) ≤ 16) ∧
 (((List.length x_147) ≤ 14) ∧
 (((List.length x_149) ≤ 3) ∧
 (((- (1 : Int)) ≤ x_148) ∧
 ((x_148 ≤ (48 : Int)) ∧
 (((Reader.p r) ≤ x_150) ∧
 (x_150 ≤ ((Reader.p r) + 80)))))))) ∧
 (R_spec_l20Section_1 r many n)))))))))))))))))))))))))))))))))))))))))))))))))))))))) := by kernel_rfl
theorem det_spec_l20Section : C_spec_l20Section.det = true → ∀ x, (C_spec_l20Section.out x).Det := fun h => absurd h Bool.false_ne_true
set_option maxRecDepth 200000 in
set_option maxHeartbeats 4000000 in
theorem ok_spec_l20Section : ConOK Try.prog 62 C_spec_l20Section := by
  refine con_mk (wr := false) (ty := tyL tys_) (l := L_spec_l20Section) ⟨⟨ok_spec_l20Name, det_spec_l20Name⟩, ⟨⟨ok_spec_l20Rd_pick, det_spec_l20Rd_pick⟩, ⟨⟨ok_spec_l20Bytes, det_spec_l20Bytes⟩, ⟨⟨ok_spec_FixupWide, det_spec_FixupWide⟩, ⟨⟨ok_spec_l20Rd_odd, det_spec_l20Rd_odd⟩, trivial⟩⟩⟩⟩⟩ Try.checked.mixed (fn := Try.f62) (body := Try.f62.body.getD .skip) Try.func62 rfl (by decide) (by kernel_rfl) rfl an_spec_l20Section fun x ho hx => ?_
  obtain ⟨r, many, n, ⟨⟩⟩ := x
  refine Keeps.of (vc_spec_l20Section r many n) ?_
  revert r many n ho hx
  show ∀ (r : Reader) (many : Int) (n : Int), _
  intro r many n ho hx
  dsimp only [C_spec_l20Section, okPTL, okPT, Ok, Ty.cells, SN.cells, OkL, OkC, okI, ci, cb, cs, cl] at ho
  dsimp only [C_spec_l20Section, vc, v1, decB, SR.pre] at hx
  have hR_spec_l20Section_1 : R_spec_l20Section_1 r many n := by
    delta R_spec_l20Section_1
    have hb := pickF_bd r.b
    have hw := fixWide_le
    (try delta i64 LN); simp only [DRt, ex_sect2]; (repeat' first | apply And.intro | (intro x hq _; replace hq := List.mem_of_getElem? hq; simp only [List.mem_cons, List.not_mem_nil, or_false] at hq) | intro _); all_goals (try omega)
    all_goals (try grind [secSm_mk, symSm_mk, objSm_mk, secsSm_nil, symsSm_nil, objsA_nil, nmsSm_nil, secsSm_app, symsSm_app, objsA_app, nmsSm_app, secsSm_get, symsSm_get, objsA_get, nmsSm_get, objSm_iff, secSm_iff, symSm_iff, secSize_sm, repl_secs, repl_len, repl_syms, repl_objs, symsSm_bind, objsA_name, namesG_sm, symsAt_eq])
  simp only [eq_true hR_spec_l20Section_1]
  have hb := pickF_bd r.b
  have hw := fixWide_le
  (try delta i64 LN); simp only [DRt, ex_sect2]; (repeat' first | apply And.intro | (intro x hq _; replace hq := List.mem_of_getElem? hq; simp only [List.mem_cons, List.not_mem_nil, or_false] at hq) | intro _); all_goals (try omega)
  all_goals (try grind [secSm_mk, symSm_mk, objSm_mk, secsSm_nil, symsSm_nil, objsA_nil, nmsSm_nil, secsSm_app, symsSm_app, objsA_app, nmsSm_app, secsSm_get, symsSm_get, objsA_get, nmsSm_get, objSm_iff, secSm_iff, symSm_iff, secSize_sm, repl_secs, repl_len, repl_syms, repl_objs, symsSm_bind, objsA_name, namesG_sm, symsAt_eq])
def C_spec_l20Symbol : Con := { ps := [.box (.ty (.st .reader)), .ro (.list (.st .sect)), .ro .i], out := fun x => let r : Reader := x.1; let l : List (Sect) := x.2.1; let n : Int := x.2.2.1; .req (0 ≤ r.p ∧ r.p ≤ 100000000 ∧ n ≤ 1000000 ∧ secsSm l = true) (.all Sym fun s => .all Int fun p => .giv (r.p ≤ p ∧ p ≤ r.p + 30 ∧ symSm s = true) (rdV (ast .sym s) p)), det := false }
abbrev L_spec_l20Symbol : List (Nat × Con) := [(77, C_spec_l20Name), (61, C_spec_l20Rd_pick), (96, C_spec_SectionSize), (64, C_spec_l20Rd_odd)]
def G_spec_l20Symbol : Cfg := mkG (tyL tys_) L_spec_l20Symbol false
def an_spec_l20Symbol : PTL C_spec_l20Symbol.ps → Nat → Option Ann := fun x kk_ => let r : Reader := x.1; let l : List (Sect) := x.2.1; let n : Int := x.2.2.1; if kk_ = 1010 then some (.all (Sym) fun s => .all (Int) fun p => .giv (symSm s = true ∧ r.p ≤ p ∧ p ≤ r.p + 20) (.mk [(0, aref 0), (1, al (.st .sect) l), (2, ai n), (6, aref 30), (7, aref 31)] [(0, lent (.st .reader) ⟨r.b, p⟩), (30, bx (ast .sym ⟨⟨⟨[]⟩⟩, 0, 0, 0⟩)), (31, bx (ast .sym s))] (0))) else none
def R_spec_l20Symbol_1 (r : Reader) (l : List (Sect)) (n : Int) : Prop := (∀ (x_6 : Sym), (∀ (x_7 : Int), ((((symSm x_6) = true) ∧
 (((Reader.p r) ≤ x_7) ∧
 (x_7 ≤ ((Reader.p r) + 20)))) →
 (((0 : Nat) = (0 : Nat)) →
 (((0 ≤ x_7) ∧
 ((x_7 ≤ (1000000000000 : Int)) ∧
 (n ≤ 1000000))) ∧
 (∀ (x_8 : Bool), (∀ (x_9 : Int), (((x_7 ≤ x_9) ∧
 ((x_9 ≤ (x_7 + (1 : Int))) ∧
 ((n ≤ 0) →
 (x_8 = false)))) →
 (((x_8 = true) →
 (((0 ≤ x_9) ∧
 (x_9 ≤ (1000000000000 : Int))) ∧
 ((((decide ((pickF (Reader.b r) x_9 (5 : Int)) = 0)) = true) →
 (((0 ≤ (x_9 + (1 : Int))) ∧
 (((x_9 + (1 : Int)) ≤ 1000000000) ∧
 ((1 : Int) ≤ (1000000 : Int)))) ∧
 (∀ (x_10 : ByteArray), (∀ (x_11 : Int), ((((x_9 + (1 : Int)) ≤ x_11) ∧
 ((x_11 ≤ ((x_9 + (1 : Int)) + 3)) ∧
 (((ByteArray.size x_10) ≤ 16) ∧
 (((1 : Int) ≤ (0 : Int)) →
 ((nameB x_10) = true))))) →
 (∃ (x_12 : Sym), (∃ (x_13 : Int), (((@Eq ByteArray x_10 (Sym.name x_12)) ∧
 (((Sym.bind x_6) = (Sym.bind x_12)) ∧
 (((Sym.wher x_6) = (Sym.wher x_12)) ∧
 (((Sym.value x_6) = (Sym.value x_12)) ∧
 ((@Eq (List Int) (Reader.b r) (Reader.b r)) ∧
 ((x_11 = x_13) ∧
 True)))))) ∧
 (((Reader.p r) ≤ x_13) ∧
 ((x_13 ≤ ((Reader.p r) + 30)) ∧
 ((symSm x_12) = true))))))))))) ∧
 (((decide ((pickF (Reader.b r) x_9 (5 : Int)) = 0)) = false) →
 ((((decide ((pickF (Reader.b r) x_9 (5 : Int)) = 1)) = true) →
 (((0 ≤ (x_9 + (1 : Int))) ∧
 ((x_9 + (1 : Int)) ≤ 1000000000000)) ∧
 (((0 ≤ (pickF (Reader.b r) (x_9 + (1 : Int)) (2 : Int))) ∧
 ((pickF (Reader.b r) (x_9 + (1 : Int)) (2 : Int)) < (@Nat.cast Int _ (2 : Nat)))) ∧
 (∀ (x_14 : Int), ((@Eq (Option Int) ([(- (1 : Int)), (3 : Int)])[(Int.toNat (pickF (Reader.b r) (x_9 + (1 : Int)) (2 : Int)))]? (some x_14)) →
 ((Ok (Ty.int IntKind.i64) x_14) →
 (∃ (x_15 : Sym), (∃ (x_16 : Int), (((@Eq ByteArray (Sym.name x_6) (Sym.name x_15)) ∧
 ((x_14 = (Sym.bind x_15)) ∧
 (((Sym.wher x_6) = (Sym.wher x_15)) ∧
 (((Sym.value x_6) = (Sym.value x_15)) ∧
 ((@Eq (List Int) (Reader.b r) (Reader.b r)) ∧
 ((((x_9 + (1 : Int)) + 1) = x_16) ∧
 True)))))) ∧
 (((Reader.p r) ≤ x_16) ∧
 ((x_16 ≤ ((Reader.p r) + 30)) ∧
 ((symSm x_15) = true)))))))))))) ∧
 (((decide ((pickF (Reader.b r) x_9 (5 : Int)) = 1)) = false) →
 ((((decide ((pickF (Reader.b r) x_9 (5 : Int)) = 2)) = true) →
 (((List.length l) ≤ 9223372036854775807) →
 (((0 ≤ (x_9 + (1 : Int))) ∧
 ((x_9 + (1 : Int)) ≤ 1000000000000)) ∧
 (((0 ≤ (pickF (Reader.b r) (x_9 + (1 : Int)) (2 : Int))) ∧
 ((pickF (Reader.b r) (x_9 + (1 : Int)) (2 : Int)) < (LN [(- (3 : Int)), (LN l)]))) ∧
 (∀ (x_17 : Int), ((@Eq (Option Int) ([(- (3 : Int)), (LN l)])[(Int.toNat (pickF (Reader.b r) (x_9 + (1 : Int)) (2 : Int)))]? (some x_17)) →
 ((Ok (Ty.int IntKind.i64) x_17) →
 (∃ (x_18 : Sym), (∃ (x_19 : Int), (((@Eq ByteArray (Sym.name x_6) (Sym.name x_18)) ∧
 (((Sym.bind x_6) = (Sym.bind x_18)) ∧
 ((x_17 = (Sym.wher x_18)) ∧
 (((Sym.value x_6) = (Sym.value x_18)) ∧
 ((@Eq (List Int) (Reader.b r) (Reader.b r)) ∧
 ((((x_9 + (1 : Int)) + 1) = x_19) ∧
 True)))))) ∧
 (((Reader.p r) ≤ x_19) ∧
 ((x_19 ≤ ((Reader.p r) + 30)) ∧
 ((symSm x_18) = true))))))))))))) ∧
 (((decide ((pickF (Reader.b r) x_9 (5 : Int)) = 2)) = false) →
 ((((decide ((pickF (Reader.b r) x_9 (5 : Int)) = 3)) = true) →
 (((0 ≤ (x_9 + (1 : Int))) ∧
 ((x_9 + (1 : Int)) ≤ 1000000000000)) ∧
 (((0 ≤ (pickF (Reader.b r) (x_9 + (1 : Int)) (2 : Int))) ∧
 ((pickF (Reader.b r) (x_9 + (1 : Int)) (2 : Int)) < (@Nat.cast Int _ (2 : Nat)))) ∧
 (∀ (x_20 : Int), ((@Eq (Option Int) ([(- (1 : Int)), (60001 : Int)])[(Int.toNat (pickF (Reader.b r) (x_9 + (1 : Int)) (2 : Int)))]? (some x_20)) →
 ((Ok (Ty.int IntKind.i64) x_20) →
 (∃ (x_21 : Sym), (∃ (x_22 : Int), (((@Eq ByteArray (Sym.name x_6) (Sym.name x_21)) ∧
 (((Sym.bind x_6) = (Sym.bind x_21)) ∧
 (((Sym.wher x_6) = (Sym.wher x_21)) ∧
 ((x_20 = (Sym.value x_21)) ∧
 ((@Eq (List Int) (Reader.b r) (Reader.b r)) ∧
 ((((x_9 + (1 : Int)) + 1) = x_22) ∧
 True)))))) ∧
 (((Reader.p r) ≤ x_22) ∧
 ((x_22 ≤ ((Reader.p r) + 30)) ∧
 ((symSm x_21) = true)))))))))))) ∧
 (((decide ((pickF (Reader.b r) x_9 (5 : Int)) = 3)) = false) →
 (∃ (x_23 : Sym), (∃ (x_24 : Int), (((@Eq ByteArray (ByteArray.mk (@Array.mk UInt8 [(120 : UInt8)])) (Sym.name x_23)) ∧
 ((0 = (Sym.bind x_23)) ∧
 (((- (1 : Int)) = (Sym.wher x_23)) ∧
 ((0 = (Sym.value x_23)) ∧
 ((@Eq (List Int) (Reader.b r) (Reader.b r)) ∧
 (((x_9 + (1 : Int)) = x_24) ∧
 True)))))) ∧
 (((Reader.p r) ≤ x_24) ∧
 ((x_24 ≤ ((Reader.p r) + 30)) ∧
 ((symSm x_23) = true)))))))))))))))) ∧
 ((x_8 = false) →
 (∃ (x_25 : Sym), (∃ (x_26 : Int), (((@Eq ByteArray (Sym.name x_6) (Sym.name x_25)) ∧
 (((Sym.bind x_6) = (Sym.bind x_25)) ∧
 (((Sym.wher x_6) = (Sym.wher x_25)) ∧
 (((Sym.value x_6) = (Sym.value x_25)) ∧
 ((@Eq (List Int) (Reader.b r) (Reader.b r)) ∧
 ((x_9 = x_26) ∧
 True)))))) ∧
 (((Reader.p r) ≤ x_26) ∧
 ((x_26 ≤ ((Reader.p r) + 30)) ∧
 ((symSm x_25) = true))))))))))))))))
set_option maxRecDepth 200000 in
theorem vc_spec_l20Symbol (r : Reader) (l : List (Sect)) (n : Int) : (keeps Try.prog G_spec_l20Symbol (an_spec_l20Symbol (r, l, n, ())) (Try.f63.body.getD .skip) Try.f63.results.toList C_spec_l20Symbol (r, l, n, ())) = ((((0 ≤ (Reader.p r)) ∧
 (((Reader.p r) ≤ 1000000000) ∧
 ((0 : Int) ≤ (1000000 : Int)))) ∧
 (∀ (x_1 : ByteArray), (∀ (x_2 : Int), ((((Reader.p r) ≤ x_2) ∧
 ((x_2 ≤ ((Reader.p r) + 3)) ∧
 (((ByteArray.size x_1) ≤ 16) ∧
 (((0 : Int) ≤ (0 : Int)) →
 ((nameB x_1) = true))))) →
 (((0 ≤ x_2) ∧
 (x_2 ≤ (1000000000000 : Int))) ∧
 (((0 ≤ (pickF (Reader.b r) x_2 (4 : Int))) ∧
 ((pickF (Reader.b r) x_2 (4 : Int)) < (@Nat.cast Int _ (4 : Nat)))) ∧
 (∀ (x_3 : Int), ((@Eq (Option Int) ([(0 : Int), (1 : Int), (1 : Int), (2 : Int)])[(Int.toNat (pickF (Reader.b r) x_2 (4 : Int)))]? (some x_3)) →
 ((Ok (Ty.int IntKind.i64) x_3) →
 (((0 ≤ (x_2 + (1 : Int))) ∧
 ((x_2 + (1 : Int)) ≤ 1000000000000)) ∧
 ((((decide ((pickF (Reader.b r) (x_2 + (1 : Int)) (3 : Int)) = 0)) = true) →
 (∃ (x_4 : Sym), (∃ (x_5 : Int), ((@Eq (List Sect) l l) ∧
 ((n = n) ∧
 ((@Eq (List Int) (Reader.b r) (Reader.b r)) ∧
 ((((x_2 + (1 : Int)) + 1) = x_5) ∧
 ((@Eq ByteArray (ByteArray.mk (@Array.mk UInt8 ([] : List UInt8))) (ByteArray.mk (@Array.mk UInt8 ([] : List UInt8)))) ∧
 (((0 : Int) = (0 : Int)) ∧
 (((0 : Int) = (0 : Int)) ∧
 (((0 : Int) = (0 : Int)) ∧
 ((@Eq ByteArray x_1 (Sym.name x_4)) ∧
 (((@Max.max Int _ (1 : Int) x_3) = (Sym.bind x_4)) ∧
 (((- (1 : Int)) = (Sym.wher x_4)) ∧
 ((0 = (Sym.value x_4)) ∧
 ((((symSm x_4) = true) ∧
 (((Reader.p r) ≤ x_5) ∧
 (x_5 ≤ ((Reader.p r) + 20)))) ∧
 (R_spec_l20Symbol_1 r l n))))))))))))))))) ∧
 (((decide ((pickF (Reader.b r) (x_2 + (1 : Int)) (3 : Int)) = 0)) = false) →
 (((0 ≤ ((x_2 + (1 : Int)) + 1)) ∧
 (((x_2 + (1 : Int)) + 1) ≤ 1000000000000)) ∧
 ((((decide ((pickF (Reader.b r) ((x_2 + (1 : Int)) + 1) (6 : Int)) = 0)) = true) →
 (((0 ≤ (((x_2 + (1 : Int)) + 1) + 1)) ∧
 ((((x_2 + (1 : Int)) + 1) + 1) ≤ 1000000000000)) ∧
 ((i64 ((pickF (Reader.b r) (((x_2 + (1 : Int)) + 1) + 1) (256 : Int)) * 16)) ∧
 (((0 ≤ ((((x_2 + (1 : Int)) + 1) + 1) + 1)) ∧
 (((((x_2 + (1 : Int)) + 1) + 1) + 1) ≤ 1000000000000)) ∧
 (((0 ≤ (pickF (Reader.b r) ((((x_2 + (1 : Int)) + 1) + 1) + 1) (6 : Int))) ∧
 ((0 : Int) < (5 : Int))) ∧
 (((0 ≤ ((pickF (Reader.b r) ((((x_2 + (1 : Int)) + 1) + 1) + 1) (6 : Int)) / 5)) ∧
 (((pickF (Reader.b r) ((((x_2 + (1 : Int)) + 1) + 1) + 1) (6 : Int)) / 5) < (LN [((pickF (Reader.b r) (((x_2 + (1 : Int)) + 1) + 1) (256 : Int)) * 16), (60000 : Int)]))) ∧
 (∀ (x_27 : Int), ((@Eq (Option Int) ([((pickF (Reader.b r) (((x_2 + (1 : Int)) + 1) + 1) (256 : Int)) * 16), (60000 : Int)])[(Int.toNat ((pickF (Reader.b r) ((((x_2 + (1 : Int)) + 1) + 1) + 1) (6 : Int)) / 5))]? (some x_27)) →
 ((Ok (Ty.int IntKind.i64) x_27) →
 (∃ (x_28 : Sym), (∃ (x_29 : Int), ((@Eq (List Sect) l l) ∧
 ((n = n) ∧
 ((@Eq (List Int) (Reader.b r) (Reader.b r)) ∧
 (((((((x_2 + (1 : Int)) + 1) + 1) + 1) + 1) = x_29) ∧
 ((@Eq ByteArray (ByteArray.mk (@Array.mk UInt8 ([] : List UInt8))) (ByteArray.mk (@Array.mk UInt8 ([] : List UInt8)))) ∧
 (((0 : Int) = (0 : Int)) ∧
 (((0 : Int) = (0 : Int)) ∧
 (((0 : Int) = (0 : Int)) ∧
 ((@Eq ByteArray x_1 (Sym.name x_28)) ∧
 ((x_3 = (Sym.bind x_28)) ∧
 (((- (2 : Int)) = (Sym.wher x_28)) ∧
 ((x_27 = (Sym.value x_28)) ∧
 ((((symSm x_28) = true) ∧
 (((Reader.p r) ≤ x_29) ∧
 (x_29 ≤ ((Reader.p r) + 20)))) ∧
 (R_spec_l20Symbol_1 r l n))))))))))))))))))))))))) ∧
 (((decide ((pickF (Reader.b r) ((x_2 + (1 : Int)) + 1) (6 : Int)) = 0)) = false) →
 (((List.length l) ≤ 9223372036854775807) →
 ((((decide ((LN l) = 0)) = true) →
 (((0 ≤ (((x_2 + (1 : Int)) + 1) + 1)) ∧
 ((((x_2 + (1 : Int)) + 1) + 1) ≤ 1000000000000)) ∧
 ((i64 ((pickF (Reader.b r) (((x_2 + (1 : Int)) + 1) + 1) (256 : Int)) * 16)) ∧
 (((0 ≤ ((((x_2 + (1 : Int)) + 1) + 1) + 1)) ∧
 (((((x_2 + (1 : Int)) + 1) + 1) + 1) ≤ 1000000000000)) ∧
 (((0 ≤ (pickF (Reader.b r) ((((x_2 + (1 : Int)) + 1) + 1) + 1) (6 : Int))) ∧
 ((0 : Int) < (5 : Int))) ∧
 (((0 ≤ ((pickF (Reader.b r) ((((x_2 + (1 : Int)) + 1) + 1) + 1) (6 : Int)) / 5)) ∧
 (((pickF (Reader.b r) ((((x_2 + (1 : Int)) + 1) + 1) + 1) (6 : Int)) / 5) < (LN [((pickF (Reader.b r) (((x_2 + (1 : Int)) + 1) + 1) (256 : Int)) * 16), (60000 : Int)]))) ∧
 (∀ (x_51 : Int), ((@Eq (Option Int) ([((pickF (Reader.b r) (((x_2 + (1 : Int)) + 1) + 1) (256 : Int)) * 16), (60000 : Int)])[(Int.toNat ((pickF (Reader.b r) ((((x_2 + (1 : Int)) + 1) + 1) + 1) (6 : Int)) / 5))]? (some x_51)) →
 ((Ok (Ty.int IntKind.i64) x_51) →
 (∃ (x_52 : Sym), (∃ (x_53 : Int), ((@Eq (List Sect) l l) ∧
 ((n = n) ∧
 ((@Eq (List Int) (Reader.b r) (Reader.b r)) ∧
 (((((((x_2 + (1 : Int)) + 1) + 1) + 1) + 1) = x_53) ∧
 ((@Eq ByteArray (ByteArray.mk (@Array.mk UInt8 ([] : List UInt8))) (ByteArray.mk (@Array.mk UInt8 ([] : List UInt8)))) ∧
 (((0 : Int) = (0 : Int)) ∧
 (((0 : Int) = (0 : Int)) ∧
 (((0 : Int) = (0 : Int)) ∧
 ((@Eq ByteArray x_1 (Sym.name x_52)) ∧
 ((x_3 = (Sym.bind x_52)) ∧
 (((- (2 : Int)) = (Sym.wher x_52)) ∧
 ((x_51 = (Sym.value x_52)) ∧
 ((((symSm x_52) = true) ∧
 (((Reader.p r) ≤ x_53) ∧
 (x_53 ≤ ((Reader.p r) + 20)))) ∧
 (R_spec_l20Symbol_1 r l n))))))))))))))))))))))))) ∧
 (((decide ((LN l) = 0)) = false) →
 (((List.length l) ≤ 9223372036854775807) →
 (((0 ≤ (((x_2 + (1 : Int)) + 1) + 1)) ∧
 ((((x_2 + (1 : Int)) + 1) + 1) ≤ 1000000000000)) ∧
 (((0 ≤ (pickF (Reader.b r) (((x_2 + (1 : Int)) + 1) + 1) (LN l))) ∧
 ((pickF (Reader.b r) (((x_2 + (1 : Int)) + 1) + 1) (LN l)) < (LN l))) ∧
 (∀ (x_75 : Sect), ((@Eq (Option Sect) (l)[(Int.toNat (pickF (Reader.b r) (((x_2 + (1 : Int)) + 1) + 1) (LN l)))]? (some x_75)) →
 ((Ok (Ty.st SN.sect) x_75) →
 ((i64 ((secSize x_75) + 1)) ∧
 (((0 ≤ ((((x_2 + (1 : Int)) + 1) + 1) + 1)) ∧
 (((((x_2 + (1 : Int)) + 1) + 1) + 1) ≤ 1000000000000)) ∧
 (∃ (x_76 : Sym), (∃ (x_77 : Int), ((@Eq (List Sect) l l) ∧
 ((n = n) ∧
 ((@Eq (List Int) (Reader.b r) (Reader.b r)) ∧
 (((((((x_2 + (1 : Int)) + 1) + 1) + 1) + 1) = x_77) ∧
 ((@Eq ByteArray (ByteArray.mk (@Array.mk UInt8 ([] : List UInt8))) (ByteArray.mk (@Array.mk UInt8 ([] : List UInt8)))) ∧
 (((0 : Int) = (0 : Int)) ∧
 (((0 : Int) = (0 : Int)) ∧
 (((0 : Int) = (0 : Int)) ∧
 ((@Eq ByteArray x_1 (Sym.name x_76)) ∧
 ((x_3 = (Sym.bind x_76)) ∧
 (((pickF (Reader.b r) (((x_2 + (1 : Int)) + 1) + 1) (LN l)) = (Sym.wher x_76)) ∧
 (((pickF (Reader.b r) ((((x_2 + (1 : Int)) + 1) + 1) + 1) ((secSize x_75) + 1)) = (Sym.value x_76)) ∧
 ((((symSm x_76) = true) ∧
 (((Reader.p r) ≤ x_77) ∧
 (x_77 ≤ ((Reader.p r) + 20)))) ∧
 (R_spec_l20Symbol_1 r l n))))))))))))))))))))))))))))))))))))))))))) := by kernel_rfl
theorem det_spec_l20Symbol : C_spec_l20Symbol.det = true → ∀ x, (C_spec_l20Symbol.out x).Det := fun h => absurd h Bool.false_ne_true
set_option maxRecDepth 200000 in
set_option maxHeartbeats 4000000 in
theorem ok_spec_l20Symbol : ConOK Try.prog 63 C_spec_l20Symbol := by
  refine con_mk (wr := false) (ty := tyL tys_) (l := L_spec_l20Symbol) ⟨⟨ok_spec_l20Name, det_spec_l20Name⟩, ⟨⟨ok_spec_l20Rd_pick, det_spec_l20Rd_pick⟩, ⟨⟨ok_spec_SectionSize, det_spec_SectionSize⟩, ⟨⟨ok_spec_l20Rd_odd, det_spec_l20Rd_odd⟩, trivial⟩⟩⟩⟩ Try.checked.mixed (fn := Try.f63) (body := Try.f63.body.getD .skip) Try.func63 rfl (by decide) (by kernel_rfl) rfl an_spec_l20Symbol fun x ho hx => ?_
  obtain ⟨r, l, n, ⟨⟩⟩ := x
  refine Keeps.of (vc_spec_l20Symbol r l n) ?_
  revert r l n ho hx
  show ∀ (r : Reader) (l : List (Sect)) (n : Int), _
  intro r l n ho hx
  dsimp only [C_spec_l20Symbol, okPTL, okPT, Ok, Ty.cells, SN.cells, OkL, OkC, okI, ci, cb, cs, cl] at ho
  dsimp only [C_spec_l20Symbol, vc, v1, decB, SR.pre] at hx
  have hR_spec_l20Symbol_1 : R_spec_l20Symbol_1 r l n := by
    delta R_spec_l20Symbol_1
    have hb := pickF_bd r.b
    (try delta i64 LN); simp only [DRt, ex_sect2]; (repeat' first | apply And.intro | (intro x hq _; replace hq := List.mem_of_getElem? hq; simp only [List.mem_cons, List.not_mem_nil, or_false] at hq) | intro _); all_goals (try omega)
    all_goals first | rfl | (have := secs_sz (by first | assumption | exact hx.1.2.2.2) (by assumption); omega) | (try grind [secSm_mk, symSm_mk, objSm_mk, secsSm_nil, symsSm_nil, objsA_nil, nmsSm_nil, secsSm_app, symsSm_app, objsA_app, nmsSm_app, secsSm_get, symsSm_get, objsA_get, nmsSm_get, objSm_iff, secSm_iff, symSm_iff, secSize_sm, repl_secs, repl_len, repl_syms, repl_objs, symsSm_bind, objsA_name, namesG_sm, symsAt_eq])
  simp only [eq_true hR_spec_l20Symbol_1]
  have hb := pickF_bd r.b
  (try delta i64 LN); simp only [DRt, ex_sect2]; (repeat' first | apply And.intro | (intro x hq _; replace hq := List.mem_of_getElem? hq; simp only [List.mem_cons, List.not_mem_nil, or_false] at hq) | intro _); all_goals (try omega)
  all_goals first | rfl | (have := secs_sz (by first | assumption | exact hx.1.2.2.2) (by assumption); omega) | (try grind [secSm_mk, symSm_mk, objSm_mk, secsSm_nil, symsSm_nil, objsA_nil, nmsSm_nil, secsSm_app, symsSm_app, objsA_app, nmsSm_app, secsSm_get, symsSm_get, objsA_get, nmsSm_get, objSm_iff, secSm_iff, symSm_iff, secSize_sm, repl_secs, repl_len, repl_syms, repl_objs, symsSm_bind, objsA_name, namesG_sm, symsAt_eq])
def C_spec_l20Object : Con := { ps := [.box (.ty (.st .reader)), .ro .i], out := fun x => let r : Reader := x.1; let n : Int := x.2.1; .req (0 ≤ r.p ∧ r.p ≤ 10000000 ∧ n ≤ 1000000) (.all Objt fun o => .all Int fun p => .giv (r.p ≤ p ∧ p ≤ r.p + 700 ∧ objSm o = true) (rdS .obj o p)), det := false }
abbrev L_spec_l20Object : List (Nat × Con) := [(61, C_spec_l20Rd_pick), (62, C_spec_l20Section), (63, C_spec_l20Symbol), (64, C_spec_l20Rd_odd)]
def G_spec_l20Object : Cfg := mkG (tyL tys_) L_spec_l20Object false
def an_spec_l20Object : PTL C_spec_l20Object.ps → Nat → Option Ann := fun x kk_ => let r : Reader := x.1; let n : Int := x.2.1; if kk_ = 4 then some (.all (Int) fun many => .all (Int) fun k => .all (List Sect) fun a => .all (Int) fun p => .giv (0 ≤ many ∧ many ≤ 5 ∧ 0 ≤ k ∧ a.length + k ≤ 3 ∧ secsSm a = true ∧ r.p ≤ p ∧ p + 100 * k ≤ r.p + 310) (.mk [(6, ai many), (7, ai k), (4, aref 30), (5, aref 31), (0, aref 0), (1, ai n)] [(0, lent (.st .reader) ⟨r.b, p⟩), (30, bx (ast .obj ⟨[], []⟩)), (31, .box false [.sl 32 [], .nil]), (32, .row (some 87) (.st .sect) a true)] (k.toNat))) else if kk_ = 8 then some (.all (Int) fun many => .all (Int) fun k => .all (List Sect) fun a => .all (List Sym) fun y => .all (Int) fun p => .giv (0 ≤ many ∧ many ≤ 5 ∧ 0 ≤ k ∧ k ≤ many ∧ a.length ≤ 3 ∧ y.length ≤ k ∧ secsSm a = true ∧ symsSm y = true ∧ r.p ≤ p ∧ p ≤ r.p + 310 + 30 * k) (.mk [(6, ai many), (8, ai k), (4, aref 30), (5, aref 31), (0, aref 0), (1, ai n)] [(0, lent (.st .reader) ⟨r.b, p⟩), (30, bx (ast .obj ⟨[], []⟩)), (31, .box false [.sl 32 [], .sl 33 []]), (32, .row (some 87) (.st .sect) a true), (33, .row (some 37) (.st .sym) y true)] ((many - k).toNat))) else if kk_ = 2012 then some (.all (Int) fun many => .all (Int) fun k => .all (Int) fun j => .all (List Sect) fun a => .all (List Sym) fun y => .all (Sym) fun s => .all (Int) fun p => .giv (0 ≤ many ∧ many ≤ 5 ∧ 0 ≤ k ∧ k < many ∧ 0 ≤ j ∧ j ≤ y.length ∧ a.length ≤ 3 ∧ y.length ≤ k ∧ secsSm a = true ∧ symsSm y = true ∧ symSm s = true ∧ r.p ≤ p ∧ p ≤ r.p + 340 + 30 * k) (.mk [(6, ai many), (8, ai k), (10, ai j), (4, aref 30), (5, aref 31), (9, aref 35), (0, aref 0), (1, ai n)] [(0, lent (.st .reader) ⟨r.b, p⟩), (30, bx (ast .obj ⟨[], []⟩)), (31, .box false [.sl 32 [], .sl 33 []]), (32, .row (some 87) (.st .sect) a true), (33, .row (some 37) (.st .sym) y true), (35, bx (ast .sym s))] ((many - k).toNat * 1000 + (100 - j).toNat))) else none
set_option maxRecDepth 200000 in
theorem vc_spec_l20Object (r : Reader) (n : Int) : (keeps Try.prog G_spec_l20Object (an_spec_l20Object (r, n, ())) (Try.f34.body.getD .skip) Try.f34.results.toList C_spec_l20Object (r, n, ())) = ((((0 ≤ (Reader.p r)) ∧
 ((Reader.p r) ≤ 1000000000000)) ∧
 (((0 ≤ ((Reader.p r) + 1)) ∧
 (((Reader.p r) + 1) ≤ 1000000000000)) ∧
 ((∃ (x_1 : Int), (∃ (x_2 : Int), (∃ (x_3 : (List Sect)), (∃ (x_4 : Int), (((pickF (Reader.b r) (Reader.p r) (6 : Int)) = x_1) ∧
 (((pickF (Reader.b r) ((Reader.p r) + 1) (4 : Int)) = x_2) ∧
 ((n = n) ∧
 ((@Eq (List Int) (Reader.b r) (Reader.b r)) ∧
 (((((Reader.p r) + 1) + 1) = x_4) ∧
 ((@Eq (List Sect) ([] : List Sect) ([] : List Sect)) ∧
 ((@Eq (List Sym) ([] : List Sym) ([] : List Sym)) ∧
 ((@Eq (List Sect) ([] : List Sect) x_3) ∧
 (((0 ≤ x_1) ∧
 ((x_1 ≤ (5 : Int)) ∧
 ((0 ≤ x_2) ∧
 ((((LN x_3) + x_2) ≤ 3) ∧
 (((secsSm x_3) = true) ∧
 (((Reader.p r) ≤ x_4) ∧
 ((x_4 + (100 * x_2)) ≤ ((Reader.p r) + 310)))))))) ∧
 True))))))))))))) ∧
 (∀ (x_5 : Int), (∀ (x_6 : Int), (∀ (x_7 : (List Sect)), (∀ (x_8 : Int), (((0 ≤ x_5) ∧
 ((x_5 ≤ (5 : Int)) ∧
 ((0 ≤ x_6) ∧
 ((((LN x_7) + x_6) ≤ 3) ∧
 (((secsSm x_7) = true) ∧
 (((Reader.p r) ≤ x_8) ∧
 ((x_8 + (100 * x_6)) ≤ ((Reader.p r) + 310)))))))) →
 ((((decide (0 < x_6)) = true) →
 (((0 ≤ x_8) ∧
 ((x_8 ≤ (100000000 : Int)) ∧
 ((0 ≤ x_5) ∧
 ((x_5 ≤ (1000 : Int)) ∧
 ((0 : Int) ≤ (1000000 : Int)))))) ∧
 (∀ (x_9 : Sect), (∀ (x_10 : Int), (((x_8 ≤ x_10) ∧
 ((x_10 ≤ (x_8 + (100 : Int))) ∧
 ((secSm x_9) = true))) →
 ((((((List.length x_7) + (List.length [x_9])) * 88) ≤ 140737488355328) ∧
 (((List.length x_7) + (List.length [x_9])) ≤ 1000000000000)) ∧
 ((i64 (x_6 - (1 : Int))) ∧
 (∃ (x_11 : Int), (∃ (x_12 : Int), (∃ (x_13 : (List Sect)), (∃ (x_14 : Int), ((x_5 = x_11) ∧
 (((x_6 - (1 : Int)) = x_12) ∧
 ((n = n) ∧
 ((@Eq (List Int) (Reader.b r) (Reader.b r)) ∧
 ((x_10 = x_14) ∧
 ((@Eq (List Sect) ([] : List Sect) ([] : List Sect)) ∧
 ((@Eq (List Sym) ([] : List Sym) ([] : List Sym)) ∧
 ((@Eq (List Sect) (x_7 ++ [x_9]) x_13) ∧
 (((0 ≤ x_11) ∧
 ((x_11 ≤ (5 : Int)) ∧
 ((0 ≤ x_12) ∧
 ((((LN x_13) + x_12) ≤ 3) ∧
 (((secsSm x_13) = true) ∧
 (((Reader.p r) ≤ x_14) ∧
 ((x_14 + (100 * x_12)) ≤ ((Reader.p r) + 310)))))))) ∧
 ((Int.toNat x_12) < (Int.toNat x_6)))))))))))))))))))))) ∧
 (((decide (0 < x_6)) = false) →
 ((∃ (x_15 : Int), (∃ (x_16 : Int), (∃ (x_17 : (List Sect)), (∃ (x_18 : (List Sym)), (∃ (x_19 : Int), ((x_5 = x_15) ∧
 ((0 = x_16) ∧
 ((n = n) ∧
 ((@Eq (List Int) (Reader.b r) (Reader.b r)) ∧
 ((x_8 = x_19) ∧
 ((@Eq (List Sect) ([] : List Sect) ([] : List Sect)) ∧
 ((@Eq (List Sym) ([] : List Sym) ([] : List Sym)) ∧
 ((@Eq (List Sect) x_7 x_17) ∧
 ((@Eq (List Sym) ([] : List Sym) x_18) ∧
 (((0 ≤ x_15) ∧
 ((x_15 ≤ (5 : Int)) ∧
 ((0 ≤ x_16) ∧
 ((x_16 ≤ x_15) ∧
 (((List.length x_17) ≤ 3) ∧
 (((LN x_18) ≤ x_16) ∧
 (((secsSm x_17) = true) ∧
 (((symsSm x_18) = true) ∧
 (((Reader.p r) ≤ x_19) ∧
 (x_19 ≤ (((Reader.p r) + 310) + (30 * x_16)))))))))))) ∧
 True))))))))))))))) ∧
 (∀ (x_20 : Int), (∀ (x_21 : Int), (∀ (x_22 : (List Sect)), (∀ (x_23 : (List Sym)), (∀ (x_24 : Int), (((0 ≤ x_20) ∧
 ((x_20 ≤ (5 : Int)) ∧
 ((0 ≤ x_21) ∧
 ((x_21 ≤ x_20) ∧
 (((List.length x_22) ≤ 3) ∧
 (((LN x_23) ≤ x_21) ∧
 (((secsSm x_22) = true) ∧
 (((symsSm x_23) = true) ∧
 (((Reader.p r) ≤ x_24) ∧
 (x_24 ≤ (((Reader.p r) + 310) + (30 * x_21)))))))))))) →
 ((((decide (x_21 < x_20)) = true) →
 (((0 ≤ x_24) ∧
 ((x_24 ≤ (100000000 : Int)) ∧
 (((0 : Int) ≤ (1000000 : Int)) ∧
 ((secsSm x_22) = true)))) ∧
 (∀ (x_25 : Sym), (∀ (x_26 : Int), (((x_24 ≤ x_26) ∧
 ((x_26 ≤ (x_24 + (30 : Int))) ∧
 ((symSm x_25) = true))) →
 (∃ (x_27 : Int), (∃ (x_28 : Int), (∃ (x_29 : Int), (∃ (x_30 : (List Sect)), (∃ (x_31 : (List Sym)), (∃ (x_32 : Sym), (∃ (x_33 : Int), ((x_20 = x_27) ∧
 ((x_21 = x_28) ∧
 ((0 = x_29) ∧
 ((n = n) ∧
 ((@Eq (List Int) (Reader.b r) (Reader.b r)) ∧
 ((x_26 = x_33) ∧
 ((@Eq (List Sect) ([] : List Sect) ([] : List Sect)) ∧
 ((@Eq (List Sym) ([] : List Sym) ([] : List Sym)) ∧
 ((@Eq (List Sect) x_22 x_30) ∧
 ((@Eq (List Sym) x_23 x_31) ∧
 ((@Eq ByteArray (Sym.name x_25) (Sym.name x_32)) ∧
 (((Sym.bind x_25) = (Sym.bind x_32)) ∧
 (((Sym.wher x_25) = (Sym.wher x_32)) ∧
 (((Sym.value x_25) = (Sym.value x_32)) ∧
 (((0 ≤ x_27) ∧
 ((x_27 ≤ (5 : Int)) ∧
 ((0 ≤ x_28) ∧
 ((x_28 < x_27) ∧
 ((0 ≤ x_29) ∧
 ((x_29 ≤ (LN x_31)) ∧
 (((List.length x_30) ≤ 3) ∧
 (((LN x_31) ≤ x_28) ∧
 (((secsSm x_30) = true) ∧
 (((symsSm x_31) = true) ∧
 (((symSm x_32) = true) ∧
 (((Reader.p r) ≤ x_33) ∧
 (x_33 ≤ (((Reader.p r) + 340) + (30 * x_28))))))))))))))) ∧
 (∀ (x_34 : Int), (∀ (x_35 : Int), (∀ (x_36 : Int), (∀ (x_37 : (List Sect)), (∀ (x_38 : (List Sym)), (∀ (x_39 : Sym), (∀ (x_40 : Int), (((0 ≤ x_34) ∧
 ((x_34 ≤ (5 : Int)) ∧
 ((0 ≤ x_35) ∧
 ((x_35 < x_34) ∧
 ((0 ≤ x_36) ∧
 ((x_36 ≤ (LN x_38)) ∧
 (((List.length x_37) ≤ 3) ∧
 (((LN x_38) ≤ x_35) ∧
 (((secsSm x_37) = true) ∧
 (((symsSm x_38) = true) ∧
 (((symSm x_39) = true) ∧
 (((Reader.p r) ≤ x_40) ∧
 (x_40 ≤ (((Reader.p r) + 340) + (30 * x_35))))))))))))))) →
 (((((Int.toNat (x_34 - x_35)) * 1000) + (Int.toNat (100 - x_36))) ≤ (((Int.toNat (x_27 - x_28)) * 1000) + (Int.toNat (100 - x_29)))) →
 (((List.length x_38) ≤ 9223372036854775807) →
 ((((decide (x_36 < (LN x_38))) = true) →
 (((0 ≤ x_36) ∧
 (x_36 < (LN x_38))) ∧
 (∀ (x_41 : Sym), ((@Eq (Option Sym) (x_38)[(Int.toNat x_36)]? (some x_41)) →
 ((Ok (Ty.st SN.sym) x_41) →
 ((((decide (@Eq ByteArray (Sym.name x_41) (Sym.name x_39))) = true) →
 ((((decide ((Sym.bind x_39) ≠ 0)) = true) →
 (((0 ≤ x_36) ∧
 (x_36 < (LN x_38))) ∧
 (∀ (x_42 : Sym), ((@Eq (Option Sym) (x_38)[(Int.toNat x_36)]? (some x_42)) →
 ((Ok (Ty.st SN.sym) x_42) →
 ((((decide ((Sym.bind x_42) ≠ 0)) = true) →
 ((i64 (48 + x_35)) ∧
 (((List.length [((48 + x_35) % (256 : (Ty.den Ty.u)))]) ≤ 1000000000000) ∧
 (((1 + (ByteArray.size (strOf [((48 + x_35) % (256 : (Ty.den Ty.u)))]))) ≤ 9223372036854775807) ∧
 ((i64 (7 * x_35)) ∧
 ((i64 (x_36 + (1 : Int))) ∧
 (∃ (x_43 : Int), (∃ (x_44 : Int), (∃ (x_45 : Int), (∃ (x_46 : (List Sect)), (∃ (x_47 : (List Sym)), (∃ (x_48 : Sym), (∃ (x_49 : Int), ((x_34 = x_43) ∧
 ((x_35 = x_44) ∧
 (((x_36 + (1 : Int)) = x_45) ∧
 ((n = n) ∧
 ((@Eq (List Int) (Reader.b r) (Reader.b r)) ∧
 ((x_40 = x_49) ∧
 ((@Eq (List Sect) ([] : List Sect) ([] : List Sect)) ∧
 ((@Eq (List Sym) ([] : List Sym) ([] : List Sym)) ∧
 ((@Eq (List Sect) x_37 x_46) ∧
 ((@Eq (List Sym) x_38 x_47) ∧
 ((@Eq ByteArray ((ByteArray.mk (@Array.mk UInt8 [(115 : UInt8)])) ++ (strOf [((48 + x_35) % (256 : (Ty.den Ty.u)))])) (Sym.name x_48)) ∧
 ((1 = (Sym.bind x_48)) ∧
 (((- (2 : Int)) = (Sym.wher x_48)) ∧
 (((7 * x_35) = (Sym.value x_48)) ∧
 (((0 ≤ x_43) ∧
 ((x_43 ≤ (5 : Int)) ∧
 ((0 ≤ x_44) ∧
 ((x_44 < x_43) ∧
 ((0 ≤ x_45) ∧
 ((x_45 ≤ (LN x_47)) ∧
 (((List.length x_46) ≤ 3) ∧
 (((LN x_47) ≤ x_44) ∧
 (((secsSm x_46) = true) ∧
 (((symsSm x_47) = true) ∧
 (((symSm x_48) = true) ∧
 (((Reader.p r) ≤ x_49) ∧
 (x_49 ≤ (((Reader.p r) + 340) + (30 * x_44))))))))))))))) ∧
 ((((Int.toNat (x_43 - x_44)) * 1000) + (Int.toNat (100 - x_45))) < (((Int.toNat (x_34 - x_35)) * 1000) + (Int.toNat (100 - x_36)))))))))))))))))))))))))))))))) ∧
 (((decide ((Sym.bind x_42) ≠ 0)) = false) →
 ((i64 (x_36 + (1 : Int))) ∧
 (∃ (x_50 : Int), (∃ (x_51 : Int), (∃ (x_52 : Int), (∃ (x_53 : (List Sect)), (∃ (x_54 : (List Sym)), (∃ (x_55 : Sym), (∃ (x_56 : Int), ((x_34 = x_50) ∧
 ((x_35 = x_51) ∧
 (((x_36 + (1 : Int)) = x_52) ∧
 ((n = n) ∧
 ((@Eq (List Int) (Reader.b r) (Reader.b r)) ∧
 ((x_40 = x_56) ∧
 ((@Eq (List Sect) ([] : List Sect) ([] : List Sect)) ∧
 ((@Eq (List Sym) ([] : List Sym) ([] : List Sym)) ∧
 ((@Eq (List Sect) x_37 x_53) ∧
 ((@Eq (List Sym) x_38 x_54) ∧
 ((@Eq ByteArray (Sym.name x_39) (Sym.name x_55)) ∧
 (((Sym.bind x_39) = (Sym.bind x_55)) ∧
 (((Sym.wher x_39) = (Sym.wher x_55)) ∧
 (((Sym.value x_39) = (Sym.value x_55)) ∧
 (((0 ≤ x_50) ∧
 ((x_50 ≤ (5 : Int)) ∧
 ((0 ≤ x_51) ∧
 ((x_51 < x_50) ∧
 ((0 ≤ x_52) ∧
 ((x_52 ≤ (LN x_54)) ∧
 (((List.length x_53) ≤ 3) ∧
 (((LN x_54) ≤ x_51) ∧
 (((secsSm x_53) = true) ∧
 (((symsSm x_54) = true) ∧
 (((symSm x_55) = true) ∧
 (((Reader.p r) ≤ x_56) ∧
 (x_56 ≤ (((Reader.p r) + 340) + (30 * x_51))))))))))))))) ∧
 ((((Int.toNat (x_50 - x_51)) * 1000) + (Int.toNat (100 - x_52))) < (((Int.toNat (x_34 - x_35)) * 1000) + (Int.toNat (100 - x_36)))))))))))))))))))))))))))))))))) ∧
 (((decide ((Sym.bind x_39) ≠ 0)) = false) →
 ((i64 (x_36 + (1 : Int))) ∧
 (∃ (x_57 : Int), (∃ (x_58 : Int), (∃ (x_59 : Int), (∃ (x_60 : (List Sect)), (∃ (x_61 : (List Sym)), (∃ (x_62 : Sym), (∃ (x_63 : Int), ((x_34 = x_57) ∧
 ((x_35 = x_58) ∧
 (((x_36 + (1 : Int)) = x_59) ∧
 ((n = n) ∧
 ((@Eq (List Int) (Reader.b r) (Reader.b r)) ∧
 ((x_40 = x_63) ∧
 ((@Eq (List Sect) ([] : List Sect) ([] : List Sect)) ∧
 ((@Eq (List Sym) ([] : List Sym) ([] : List Sym)) ∧
 ((@Eq (List Sect) x_37 x_60) ∧
 ((@Eq (List Sym) x_38 x_61) ∧
 ((@Eq ByteArray (Sym.name x_39) (Sym.name x_62)) ∧
 (((Sym.bind x_39) = (Sym.bind x_62)) ∧
 (((Sym.wher x_39) = (Sym.wher x_62)) ∧
 (((Sym.value x_39) = (Sym.value x_62)) ∧
 (((0 ≤ x_57) ∧
 ((x_57 ≤ (5 : Int)) ∧
 ((0 ≤ x_58) ∧
 ((x_58 < x_57) ∧
 ((0 ≤ x_59) ∧
 ((x_59 ≤ (LN x_61)) ∧
 (((List.length x_60) ≤ 3) ∧
 (((LN x_61) ≤ x_58) ∧
 (((secsSm x_60) = true) ∧
 (((symsSm x_61) = true) ∧
 (((symSm x_62) = true) ∧
 (((Reader.p r) ≤ x_63) ∧
 (x_63 ≤ (((Reader.p r) + 340) + (30 * x_58))))))))))))))) ∧
 ((((Int.toNat (x_57 - x_58)) * 1000) + (Int.toNat (100 - x_59))) < (((Int.toNat (x_34 - x_35)) * 1000) + (Int.toNat (100 - x_36)))))))))))))))))))))))))))))) ∧
 (((decide (@Eq ByteArray (Sym.name x_41) (Sym.name x_39))) = false) →
 ((i64 (x_36 + (1 : Int))) ∧
 (∃ (x_64 : Int), (∃ (x_65 : Int), (∃ (x_66 : Int), (∃ (x_67 : (List Sect)), (∃ (x_68 : (List Sym)), (∃ (x_69 : Sym), (∃ (x_70 : Int), ((x_34 = x_64) ∧
 ((x_35 = x_65) ∧
 (((x_36 + (1 : Int)) = x_66) ∧
 ((n = n) ∧
 ((@Eq (List Int) (Reader.b r) (Reader.b r)) ∧
 ((x_40 = x_70) ∧
 ((@Eq (List Sect) ([] : List Sect) ([] : List Sect)) ∧
 ((@Eq (List Sym) ([] : List Sym) ([] : List Sym)) ∧
 ((@Eq (List Sect) x_37 x_67) ∧
 ((@Eq (List Sym) x_38 x_68) ∧
 ((@Eq ByteArray (Sym.name x_39) (Sym.name x_69)) ∧
 (((Sym.bind x_39) = (Sym.bind x_69)) ∧
 (((Sym.wher x_39) = (Sym.wher x_69)) ∧
 (((Sym.value x_39) = (Sym.value x_69)) ∧
 (((0 ≤ x_64) ∧
 ((x_64 ≤ (5 : Int)) ∧
 ((0 ≤ x_65) ∧
 ((x_65 < x_64) ∧
 ((0 ≤ x_66) ∧
 ((x_66 ≤ (LN x_68)) ∧
 (((List.length x_67) ≤ 3) ∧
 (((LN x_68) ≤ x_65) ∧
 (((secsSm x_67) = true) ∧
 (((symsSm x_68) = true) ∧
 (((symSm x_69) = true) ∧
 (((Reader.p r) ≤ x_70) ∧
 (x_70 ≤ (((Reader.p r) + 340) + (30 * x_65))))))))))))))) ∧
 ((((Int.toNat (x_64 - x_65)) * 1000) + (Int.toNat (100 - x_66))) < (((Int.toNat (x_34 - x_35)) * 1000) + (Int.toNat (100 - x_36)))))))))))))))))))))))))))))))))) ∧
 (((decide (x_36 < (LN x_38))) = false) →
 ((((((List.length x_38) + (List.length [x_39])) * 40) ≤ 140737488355328) ∧
 (((List.length x_38) + (List.length [x_39])) ≤ 1000000000000)) ∧
 ((i64 (x_35 + (1 : Int))) ∧
 (∃ (x_71 : Int), (∃ (x_72 : Int), (∃ (x_73 : (List Sect)), (∃ (x_74 : (List Sym)), (∃ (x_75 : Int), ((x_34 = x_71) ∧
 (((x_35 + (1 : Int)) = x_72) ∧
 ((n = n) ∧
 ((@Eq (List Int) (Reader.b r) (Reader.b r)) ∧
 ((x_40 = x_75) ∧
 ((@Eq (List Sect) ([] : List Sect) ([] : List Sect)) ∧
 ((@Eq (List Sym) ([] : List Sym) ([] : List Sym)) ∧
 ((@Eq (List Sect) x_37 x_73) ∧
 ((@Eq (List Sym) (x_38 ++ [x_39]) x_74) ∧
 (((0 ≤ x_71) ∧
 ((x_71 ≤ (5 : Int)) ∧
 ((0 ≤ x_72) ∧
 ((x_72 ≤ x_71) ∧
 (((List.length x_73) ≤ 3) ∧
 (((LN x_74) ≤ x_72) ∧
 (((secsSm x_73) = true) ∧
 (((symsSm x_74) = true) ∧
 (((Reader.p r) ≤ x_75) ∧
 (x_75 ≤ (((Reader.p r) + 310) + (30 * x_72)))))))))))) ∧
 ((Int.toNat (x_71 - x_72)) < (Int.toNat (x_20 - x_21))))))))))))))))))))))))))))))))))))))))))))))))))))))))))) ∧
 (((decide (x_21 < x_20)) = false) →
 (((0 ≤ x_24) ∧
 ((x_24 ≤ (1000000000000 : Int)) ∧
 (n ≤ 1000000))) ∧
 (∀ (x_76 : Bool), (∀ (x_77 : Int), (((x_24 ≤ x_77) ∧
 ((x_77 ≤ (x_24 + (1 : Int))) ∧
 ((n ≤ 0) →
 (x_76 = false)))) →
 (((x_76 = true) →
 (((0 ≤ x_77) ∧
 (x_77 ≤ (1000000000000 : Int))) ∧
 ((((decide ((pickF (Reader.b r) x_77 (4 : Int)) = 0)) = true) →
 (((0 ≤ (x_77 + (1 : Int))) ∧
 (((x_77 + (1 : Int)) ≤ 100000000) ∧
 ((0 ≤ x_20) ∧
 ((x_20 ≤ (1000 : Int)) ∧
 ((1 : Int) ≤ (1000000 : Int)))))) ∧
 (∀ (x_78 : Sect), (∀ (x_79 : Int), ((((x_77 + (1 : Int)) ≤ x_79) ∧
 ((x_79 ≤ ((x_77 + (1 : Int)) + 100)) ∧
 ((secSm x_78) = true))) →
 ((((((List.length x_22) + (List.length [x_78])) * 88) ≤ 140737488355328) ∧
 (((List.length x_22) + (List.length [x_78])) ≤ 1000000000000)) ∧
 (∃ (x_80 : Objt), (∃ (x_81 : Int), (((@Eq (List Sect) (x_22 ++ [x_78]) (Objt.sects x_80)) ∧
 ((@Eq (List Sym) x_23 (Objt.syms x_80)) ∧
 ((@Eq (List Int) (Reader.b r) (Reader.b r)) ∧
 ((x_79 = x_81) ∧
 True)))) ∧
 (((Reader.p r) ≤ x_81) ∧
 ((x_81 ≤ ((Reader.p r) + 700)) ∧
 ((objSm x_80) = true)))))))))))) ∧
 (((decide ((pickF (Reader.b r) x_77 (4 : Int)) = 0)) = false) →
 ((((decide ((pickF (Reader.b r) x_77 (4 : Int)) = 1)) = true) →
 (((0 ≤ (x_77 + (1 : Int))) ∧
 (((x_77 + (1 : Int)) ≤ 100000000) ∧
 (((1 : Int) ≤ (1000000 : Int)) ∧
 ((secsSm x_22) = true)))) ∧
 (∀ (x_82 : Sym), (∀ (x_83 : Int), ((((x_77 + (1 : Int)) ≤ x_83) ∧
 ((x_83 ≤ ((x_77 + (1 : Int)) + 30)) ∧
 ((symSm x_82) = true))) →
 ((((((List.length x_23) + (List.length [x_82])) * 40) ≤ 140737488355328) ∧
 (((List.length x_23) + (List.length [x_82])) ≤ 1000000000000)) ∧
 (∃ (x_84 : Objt), (∃ (x_85 : Int), (((@Eq (List Sect) x_22 (Objt.sects x_84)) ∧
 ((@Eq (List Sym) (x_23 ++ [x_82]) (Objt.syms x_84)) ∧
 ((@Eq (List Int) (Reader.b r) (Reader.b r)) ∧
 ((x_83 = x_85) ∧
 True)))) ∧
 (((Reader.p r) ≤ x_85) ∧
 ((x_85 ≤ ((Reader.p r) + 700)) ∧
 ((objSm x_84) = true)))))))))))) ∧
 (((decide ((pickF (Reader.b r) x_77 (4 : Int)) = 1)) = false) →
 ((((decide ((pickF (Reader.b r) x_77 (4 : Int)) = 2)) = true) →
 ((((((List.length x_23) + 2) * 40) ≤ 140737488355328) ∧
 (((List.length x_23) + 2) ≤ 1000000000000)) ∧
 (∃ (x_86 : Objt), (∃ (x_87 : Int), (((@Eq (List Sect) x_22 (Objt.sects x_86)) ∧
 ((@Eq (List Sym) (x_23 ++ [(Sym.mk (ByteArray.mk (@Array.mk UInt8 [(116 : UInt8), (119 : UInt8), (111 : UInt8)])) (1 : Int) (- (2 : Int)) (0 : Int)), (Sym.mk (ByteArray.mk (@Array.mk UInt8 [(116 : UInt8), (119 : UInt8), (111 : UInt8)])) (2 : Int) (- (2 : Int)) (0 : Int))]) (Objt.syms x_86)) ∧
 ((@Eq (List Int) (Reader.b r) (Reader.b r)) ∧
 (((x_77 + (1 : Int)) = x_87) ∧
 True)))) ∧
 (((Reader.p r) ≤ x_87) ∧
 ((x_87 ≤ ((Reader.p r) + 700)) ∧
 ((objSm x_86) = true)))))))) ∧
 (((decide ((pickF (Reader.b r) x_77 (4 : Int)) = 2)) = false) →
 ((((13 : Int) = (13 : Int)) ∧
 (((0 : Int) ≤ (13 : Int)) ∧
 (((13 : Int) ≤ (1000000000000 : Int)) ∧
 (((@Nat.cast Int _ (40 : Nat)) * 13) ≤ 140737488355328)))) ∧
 (∃ (x_88 : Objt), (∃ (x_89 : Int), (((@Eq (List Sect) x_22 (Objt.sects x_88)) ∧
 ((@Eq (List Sym) (@repl Sym (13 : Int) (Sym.mk (ByteArray.mk (@Array.mk UInt8 ([] : List UInt8))) (0 : Int) (0 : Int) (0 : Int))) (Objt.syms x_88)) ∧
 ((@Eq (List Int) (Reader.b r) (Reader.b r)) ∧
 (((x_77 + (1 : Int)) = x_89) ∧
 True)))) ∧
 (((Reader.p r) ≤ x_89) ∧
 ((x_89 ≤ ((Reader.p r) + 700)) ∧
 ((objSm x_88) = true))))))))))))))) ∧
 ((x_76 = false) →
 (∃ (x_90 : Objt), (∃ (x_91 : Int), (((@Eq (List Sect) x_22 (Objt.sects x_90)) ∧
 ((@Eq (List Sym) x_23 (Objt.syms x_90)) ∧
 ((@Eq (List Int) (Reader.b r) (Reader.b r)) ∧
 ((x_77 = x_91) ∧
 True)))) ∧
 (((Reader.p r) ≤ x_91) ∧
 ((x_91 ≤ ((Reader.p r) + 700)) ∧
 ((objSm x_90) = true)))))))))))))))))))))))))))))))) := by kernel_rfl
theorem det_spec_l20Object : C_spec_l20Object.det = true → ∀ x, (C_spec_l20Object.out x).Det := fun h => absurd h Bool.false_ne_true
set_option maxRecDepth 200000 in
set_option maxHeartbeats 4000000 in
theorem ok_spec_l20Object : ConOK Try.prog 34 C_spec_l20Object := by
  refine con_mk (wr := false) (ty := tyL tys_) (l := L_spec_l20Object) ⟨⟨ok_spec_l20Rd_pick, det_spec_l20Rd_pick⟩, ⟨⟨ok_spec_l20Section, det_spec_l20Section⟩, ⟨⟨ok_spec_l20Symbol, det_spec_l20Symbol⟩, ⟨⟨ok_spec_l20Rd_odd, det_spec_l20Rd_odd⟩, trivial⟩⟩⟩⟩ Try.checked.mixed (fn := Try.f34) (body := Try.f34.body.getD .skip) Try.func34 rfl (by decide) (by kernel_rfl) rfl an_spec_l20Object fun x ho hx => ?_
  obtain ⟨r, n, ⟨⟩⟩ := x
  refine Keeps.of (vc_spec_l20Object r n) ?_
  revert r n ho hx
  show ∀ (r : Reader) (n : Int), _
  intro r n ho hx
  dsimp only [C_spec_l20Object, okPTL, okPT, Ok, Ty.cells, SN.cells, OkL, OkC, okI, ci, cb, cs, cl] at ho
  dsimp only [C_spec_l20Object, vc, v1, decB, SR.pre] at hx
  have hb := pickF_bd r.b
  (try delta i64 LN); simp only [DRt, ex_sect2]; (repeat' first | apply And.intro | (intro x hq _; replace hq := List.mem_of_getElem? hq; simp only [List.mem_cons, List.not_mem_nil, or_false] at hq) | intro _); all_goals (try omega)
  all_goals first | exact symSm_dig | exact symsAt_slen (by assumption) (by assumption) | exact symsAt_sl2 (by assumption) (by assumption) | exact symsAt_sm (by assumption) _ | exact objSm_two (by omega) (by omega) (by assumption) (by assumption) rfl rfl | (try grind [secSm_mk, symSm_mk, objSm_mk, secsSm_nil, symsSm_nil, objsA_nil, nmsSm_nil, secsSm_app, symsSm_app, objsA_app, nmsSm_app, secsSm_get, symsSm_get, objsA_get, nmsSm_get, objSm_iff, secSm_iff, symSm_iff, secSize_sm, repl_secs, repl_len, repl_syms, repl_objs, symsSm_bind, objsA_name, namesG_sm, symsAt_eq, strOf_len])
def C_spec_l20Objects : Con := { ps := [.box (.ty (.st .reader)), .ro .i], out := fun x => let r : Reader := x.1; let n : Int := x.2.1; .req (0 ≤ r.p ∧ r.p ≤ 1000000 ∧ 0 ≤ n ∧ n ≤ 100000) (.all (List Objt) fun l => .all Int fun p => .giv (r.p ≤ p ∧ p ≤ r.p + 5000 ∧ l.length ≤ 5 ∧ objsA l = true) (rdE 26 (.st .obj) l p)), det := false }
abbrev L_spec_l20Objects : List (Nat × Con) := [(61, C_spec_l20Rd_pick), (34, C_spec_l20Object), (13, C_spec_NamesGiven), (64, C_spec_l20Rd_odd)]
def G_spec_l20Objects : Cfg := mkG (tyL tys_) L_spec_l20Objects false
def an_spec_l20Objects : PTL C_spec_l20Objects.ps → Nat → Option Ann := fun x kk_ => let r : Reader := x.1; let n : Int := x.2.1; if kk_ = 3 then some (.all (Int) fun k => .all (List Objt) fun a => .all (Int) fun p => .giv (0 ≤ k ∧ a.length + k ≤ 3 ∧ objsA a = true ∧ r.p ≤ p ∧ p + 800 * k ≤ r.p + 2402) (.mk [(6, ai k), (5, asl 20), (0, aref 0), (1, ai n)] [(0, lent (.st .reader) ⟨r.b, p⟩), (20, .row (some 26) (.st .obj) a true)] (k.toNat))) else if kk_ = 2007 then some (.all (Int) fun k => .all (Int) fun j => .all (List Objt) fun a => .all (List Sect) fun b => .all (List Sym) fun y => .all (Int) fun p => .giv (0 < k ∧ a.length + k ≤ 3 ∧ objsA a = true ∧ 0 ≤ j ∧ j ≤ y.length ∧ b.length ≤ 6 ∧ y.length ≤ 20 ∧ secsSm b = true ∧ symsSm y = true ∧ r.p ≤ p ∧ p + 800 * k ≤ r.p + 2402 + 700 + j + 1) (.mk [(6, ai k), (8, ai j), (5, asl 20), (7, aref 34), (0, aref 0), (1, ai n)] [(0, lent (.st .reader) ⟨r.b, p⟩), (20, .row (some 26) (.st .obj) a true), (34, .box false [.sl 35 [], .sl 36 []]), (35, .row none (.st .sect) b true), (36, .row none (.st .sym) y true)] (k.toNat * 1000 + (100 - j).toNat))) else if kk_ = 15 then some (.all (Int) fun k => .all (List Objt) fun a => .all (List ByteArray) fun g => .all (Int) fun p => .giv (0 ≤ k ∧ k ≤ a.length ∧ a.length ≤ 3 ∧ objsA a = true ∧ nmsSm g = true ∧ g.length ≤ 20 * k ∧ r.p ≤ p ∧ p ≤ r.p + 2500) (.mk [(10, ai k), (5, asl 20), (9, asl 21), (0, aref 0), (1, ai n)] [(0, lent (.st .reader) ⟨r.b, p⟩), (20, .row (some 26) (.st .obj) a true), (21, .row (some 9) .str g true)] ((a.length - k.toNat)))) else if kk_ = 19 then some (.all (Int) fun k => .all (List Objt) fun a => .all (List ByteArray) fun g => .all (Int) fun p => .giv (0 ≤ k ∧ k ≤ a.length ∧ a.length ≤ 3 ∧ objsA a = true ∧ nmsSm g = true ∧ r.p ≤ p ∧ p ≤ r.p + 2500 + 20 * k) (.mk [(11, ai k), (5, asl 20), (9, al .str g), (0, aref 0), (1, ai n)] [(0, lent (.st .reader) ⟨r.b, p⟩), (20, .row (some 26) (.st .obj) a true)] ((a.length - k.toNat)))) else if kk_ = 2022 then some (.all (Int) fun k => .all (Int) fun j => .all (List Objt) fun a => .all (List ByteArray) fun g => .all (Int) fun p => .giv (0 ≤ k ∧ k < a.length ∧ a.length ≤ 3 ∧ 0 ≤ j ∧ (symsAt a k).length ≤ 20 ∧ j ≤ (symsAt a k).length ∧ objsA a = true ∧ nmsSm g = true ∧ r.p ≤ p ∧ p ≤ r.p + 2500 + 20 * k + j) (.mk [(11, ai k), (12, ai j), (5, asl 20), (9, al .str g), (0, aref 0), (1, ai n)] [(0, lent (.st .reader) ⟨r.b, p⟩), (20, .row (some 26) (.st .obj) a true)] ((a.length - k.toNat) * 1000000 + (100 - j).toNat * 1000))) else if kk_ = 2028 then some (.all (Int) fun k => .all (Int) fun j => .all (Int) fun i => .all (Bool) fun f => .all (ByteArray) fun nm => .all (List Objt) fun a => .all (List ByteArray) fun g => .all (Int) fun p => .giv (0 ≤ k ∧ k < a.length ∧ a.length ≤ 3 ∧ 0 ≤ j ∧ (symsAt a k).length ≤ 20 ∧ j < (symsAt a k).length ∧ 0 ≤ i ∧ i ≤ (symsAt a k).length ∧ objsA a = true ∧ nmsSm g = true ∧ nmSm nm = true ∧ r.p ≤ p ∧ p ≤ r.p + 2500 + 20 * k + j + 1) (.mk [(11, ai k), (12, ai j), (15, ai i), (13, ax nm), (14, ab f), (5, asl 20), (9, al .str g), (0, aref 0), (1, ai n)] [(0, lent (.st .reader) ⟨r.b, p⟩), (20, .row (some 26) (.st .obj) a true)] ((a.length - k.toNat) * 1000000 + (100 - j).toNat * 1000 + (100 - i).toNat))) else none
set_option maxRecDepth 200000 in
theorem vc_spec_l20Objects (r : Reader) (n : Int) : (keeps Try.prog G_spec_l20Objects (an_spec_l20Objects (r, n, ())) (Try.f44.body.getD .skip) Try.f44.results.toList C_spec_l20Objects (r, n, ())) = ((((0 ≤ (Reader.p r)) ∧
 ((Reader.p r) ≤ 1000000000000)) ∧
 ((∃ (x_1 : Int), (∃ (x_2 : (List Objt)), (∃ (x_3 : Int), (((pickF (Reader.b r) (Reader.p r) (4 : Int)) = x_1) ∧
 ((n = n) ∧
 ((@Eq (List Int) (Reader.b r) (Reader.b r)) ∧
 ((((Reader.p r) + 1) = x_3) ∧
 ((@Eq (List Objt) ([] : List Objt) x_2) ∧
 (((0 ≤ x_1) ∧
 ((((LN x_2) + x_1) ≤ 3) ∧
 (((objsA x_2) = true) ∧
 (((Reader.p r) ≤ x_3) ∧
 ((x_3 + (800 * x_1)) ≤ ((Reader.p r) + 2402)))))) ∧
 True))))))))) ∧
 (∀ (x_4 : Int), (∀ (x_5 : (List Objt)), (∀ (x_6 : Int), (((0 ≤ x_4) ∧
 ((((LN x_5) + x_4) ≤ 3) ∧
 (((objsA x_5) = true) ∧
 (((Reader.p r) ≤ x_6) ∧
 ((x_6 + (800 * x_4)) ≤ ((Reader.p r) + 2402)))))) →
 ((((decide (0 < x_4)) = true) →
 (((0 ≤ x_6) ∧
 ((x_6 ≤ (10000000 : Int)) ∧
 ((0 : Int) ≤ (1000000 : Int)))) ∧
 (∀ (x_7 : Objt), (∀ (x_8 : Int), (((x_6 ≤ x_8) ∧
 ((x_8 ≤ (x_6 + (700 : Int))) ∧
 ((objSm x_7) = true))) →
 (∃ (x_9 : Int), (∃ (x_10 : Int), (∃ (x_11 : (List Objt)), (∃ (x_12 : (List Sect)), (∃ (x_13 : (List Sym)), (∃ (x_14 : Int), ((x_4 = x_9) ∧
 ((0 = x_10) ∧
 ((n = n) ∧
 ((@Eq (List Int) (Reader.b r) (Reader.b r)) ∧
 ((x_8 = x_14) ∧
 ((@Eq (List Objt) x_5 x_11) ∧
 ((@Eq (List Sect) (Objt.sects x_7) x_12) ∧
 ((@Eq (List Sym) (Objt.syms x_7) x_13) ∧
 (((0 < x_9) ∧
 ((((LN x_11) + x_9) ≤ 3) ∧
 (((objsA x_11) = true) ∧
 ((0 ≤ x_10) ∧
 ((x_10 ≤ (LN x_13)) ∧
 (((List.length x_12) ≤ 6) ∧
 (((List.length x_13) ≤ 20) ∧
 (((secsSm x_12) = true) ∧
 (((symsSm x_13) = true) ∧
 (((Reader.p r) ≤ x_14) ∧
 ((x_14 + (800 * x_9)) ≤ (((((Reader.p r) + 2402) + 700) + x_10) + 1)))))))))))) ∧
 (∀ (x_15 : Int), (∀ (x_16 : Int), (∀ (x_17 : (List Objt)), (∀ (x_18 : (List Sect)), (∀ (x_19 : (List Sym)), (∀ (x_20 : Int), (((0 < x_15) ∧
 ((((LN x_17) + x_15) ≤ 3) ∧
 (((objsA x_17) = true) ∧
 ((0 ≤ x_16) ∧
 ((x_16 ≤ (LN x_19)) ∧
 (((List.length x_18) ≤ 6) ∧
 (((List.length x_19) ≤ 20) ∧
 (((secsSm x_18) = true) ∧
 (((symsSm x_19) = true) ∧
 (((Reader.p r) ≤ x_20) ∧
 ((x_20 + (800 * x_15)) ≤ (((((Reader.p r) + 2402) + 700) + x_16) + 1)))))))))))) →
 (((((Int.toNat x_15) * 1000) + (Int.toNat (100 - x_16))) ≤ (((Int.toNat x_9) * 1000) + (Int.toNat (100 - x_10)))) →
 (((List.length x_19) ≤ 9223372036854775807) →
 ((((decide (x_16 < (LN x_19))) = true) →
 (((0 ≤ x_20) ∧
 (x_20 ≤ (1000000000000 : Int))) ∧
 ((((decide ((pickF (Reader.b r) x_20 (2 : Int)) = 0)) = true) →
 (((0 ≤ x_16) ∧
 (x_16 < (LN x_19))) ∧
 (∀ (x_21 : Sym), ((@Eq (Option Sym) (x_19)[(Int.toNat x_16)]? (some x_21)) →
 ((Ok (Ty.st SN.sym) x_21) →
 ((((decide ((Sym.wher x_21) ≠ (- (1 : Int)))) = true) →
 (((0 ≤ x_16) ∧
 (x_16 < (LN x_19))) ∧
 (∀ (x_22 : Sym), ((@Eq (Option Sym) (x_19)[(Int.toNat x_16)]? (some x_22)) →
 ((Ok (Ty.st SN.sym) x_22) →
 ((((decide ((Sym.bind x_22) = 1)) = true) →
 (((0 ≤ x_16) ∧
 (x_16 < (LN x_19))) ∧
 (∀ (x_23 : Sym), ((@Eq (Option Sym) (x_19)[(Int.toNat x_16)]? (some x_23)) →
 ((i64 (x_16 + (1 : Int))) ∧
 (∃ (x_24 : Int), (∃ (x_25 : Int), (∃ (x_26 : (List Objt)), (∃ (x_27 : (List Sect)), (∃ (x_28 : (List Sym)), (∃ (x_29 : Int), ((x_15 = x_24) ∧
 (((x_16 + (1 : Int)) = x_25) ∧
 ((n = n) ∧
 ((@Eq (List Int) (Reader.b r) (Reader.b r)) ∧
 (((x_20 + (1 : Int)) = x_29) ∧
 ((@Eq (List Objt) x_17 x_26) ∧
 ((@Eq (List Sect) x_18 x_27) ∧
 ((@Eq (List Sym) (List.set x_19 (Int.toNat x_16) (Sym.mk (Sym.name x_23) (2 : Int) (Sym.wher x_23) (Sym.value x_23))) x_28) ∧
 (((0 < x_24) ∧
 ((((LN x_26) + x_24) ≤ 3) ∧
 (((objsA x_26) = true) ∧
 ((0 ≤ x_25) ∧
 ((x_25 ≤ (LN x_28)) ∧
 (((List.length x_27) ≤ 6) ∧
 (((List.length x_28) ≤ 20) ∧
 (((secsSm x_27) = true) ∧
 (((symsSm x_28) = true) ∧
 (((Reader.p r) ≤ x_29) ∧
 ((x_29 + (800 * x_24)) ≤ (((((Reader.p r) + 2402) + 700) + x_25) + 1)))))))))))) ∧
 ((((Int.toNat x_24) * 1000) + (Int.toNat (100 - x_25))) < (((Int.toNat x_15) * 1000) + (Int.toNat (100 - x_16)))))))))))))))))))))))) ∧
 (((decide ((Sym.bind x_22) = 1)) = false) →
 ((i64 (x_16 + (1 : Int))) ∧
 (∃ (x_30 : Int), (∃ (x_31 : Int), (∃ (x_32 : (List Objt)), (∃ (x_33 : (List Sect)), (∃ (x_34 : (List Sym)), (∃ (x_35 : Int), ((x_15 = x_30) ∧
 (((x_16 + (1 : Int)) = x_31) ∧
 ((n = n) ∧
 ((@Eq (List Int) (Reader.b r) (Reader.b r)) ∧
 (((x_20 + (1 : Int)) = x_35) ∧
 ((@Eq (List Objt) x_17 x_32) ∧
 ((@Eq (List Sect) x_18 x_33) ∧
 ((@Eq (List Sym) x_19 x_34) ∧
 (((0 < x_30) ∧
 ((((LN x_32) + x_30) ≤ 3) ∧
 (((objsA x_32) = true) ∧
 ((0 ≤ x_31) ∧
 ((x_31 ≤ (LN x_34)) ∧
 (((List.length x_33) ≤ 6) ∧
 (((List.length x_34) ≤ 20) ∧
 (((secsSm x_33) = true) ∧
 (((symsSm x_34) = true) ∧
 (((Reader.p r) ≤ x_35) ∧
 ((x_35 + (800 * x_30)) ≤ (((((Reader.p r) + 2402) + 700) + x_31) + 1)))))))))))) ∧
 ((((Int.toNat x_30) * 1000) + (Int.toNat (100 - x_31))) < (((Int.toNat x_15) * 1000) + (Int.toNat (100 - x_16))))))))))))))))))))))))))) ∧
 (((decide ((Sym.wher x_21) ≠ (- (1 : Int)))) = false) →
 ((i64 (x_16 + (1 : Int))) ∧
 (∃ (x_36 : Int), (∃ (x_37 : Int), (∃ (x_38 : (List Objt)), (∃ (x_39 : (List Sect)), (∃ (x_40 : (List Sym)), (∃ (x_41 : Int), ((x_15 = x_36) ∧
 (((x_16 + (1 : Int)) = x_37) ∧
 ((n = n) ∧
 ((@Eq (List Int) (Reader.b r) (Reader.b r)) ∧
 (((x_20 + (1 : Int)) = x_41) ∧
 ((@Eq (List Objt) x_17 x_38) ∧
 ((@Eq (List Sect) x_18 x_39) ∧
 ((@Eq (List Sym) x_19 x_40) ∧
 (((0 < x_36) ∧
 ((((LN x_38) + x_36) ≤ 3) ∧
 (((objsA x_38) = true) ∧
 ((0 ≤ x_37) ∧
 ((x_37 ≤ (LN x_40)) ∧
 (((List.length x_39) ≤ 6) ∧
 (((List.length x_40) ≤ 20) ∧
 (((secsSm x_39) = true) ∧
 (((symsSm x_40) = true) ∧
 (((Reader.p r) ≤ x_41) ∧
 ((x_41 + (800 * x_36)) ≤ (((((Reader.p r) + 2402) + 700) + x_37) + 1)))))))))))) ∧
 ((((Int.toNat x_36) * 1000) + (Int.toNat (100 - x_37))) < (((Int.toNat x_15) * 1000) + (Int.toNat (100 - x_16))))))))))))))))))))))))))) ∧
 (((decide ((pickF (Reader.b r) x_20 (2 : Int)) = 0)) = false) →
 ((((((List.length x_17) + (List.length [(Objt.mk x_18 x_19)])) * 48) ≤ 140737488355328) ∧
 (((List.length x_17) + (List.length [(Objt.mk x_18 x_19)])) ≤ 1000000000000)) ∧
 ((i64 (x_15 - (1 : Int))) ∧
 (∃ (x_42 : Int), (∃ (x_43 : (List Objt)), (∃ (x_44 : Int), (((x_15 - (1 : Int)) = x_42) ∧
 ((n = n) ∧
 ((@Eq (List Int) (Reader.b r) (Reader.b r)) ∧
 (((x_20 + (1 : Int)) = x_44) ∧
 ((@Eq (List Objt) (x_17 ++ [(Objt.mk x_18 x_19)]) x_43) ∧
 (((0 ≤ x_42) ∧
 ((((LN x_43) + x_42) ≤ 3) ∧
 (((objsA x_43) = true) ∧
 (((Reader.p r) ≤ x_44) ∧
 ((x_44 + (800 * x_42)) ≤ ((Reader.p r) + 2402)))))) ∧
 ((Int.toNat x_42) < (Int.toNat x_4))))))))))))))))) ∧
 (((decide (x_16 < (LN x_19))) = false) →
 ((((((List.length x_17) + (List.length [(Objt.mk x_18 x_19)])) * 48) ≤ 140737488355328) ∧
 (((List.length x_17) + (List.length [(Objt.mk x_18 x_19)])) ≤ 1000000000000)) ∧
 ((i64 (x_15 - (1 : Int))) ∧
 (∃ (x_45 : Int), (∃ (x_46 : (List Objt)), (∃ (x_47 : Int), (((x_15 - (1 : Int)) = x_45) ∧
 ((n = n) ∧
 ((@Eq (List Int) (Reader.b r) (Reader.b r)) ∧
 ((x_20 = x_47) ∧
 ((@Eq (List Objt) (x_17 ++ [(Objt.mk x_18 x_19)]) x_46) ∧
 (((0 ≤ x_45) ∧
 ((((LN x_46) + x_45) ≤ 3) ∧
 (((objsA x_46) = true) ∧
 (((Reader.p r) ≤ x_47) ∧
 ((x_47 + (800 * x_45)) ≤ ((Reader.p r) + 2402)))))) ∧
 ((Int.toNat x_45) < (Int.toNat x_4)))))))))))))))))))))))))))))))))))))))))))) ∧
 (((decide (0 < x_4)) = false) →
 (((0 ≤ x_6) ∧
 (x_6 ≤ (1000000000000 : Int))) ∧
 ((((decide ((pickF (Reader.b r) x_6 (2 : Int)) = 0)) = true) →
 ((∃ (x_48 : Int), (∃ (x_49 : (List Objt)), (∃ (x_50 : (List ByteArray)), (∃ (x_51 : Int), ((0 = x_48) ∧
 ((n = n) ∧
 ((@Eq (List Int) (Reader.b r) (Reader.b r)) ∧
 (((x_6 + (1 : Int)) = x_51) ∧
 ((@Eq (List Objt) x_5 x_49) ∧
 ((@Eq (List ByteArray) ([] : List ByteArray) x_50) ∧
 (((0 ≤ x_48) ∧
 ((x_48 ≤ (LN x_49)) ∧
 (((List.length x_49) ≤ 3) ∧
 (((objsA x_49) = true) ∧
 (((nmsSm x_50) = true) ∧
 (((LN x_50) ≤ (20 * x_48)) ∧
 (((Reader.p r) ≤ x_51) ∧
 (x_51 ≤ ((Reader.p r) + 2500))))))))) ∧
 True))))))))))) ∧
 (∀ (x_52 : Int), (∀ (x_53 : (List Objt)), (∀ (x_54 : (List ByteArray)), (∀ (x_55 : Int), (((0 ≤ x_52) ∧
 ((x_52 ≤ (LN x_53)) ∧
 (((List.length x_53) ≤ 3) ∧
 (((objsA x_53) = true) ∧
 (((nmsSm x_54) = true) ∧
 (((LN x_54) ≤ (20 * x_52)) ∧
 (((Reader.p r) ≤ x_55) ∧
 (x_55 ≤ ((Reader.p r) + 2500))))))))) →
 (((List.length x_53) ≤ 9223372036854775807) →
 ((((decide (x_52 < (LN x_53))) = true) →
 (((0 ≤ x_52) ∧
 (x_52 < (LN x_53))) ∧
 (∀ (x_56 : Objt), ((@Eq (Option Objt) (x_53)[(Int.toNat x_52)]? (some x_56)) →
 ((Ok (Ty.st SN.obj) x_56) →
 (∀ (x_57 : Objt), ((@Eq (Option Objt) (x_53)[(Int.toNat x_52)]? (some x_57)) →
 (∀ (x_58 : Objt), ((@Eq (Option Objt) (x_53)[(Int.toNat x_52)]? (some x_58)) →
 ((((((List.length x_54) + (List.length (namesG (Objt.mk (Objt.sects x_57) (Objt.syms x_58))))) * 16) ≤ 140737488355328) ∧
 (((List.length x_54) + (List.length (namesG (Objt.mk (Objt.sects x_57) (Objt.syms x_58))))) ≤ 1000000000000)) ∧
 ((i64 (x_52 + (1 : Int))) ∧
 (∃ (x_59 : Int), (∃ (x_60 : (List Objt)), (∃ (x_61 : (List ByteArray)), (∃ (x_62 : Int), (((x_52 + (1 : Int)) = x_59) ∧
 ((n = n) ∧
 ((@Eq (List Int) (Reader.b r) (Reader.b r)) ∧
 ((x_55 = x_62) ∧
 ((@Eq (List Objt) x_53 x_60) ∧
 ((@Eq (List ByteArray) (x_54 ++ (namesG (Objt.mk (Objt.sects x_57) (Objt.syms x_58)))) x_61) ∧
 (((0 ≤ x_59) ∧
 ((x_59 ≤ (LN x_60)) ∧
 (((List.length x_60) ≤ 3) ∧
 (((objsA x_60) = true) ∧
 (((nmsSm x_61) = true) ∧
 (((LN x_61) ≤ (20 * x_59)) ∧
 (((Reader.p r) ≤ x_62) ∧
 (x_62 ≤ ((Reader.p r) + 2500))))))))) ∧
 (((List.length x_60) - (Int.toNat x_59)) < ((List.length x_53) - (Int.toNat x_52))))))))))))))))))))))))) ∧
 (((decide (x_52 < (LN x_53))) = false) →
 ((∃ (x_63 : Int), (∃ (x_64 : (List Objt)), (∃ (x_65 : (List ByteArray)), (∃ (x_66 : Int), ((0 = x_63) ∧
 ((@Eq (List ByteArray) x_54 x_65) ∧
 ((n = n) ∧
 ((@Eq (List Int) (Reader.b r) (Reader.b r)) ∧
 ((x_55 = x_66) ∧
 ((@Eq (List Objt) x_53 x_64) ∧
 (((0 ≤ x_63) ∧
 ((x_63 ≤ (LN x_64)) ∧
 (((List.length x_64) ≤ 3) ∧
 (((objsA x_64) = true) ∧
 (((nmsSm x_65) = true) ∧
 (((Reader.p r) ≤ x_66) ∧
 (x_66 ≤ (((Reader.p r) + 2500) + (20 * x_63))))))))) ∧
 True))))))))))) ∧
 (∀ (x_67 : Int), (∀ (x_68 : (List Objt)), (∀ (x_69 : (List ByteArray)), (∀ (x_70 : Int), (((0 ≤ x_67) ∧
 ((x_67 ≤ (LN x_68)) ∧
 (((List.length x_68) ≤ 3) ∧
 (((objsA x_68) = true) ∧
 (((nmsSm x_69) = true) ∧
 (((Reader.p r) ≤ x_70) ∧
 (x_70 ≤ (((Reader.p r) + 2500) + (20 * x_67))))))))) →
 (((List.length x_68) ≤ 9223372036854775807) →
 ((((decide (x_67 < (LN x_68))) = true) →
 (∃ (x_71 : Int), (∃ (x_72 : Int), (∃ (x_73 : (List Objt)), (∃ (x_74 : (List ByteArray)), (∃ (x_75 : Int), ((x_67 = x_71) ∧
 ((0 = x_72) ∧
 ((@Eq (List ByteArray) x_69 x_74) ∧
 ((n = n) ∧
 ((@Eq (List Int) (Reader.b r) (Reader.b r)) ∧
 ((x_70 = x_75) ∧
 ((@Eq (List Objt) x_68 x_73) ∧
 (((0 ≤ x_71) ∧
 ((x_71 < (LN x_73)) ∧
 (((List.length x_73) ≤ 3) ∧
 ((0 ≤ x_72) ∧
 (((List.length (symsAt x_73 x_71)) ≤ 20) ∧
 ((x_72 ≤ (LN (symsAt x_73 x_71))) ∧
 (((objsA x_73) = true) ∧
 (((nmsSm x_74) = true) ∧
 (((Reader.p r) ≤ x_75) ∧
 (x_75 ≤ ((((Reader.p r) + 2500) + (20 * x_71)) + x_72))))))))))) ∧
 (∀ (x_76 : Int), (∀ (x_77 : Int), (∀ (x_78 : (List Objt)), (∀ (x_79 : (List ByteArray)), (∀ (x_80 : Int), (((0 ≤ x_76) ∧
 ((x_76 < (LN x_78)) ∧
 (((List.length x_78) ≤ 3) ∧
 ((0 ≤ x_77) ∧
 (((List.length (symsAt x_78 x_76)) ≤ 20) ∧
 ((x_77 ≤ (LN (symsAt x_78 x_76))) ∧
 (((objsA x_78) = true) ∧
 (((nmsSm x_79) = true) ∧
 (((Reader.p r) ≤ x_80) ∧
 (x_80 ≤ ((((Reader.p r) + 2500) + (20 * x_76)) + x_77))))))))))) →
 ((((((List.length x_78) - (Int.toNat x_76)) * 1000000) + ((Int.toNat (100 - x_77)) * 1000)) ≤ ((((List.length x_73) - (Int.toNat x_71)) * 1000000) + ((Int.toNat (100 - x_72)) * 1000))) →
 (((0 ≤ x_76) ∧
 (x_76 < (LN x_78))) ∧
 (∀ (x_81 : Objt), ((@Eq (Option Objt) (x_78)[(Int.toNat x_76)]? (some x_81)) →
 ((Ok (Ty.st SN.obj) x_81) →
 (∀ (x_82 : Objt), ((@Eq (Option Objt) (x_78)[(Int.toNat x_76)]? (some x_82)) →
 (((List.length (Objt.syms x_82)) ≤ 9223372036854775807) →
 ((((decide (x_77 < (LN (Objt.syms x_82)))) = true) →
 (((List.length x_79) ≤ 9223372036854775807) →
 ((((decide (0 < (LN x_79))) = true) →
 (((0 ≤ x_76) ∧
 (x_76 < (LN x_78))) ∧
 (∀ (x_83 : Objt), ((@Eq (Option Objt) (x_78)[(Int.toNat x_76)]? (some x_83)) →
 ((Ok (Ty.st SN.obj) x_83) →
 (∀ (x_84 : Objt), ((@Eq (Option Objt) (x_78)[(Int.toNat x_76)]? (some x_84)) →
 (((0 ≤ x_77) ∧
 (x_77 < (LN (Objt.syms x_84)))) ∧
 (∀ (x_85 : Objt), ((@Eq (Option Objt) (x_78)[(Int.toNat x_76)]? (some x_85)) →
 (∀ (x_86 : Sym), ((@Eq (Option Sym) ((Objt.syms x_85))[(Int.toNat x_77)]? (some x_86)) →
 ((Ok (Ty.st SN.sym) x_86) →
 ((((decide ((Sym.wher x_86) ≠ (- (1 : Int)))) = true) →
 ((i64 (x_77 + (1 : Int))) ∧
 (∃ (x_87 : Int), (∃ (x_88 : Int), (∃ (x_89 : (List Objt)), (∃ (x_90 : (List ByteArray)), (∃ (x_91 : Int), ((x_76 = x_87) ∧
 (((x_77 + (1 : Int)) = x_88) ∧
 ((@Eq (List ByteArray) x_79 x_90) ∧
 ((n = n) ∧
 ((@Eq (List Int) (Reader.b r) (Reader.b r)) ∧
 ((x_80 = x_91) ∧
 ((@Eq (List Objt) x_78 x_89) ∧
 (((0 ≤ x_87) ∧
 ((x_87 < (LN x_89)) ∧
 (((List.length x_89) ≤ 3) ∧
 ((0 ≤ x_88) ∧
 (((List.length (symsAt x_89 x_87)) ≤ 20) ∧
 ((x_88 ≤ (LN (symsAt x_89 x_87))) ∧
 (((objsA x_89) = true) ∧
 (((nmsSm x_90) = true) ∧
 (((Reader.p r) ≤ x_91) ∧
 (x_91 ≤ ((((Reader.p r) + 2500) + (20 * x_87)) + x_88))))))))))) ∧
 (((((List.length x_89) - (Int.toNat x_87)) * 1000000) + ((Int.toNat (100 - x_88)) * 1000)) < ((((List.length x_78) - (Int.toNat x_76)) * 1000000) + ((Int.toNat (100 - x_77)) * 1000)))))))))))))))))) ∧
 (((decide ((Sym.wher x_86) ≠ (- (1 : Int)))) = false) →
 (((List.length x_79) ≤ 9223372036854775807) →
 (((0 ≤ x_80) ∧
 (x_80 ≤ (1000000000000 : Int))) ∧
 (((0 ≤ (pickF (Reader.b r) x_80 (LN x_79))) ∧
 ((pickF (Reader.b r) x_80 (LN x_79)) < (LN x_79))) ∧
 (∀ (x_92 : ByteArray), ((@Eq (Option ByteArray) (x_79)[(Int.toNat (pickF (Reader.b r) x_80 (LN x_79)))]? (some x_92)) →
 ((Ok Ty.str x_92) →
 (∃ (x_93 : Int), (∃ (x_94 : Int), (∃ (x_95 : Int), (∃ (x_96 : Bool), (∃ (x_97 : ByteArray), (∃ (x_98 : (List Objt)), (∃ (x_99 : (List ByteArray)), (∃ (x_100 : Int), ((x_76 = x_93) ∧
 ((x_77 = x_94) ∧
 ((0 = x_95) ∧
 ((@Eq ByteArray x_92 x_97) ∧
 ((true = x_96) ∧
 ((@Eq (List ByteArray) x_79 x_99) ∧
 ((n = n) ∧
 ((@Eq (List Int) (Reader.b r) (Reader.b r)) ∧
 (((x_80 + (1 : Int)) = x_100) ∧
 ((@Eq (List Objt) x_78 x_98) ∧
 (((0 ≤ x_93) ∧
 ((x_93 < (LN x_98)) ∧
 (((List.length x_98) ≤ 3) ∧
 ((0 ≤ x_94) ∧
 (((List.length (symsAt x_98 x_93)) ≤ 20) ∧
 ((x_94 < (LN (symsAt x_98 x_93))) ∧
 ((0 ≤ x_95) ∧
 ((x_95 ≤ (LN (symsAt x_98 x_93))) ∧
 (((objsA x_98) = true) ∧
 (((nmsSm x_99) = true) ∧
 (((nmSm x_97) = true) ∧
 (((Reader.p r) ≤ x_100) ∧
 (x_100 ≤ (((((Reader.p r) + 2500) + (20 * x_93)) + x_94) + 1)))))))))))))) ∧
 (∀ (x_101 : Int), (∀ (x_102 : Int), (∀ (x_103 : Int), (∀ (x_104 : Bool), (∀ (x_105 : ByteArray), (∀ (x_106 : (List Objt)), (∀ (x_107 : (List ByteArray)), (∀ (x_108 : Int), (((0 ≤ x_101) ∧
 ((x_101 < (LN x_106)) ∧
 (((List.length x_106) ≤ 3) ∧
 ((0 ≤ x_102) ∧
 (((List.length (symsAt x_106 x_101)) ≤ 20) ∧
 ((x_102 < (LN (symsAt x_106 x_101))) ∧
 ((0 ≤ x_103) ∧
 ((x_103 ≤ (LN (symsAt x_106 x_101))) ∧
 (((objsA x_106) = true) ∧
 (((nmsSm x_107) = true) ∧
 (((nmSm x_105) = true) ∧
 (((Reader.p r) ≤ x_108) ∧
 (x_108 ≤ (((((Reader.p r) + 2500) + (20 * x_101)) + x_102) + 1)))))))))))))) →
 (((((((List.length x_106) - (Int.toNat x_101)) * 1000000) + ((Int.toNat (100 - x_102)) * 1000)) + (Int.toNat (100 - x_103))) ≤ (((((List.length x_98) - (Int.toNat x_93)) * 1000000) + ((Int.toNat (100 - x_94)) * 1000)) + (Int.toNat (100 - x_95)))) →
 (((0 ≤ x_101) ∧
 (x_101 < (LN x_106))) ∧
 (∀ (x_109 : Objt), ((@Eq (Option Objt) (x_106)[(Int.toNat x_101)]? (some x_109)) →
 ((Ok (Ty.st SN.obj) x_109) →
 (∀ (x_110 : Objt), ((@Eq (Option Objt) (x_106)[(Int.toNat x_101)]? (some x_110)) →
 (((List.length (Objt.syms x_110)) ≤ 9223372036854775807) →
 ((((decide (x_103 < (LN (Objt.syms x_110)))) = true) →
 (((x_104 = true) →
 (((0 ≤ x_101) ∧
 (x_101 < (LN x_106))) ∧
 (∀ (x_111 : Objt), ((@Eq (Option Objt) (x_106)[(Int.toNat x_101)]? (some x_111)) →
 ((Ok (Ty.st SN.obj) x_111) →
 (∀ (x_112 : Objt), ((@Eq (Option Objt) (x_106)[(Int.toNat x_101)]? (some x_112)) →
 (((0 ≤ x_103) ∧
 (x_103 < (LN (Objt.syms x_112)))) ∧
 (∀ (x_113 : Objt), ((@Eq (Option Objt) (x_106)[(Int.toNat x_101)]? (some x_113)) →
 (∀ (x_114 : Sym), ((@Eq (Option Sym) ((Objt.syms x_113))[(Int.toNat x_103)]? (some x_114)) →
 ((Ok (Ty.st SN.sym) x_114) →
 ((i64 (x_103 + (1 : Int))) ∧
 (∃ (x_115 : Int), (∃ (x_116 : Int), (∃ (x_117 : Int), (∃ (x_118 : Bool), (∃ (x_119 : ByteArray), (∃ (x_120 : (List Objt)), (∃ (x_121 : (List ByteArray)), (∃ (x_122 : Int), ((x_101 = x_115) ∧
 ((x_102 = x_116) ∧
 (((x_103 + (1 : Int)) = x_117) ∧
 ((@Eq ByteArray x_105 x_119) ∧
 (((decide ((Sym.name x_114) ≠ x_105)) = x_118) ∧
 ((@Eq (List ByteArray) x_107 x_121) ∧
 ((n = n) ∧
 ((@Eq (List Int) (Reader.b r) (Reader.b r)) ∧
 ((x_108 = x_122) ∧
 ((@Eq (List Objt) x_106 x_120) ∧
 (((0 ≤ x_115) ∧
 ((x_115 < (LN x_120)) ∧
 (((List.length x_120) ≤ 3) ∧
 ((0 ≤ x_116) ∧
 (((List.length (symsAt x_120 x_115)) ≤ 20) ∧
 ((x_116 < (LN (symsAt x_120 x_115))) ∧
 ((0 ≤ x_117) ∧
 ((x_117 ≤ (LN (symsAt x_120 x_115))) ∧
 (((objsA x_120) = true) ∧
 (((nmsSm x_121) = true) ∧
 (((nmSm x_119) = true) ∧
 (((Reader.p r) ≤ x_122) ∧
 (x_122 ≤ (((((Reader.p r) + 2500) + (20 * x_115)) + x_116) + 1)))))))))))))) ∧
 ((((((List.length x_120) - (Int.toNat x_115)) * 1000000) + ((Int.toNat (100 - x_116)) * 1000)) + (Int.toNat (100 - x_117))) < (((((List.length x_106) - (Int.toNat x_101)) * 1000000) + ((Int.toNat (100 - x_102)) * 1000)) + (Int.toNat (100 - x_103))))))))))))))))))))))))))))))))))))) ∧
 ((x_104 = false) →
 ((i64 (x_103 + (1 : Int))) ∧
 (∃ (x_123 : Int), (∃ (x_124 : Int), (∃ (x_125 : Int), (∃ (x_126 : Bool), (∃ (x_127 : ByteArray), (∃ (x_128 : (List Objt)), (∃ (x_129 : (List ByteArray)), (∃ (x_130 : Int), ((x_101 = x_123) ∧
 ((x_102 = x_124) ∧
 (((x_103 + (1 : Int)) = x_125) ∧
 ((@Eq ByteArray x_105 x_127) ∧
 ((false = x_126) ∧
 ((@Eq (List ByteArray) x_107 x_129) ∧
 ((n = n) ∧
 ((@Eq (List Int) (Reader.b r) (Reader.b r)) ∧
 ((x_108 = x_130) ∧
 ((@Eq (List Objt) x_106 x_128) ∧
 (((0 ≤ x_123) ∧
 ((x_123 < (LN x_128)) ∧
 (((List.length x_128) ≤ 3) ∧
 ((0 ≤ x_124) ∧
 (((List.length (symsAt x_128 x_123)) ≤ 20) ∧
 ((x_124 < (LN (symsAt x_128 x_123))) ∧
 ((0 ≤ x_125) ∧
 ((x_125 ≤ (LN (symsAt x_128 x_123))) ∧
 (((objsA x_128) = true) ∧
 (((nmsSm x_129) = true) ∧
 (((nmSm x_127) = true) ∧
 (((Reader.p r) ≤ x_130) ∧
 (x_130 ≤ (((((Reader.p r) + 2500) + (20 * x_123)) + x_124) + 1)))))))))))))) ∧
 ((((((List.length x_128) - (Int.toNat x_123)) * 1000000) + ((Int.toNat (100 - x_124)) * 1000)) + (Int.toNat (100 - x_125))) < (((((List.length x_106) - (Int.toNat x_101)) * 1000000) + ((Int.toNat (100 - x_102)) * 1000)) + (Int.toNat (100 - x_103))))))))))))))))))))))))))) ∧
 (((decide (x_103 < (LN (Objt.syms x_110)))) = false) →
 (((x_104 = true) →
 (((0 ≤ x_101) ∧
 (x_101 < (LN x_106))) ∧
 (∀ (x_131 : Objt), ((@Eq (Option Objt) (x_106)[(Int.toNat x_101)]? (some x_131)) →
 ((Ok (Ty.st SN.obj) x_131) →
 (∀ (x_132 : Objt), ((@Eq (Option Objt) (x_106)[(Int.toNat x_101)]? (some x_132)) →
 (((0 ≤ x_102) ∧
 (x_102 < (LN (Objt.syms x_132)))) ∧
 (∀ (x_133 : Objt), ((@Eq (Option Objt) (x_106)[(Int.toNat x_101)]? (some x_133)) →
 (∀ (x_134 : Sym), ((@Eq (Option Sym) ((Objt.syms x_133))[(Int.toNat x_102)]? (some x_134)) →
 ((i64 (x_102 + (1 : Int))) ∧
 (∃ (x_135 : Int), (∃ (x_136 : Int), (∃ (x_137 : (List Objt)), (∃ (x_138 : (List ByteArray)), (∃ (x_139 : Int), ((x_101 = x_135) ∧
 (((x_102 + (1 : Int)) = x_136) ∧
 ((@Eq (List ByteArray) x_107 x_138) ∧
 ((n = n) ∧
 ((@Eq (List Int) (Reader.b r) (Reader.b r)) ∧
 ((x_108 = x_139) ∧
 ((@Eq (List Objt) (List.set x_106 (Int.toNat x_101) (Objt.mk (Objt.sects x_133) (List.set (Objt.syms x_133) (Int.toNat x_102) (Sym.mk x_105 (Sym.bind x_134) (Sym.wher x_134) (Sym.value x_134))))) x_137) ∧
 (((0 ≤ x_135) ∧
 ((x_135 < (LN x_137)) ∧
 (((List.length x_137) ≤ 3) ∧
 ((0 ≤ x_136) ∧
 (((List.length (symsAt x_137 x_135)) ≤ 20) ∧
 ((x_136 ≤ (LN (symsAt x_137 x_135))) ∧
 (((objsA x_137) = true) ∧
 (((nmsSm x_138) = true) ∧
 (((Reader.p r) ≤ x_139) ∧
 (x_139 ≤ ((((Reader.p r) + 2500) + (20 * x_135)) + x_136))))))))))) ∧
 (((((List.length x_137) - (Int.toNat x_135)) * 1000000) + ((Int.toNat (100 - x_136)) * 1000)) < ((((List.length x_78) - (Int.toNat x_76)) * 1000000) + ((Int.toNat (100 - x_77)) * 1000))))))))))))))))))))))))))))) ∧
 ((x_104 = false) →
 ((i64 (x_102 + (1 : Int))) ∧
 (∃ (x_140 : Int), (∃ (x_141 : Int), (∃ (x_142 : (List Objt)), (∃ (x_143 : (List ByteArray)), (∃ (x_144 : Int), ((x_101 = x_140) ∧
 (((x_102 + (1 : Int)) = x_141) ∧
 ((@Eq (List ByteArray) x_107 x_143) ∧
 ((n = n) ∧
 ((@Eq (List Int) (Reader.b r) (Reader.b r)) ∧
 ((x_108 = x_144) ∧
 ((@Eq (List Objt) x_106 x_142) ∧
 (((0 ≤ x_140) ∧
 ((x_140 < (LN x_142)) ∧
 (((List.length x_142) ≤ 3) ∧
 ((0 ≤ x_141) ∧
 (((List.length (symsAt x_142 x_140)) ≤ 20) ∧
 ((x_141 ≤ (LN (symsAt x_142 x_140))) ∧
 (((objsA x_142) = true) ∧
 (((nmsSm x_143) = true) ∧
 (((Reader.p r) ≤ x_144) ∧
 (x_144 ≤ ((((Reader.p r) + 2500) + (20 * x_140)) + x_141))))))))))) ∧
 (((((List.length x_142) - (Int.toNat x_140)) * 1000000) + ((Int.toNat (100 - x_141)) * 1000)) < ((((List.length x_78) - (Int.toNat x_76)) * 1000000) + ((Int.toNat (100 - x_77)) * 1000)))))))))))))))))))))))))))))))))))))))))))))))))))))))))))))))))))))))))))))) ∧
 (((decide (0 < (LN x_79))) = false) →
 ((i64 (x_76 + (1 : Int))) ∧
 (∃ (x_145 : Int), (∃ (x_146 : (List Objt)), (∃ (x_147 : (List ByteArray)), (∃ (x_148 : Int), (((x_76 + (1 : Int)) = x_145) ∧
 ((@Eq (List ByteArray) x_79 x_147) ∧
 ((n = n) ∧
 ((@Eq (List Int) (Reader.b r) (Reader.b r)) ∧
 ((x_80 = x_148) ∧
 ((@Eq (List Objt) x_78 x_146) ∧
 (((0 ≤ x_145) ∧
 ((x_145 ≤ (LN x_146)) ∧
 (((List.length x_146) ≤ 3) ∧
 (((objsA x_146) = true) ∧
 (((nmsSm x_147) = true) ∧
 (((Reader.p r) ≤ x_148) ∧
 (x_148 ≤ (((Reader.p r) + 2500) + (20 * x_145))))))))) ∧
 (((List.length x_146) - (Int.toNat x_145)) < ((List.length x_68) - (Int.toNat x_67))))))))))))))))))) ∧
 (((decide (x_77 < (LN (Objt.syms x_82)))) = false) →
 ((i64 (x_76 + (1 : Int))) ∧
 (∃ (x_149 : Int), (∃ (x_150 : (List Objt)), (∃ (x_151 : (List ByteArray)), (∃ (x_152 : Int), (((x_76 + (1 : Int)) = x_149) ∧
 ((@Eq (List ByteArray) x_79 x_151) ∧
 ((n = n) ∧
 ((@Eq (List Int) (Reader.b r) (Reader.b r)) ∧
 ((x_80 = x_152) ∧
 ((@Eq (List Objt) x_78 x_150) ∧
 (((0 ≤ x_149) ∧
 ((x_149 ≤ (LN x_150)) ∧
 (((List.length x_150) ≤ 3) ∧
 (((objsA x_150) = true) ∧
 (((nmsSm x_151) = true) ∧
 (((Reader.p r) ≤ x_152) ∧
 (x_152 ≤ (((Reader.p r) + 2500) + (20 * x_149))))))))) ∧
 (((List.length x_150) - (Int.toNat x_149)) < ((List.length x_68) - (Int.toNat x_67))))))))))))))))))))))))))))))))))))))))))))) ∧
 (((decide (x_67 < (LN x_68))) = false) →
 (((0 ≤ x_70) ∧
 ((x_70 ≤ (1000000000000 : Int)) ∧
 (n ≤ 1000000))) ∧
 (∀ (x_153 : Bool), (∀ (x_154 : Int), (((x_70 ≤ x_154) ∧
 ((x_154 ≤ (x_70 + (1 : Int))) ∧
 ((n ≤ 0) →
 (x_153 = false)))) →
 (((x_153 = true) →
 (((0 ≤ x_154) ∧
 ((x_154 ≤ (10000000 : Int)) ∧
 ((1 : Int) ≤ (1000000 : Int)))) ∧
 (∀ (x_155 : Objt), (∀ (x_156 : Int), (((x_154 ≤ x_156) ∧
 ((x_156 ≤ (x_154 + (700 : Int))) ∧
 ((objSm x_155) = true))) →
 ((((((List.length x_68) + (List.length [x_155])) * 48) ≤ 140737488355328) ∧
 (((List.length x_68) + (List.length [x_155])) ≤ 1000000000000)) ∧
 ((i64 (2 * n)) ∧
 (((0 ≤ x_156) ∧
 ((x_156 ≤ (1000000000000 : Int)) ∧
 ((2 * n) ≤ 1000000))) ∧
 (∀ (x_157 : Bool), (∀ (x_158 : Int), (((x_156 ≤ x_158) ∧
 ((x_158 ≤ (x_156 + (1 : Int))) ∧
 (((2 * n) ≤ 0) →
 (x_157 = false)))) →
 (((x_157 = true) →
 ((((5 : Int) = (5 : Int)) ∧
 (((0 : Int) ≤ (5 : Int)) ∧
 (((5 : Int) ≤ (1000000000000 : Int)) ∧
 (((@Nat.cast Int _ (48 : Nat)) * 5) ≤ 140737488355328)))) ∧
 (∃ (x_159 : (List Objt)), (∃ (x_160 : Int), (((@Eq (List Objt) (@repl Objt (5 : Int) (Objt.mk ([] : List Sect) ([] : List Sym))) x_159) ∧
 ((@Eq (List Int) (Reader.b r) (Reader.b r)) ∧
 ((x_158 = x_160) ∧
 True))) ∧
 (((Reader.p r) ≤ x_160) ∧
 ((x_160 ≤ ((Reader.p r) + 5000)) ∧
 (((List.length x_159) ≤ 5) ∧
 ((objsA x_159) = true))))))))) ∧
 ((x_157 = false) →
 (∃ (x_161 : (List Objt)), (∃ (x_162 : Int), (((@Eq (List Objt) (x_68 ++ [x_155]) x_161) ∧
 ((@Eq (List Int) (Reader.b r) (Reader.b r)) ∧
 ((x_158 = x_162) ∧
 True))) ∧
 (((Reader.p r) ≤ x_162) ∧
 ((x_162 ≤ ((Reader.p r) + 5000)) ∧
 (((List.length x_161) ≤ 5) ∧
 ((objsA x_161) = true)))))))))))))))))))) ∧
 ((x_153 = false) →
 ((i64 (2 * n)) ∧
 (((0 ≤ x_154) ∧
 ((x_154 ≤ (1000000000000 : Int)) ∧
 ((2 * n) ≤ 1000000))) ∧
 (∀ (x_163 : Bool), (∀ (x_164 : Int), (((x_154 ≤ x_164) ∧
 ((x_164 ≤ (x_154 + (1 : Int))) ∧
 (((2 * n) ≤ 0) →
 (x_163 = false)))) →
 (((x_163 = true) →
 ((((5 : Int) = (5 : Int)) ∧
 (((0 : Int) ≤ (5 : Int)) ∧
 (((5 : Int) ≤ (1000000000000 : Int)) ∧
 (((@Nat.cast Int _ (48 : Nat)) * 5) ≤ 140737488355328)))) ∧
 (∃ (x_165 : (List Objt)), (∃ (x_166 : Int), (((@Eq (List Objt) (@repl Objt (5 : Int) (Objt.mk ([] : List Sect) ([] : List Sym))) x_165) ∧
 ((@Eq (List Int) (Reader.b r) (Reader.b r)) ∧
 ((x_164 = x_166) ∧
 True))) ∧
 (((Reader.p r) ≤ x_166) ∧
 ((x_166 ≤ ((Reader.p r) + 5000)) ∧
 (((List.length x_165) ≤ 5) ∧
 ((objsA x_165) = true))))))))) ∧
 ((x_163 = false) →
 (∃ (x_167 : (List Objt)), (∃ (x_168 : Int), (((@Eq (List Objt) x_68 x_167) ∧
 ((@Eq (List Int) (Reader.b r) (Reader.b r)) ∧
 ((x_164 = x_168) ∧
 True))) ∧
 (((Reader.p r) ≤ x_168) ∧
 ((x_168 ≤ ((Reader.p r) + 5000)) ∧
 (((List.length x_167) ≤ 5) ∧
 ((objsA x_167) = true))))))))))))))))))))))))))))))))))))))) ∧
 (((decide ((pickF (Reader.b r) x_6 (2 : Int)) = 0)) = false) →
 (((0 ≤ (x_6 + (1 : Int))) ∧
 (((x_6 + (1 : Int)) ≤ 1000000000000) ∧
 (n ≤ 1000000))) ∧
 (∀ (x_169 : Bool), (∀ (x_170 : Int), ((((x_6 + (1 : Int)) ≤ x_170) ∧
 ((x_170 ≤ ((x_6 + (1 : Int)) + 1)) ∧
 ((n ≤ 0) →
 (x_169 = false)))) →
 (((x_169 = true) →
 (((0 ≤ x_170) ∧
 ((x_170 ≤ (10000000 : Int)) ∧
 ((1 : Int) ≤ (1000000 : Int)))) ∧
 (∀ (x_171 : Objt), (∀ (x_172 : Int), (((x_170 ≤ x_172) ∧
 ((x_172 ≤ (x_170 + (700 : Int))) ∧
 ((objSm x_171) = true))) →
 ((((((List.length x_5) + (List.length [x_171])) * 48) ≤ 140737488355328) ∧
 (((List.length x_5) + (List.length [x_171])) ≤ 1000000000000)) ∧
 ((i64 (2 * n)) ∧
 (((0 ≤ x_172) ∧
 ((x_172 ≤ (1000000000000 : Int)) ∧
 ((2 * n) ≤ 1000000))) ∧
 (∀ (x_173 : Bool), (∀ (x_174 : Int), (((x_172 ≤ x_174) ∧
 ((x_174 ≤ (x_172 + (1 : Int))) ∧
 (((2 * n) ≤ 0) →
 (x_173 = false)))) →
 (((x_173 = true) →
 ((((5 : Int) = (5 : Int)) ∧
 (((0 : Int) ≤ (5 : Int)) ∧
 (((5 : Int) ≤ (1000000000000 : Int)) ∧
 (((@Nat.cast Int _ (48 : Nat)) * 5) ≤ 140737488355328)))) ∧
 (∃ (x_175 : (List Objt)), (∃ (x_176 : Int), (((@Eq (List Objt) (@repl Objt (5 : Int) (Objt.mk ([] : List Sect) ([] : List Sym))) x_175) ∧
 ((@Eq (List Int) (Reader.b r) (Reader.b r)) ∧
 ((x_174 = x_176) ∧
 True))) ∧
 (((Reader.p r) ≤ x_176) ∧
 ((x_176 ≤ ((Reader.p r) + 5000)) ∧
 (((List.length x_175) ≤ 5) ∧
 ((objsA x_175) = true))))))))) ∧
 ((x_173 = false) →
 (∃ (x_177 : (List Objt)), (∃ (x_178 : Int), (((@Eq (List Objt) (x_5 ++ [x_171]) x_177) ∧
 ((@Eq (List Int) (Reader.b r) (Reader.b r)) ∧
 ((x_174 = x_178) ∧
 True))) ∧
 (((Reader.p r) ≤ x_178) ∧
 ((x_178 ≤ ((Reader.p r) + 5000)) ∧
 (((List.length x_177) ≤ 5) ∧
 ((objsA x_177) = true)))))))))))))))))))) ∧
 ((x_169 = false) →
 ((i64 (2 * n)) ∧
 (((0 ≤ x_170) ∧
 ((x_170 ≤ (1000000000000 : Int)) ∧
 ((2 * n) ≤ 1000000))) ∧
 (∀ (x_179 : Bool), (∀ (x_180 : Int), (((x_170 ≤ x_180) ∧
 ((x_180 ≤ (x_170 + (1 : Int))) ∧
 (((2 * n) ≤ 0) →
 (x_179 = false)))) →
 (((x_179 = true) →
 ((((5 : Int) = (5 : Int)) ∧
 (((0 : Int) ≤ (5 : Int)) ∧
 (((5 : Int) ≤ (1000000000000 : Int)) ∧
 (((@Nat.cast Int _ (48 : Nat)) * 5) ≤ 140737488355328)))) ∧
 (∃ (x_181 : (List Objt)), (∃ (x_182 : Int), (((@Eq (List Objt) (@repl Objt (5 : Int) (Objt.mk ([] : List Sect) ([] : List Sym))) x_181) ∧
 ((@Eq (List Int) (Reader.b r) (Reader.b r)) ∧
 ((x_180 = x_182) ∧
 True))) ∧
 (((Reader.p r) ≤ x_182) ∧
 ((x_182 ≤ ((Reader.p r) + 5000)) ∧
 (((List.length x_181) ≤ 5) ∧
 ((objsA x_181) = true))))))))) ∧
 ((x_179 = false) →
 (∃ (x_183 : (List Objt)), (∃ (x_184 : Int), (((@Eq (List Objt) x_5 x_183) ∧
 ((@Eq (List Int) (Reader.b r) (Reader.b r)) ∧
 ((x_180 = x_184) ∧
 True))) ∧
 (((Reader.p r) ≤ x_184) ∧
 ((x_184 ≤ ((Reader.p r) + 5000)) ∧
 (((List.length x_183) ≤ 5) ∧
 ((objsA x_183) = true)))))))))))))))))))))))))))))))) := by kernel_rfl
theorem det_spec_l20Objects : C_spec_l20Objects.det = true → ∀ x, (C_spec_l20Objects.out x).Det := fun h => absurd h Bool.false_ne_true
set_option maxRecDepth 200000 in
set_option maxHeartbeats 4000000 in
theorem ok_spec_l20Objects : ConOK Try.prog 44 C_spec_l20Objects := by
  refine con_mk (wr := false) (ty := tyL tys_) (l := L_spec_l20Objects) ⟨⟨ok_spec_l20Rd_pick, det_spec_l20Rd_pick⟩, ⟨⟨ok_spec_l20Object, det_spec_l20Object⟩, ⟨⟨ok_spec_NamesGiven, det_spec_NamesGiven⟩, ⟨⟨ok_spec_l20Rd_odd, det_spec_l20Rd_odd⟩, trivial⟩⟩⟩⟩ Try.checked.mixed (fn := Try.f44) (body := Try.f44.body.getD .skip) Try.func44 rfl (by decide) (by kernel_rfl) rfl an_spec_l20Objects fun x ho hx => ?_
  obtain ⟨r, n, ⟨⟩⟩ := x
  refine Keeps.of (vc_spec_l20Objects r n) ?_
  revert r n ho hx
  show ∀ (r : Reader) (n : Int), _
  intro r n ho hx
  dsimp only [C_spec_l20Objects, okPTL, okPT, Ok, Ty.cells, SN.cells, OkL, OkC, okI, ci, cb, cs, cl] at ho
  dsimp only [C_spec_l20Objects, vc, v1, decB, SR.pre] at hx
  have hb := pickF_bd r.b
  (try delta i64 LN); simp only [DRt, ex_sect2]; (repeat' first | apply And.intro | (intro x hq _; replace hq := List.mem_of_getElem? hq; simp only [List.mem_cons, List.not_mem_nil, or_false] at hq) | intro _); all_goals (try omega)
  all_goals first | (have h2 := (namesG_two (by assumption) (by assumption) (by assumption)).2; omega) | exact symSm_dig | exact symsAt_slen (by assumption) (by assumption) | exact symsAt_sl2 (by assumption) (by assumption) | exact symsAt_sm (by assumption) _ | exact objSm_two (by omega) (by omega) (by assumption) (by assumption) rfl rfl | (try grind [secSm_mk, symSm_mk, objSm_mk, secsSm_nil, symsSm_nil, objsA_nil, nmsSm_nil, secsSm_app, symsSm_app, objsA_app, nmsSm_app, secsSm_get, symsSm_get, objsA_get, nmsSm_get, objSm_iff, secSm_iff, symSm_iff, secSize_sm, repl_secs, repl_len, repl_syms, repl_objs, symsSm_bind, objsA_name, namesG_sm, namesG_two, symsAt_eq, strOf_len])
end Go.Proofs.Ythkefakjihafeaa
