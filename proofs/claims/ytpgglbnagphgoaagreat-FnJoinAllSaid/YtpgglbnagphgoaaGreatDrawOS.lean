/- The readers of objects. -/
import Derived.Test.YtpgglbnagphgoaaGreatDrawIS
import Derived.Test.YtpgglbnagphgoaaGreatObjVS
import Derived.Test.YtpgglbnagphgoaaGreatResS
set_option linter.unusedVariables false
set_option linter.unusedSimpArgs false
set_option maxRecDepth 200000
set_option maxHeartbeats 4000000
namespace Go.Proofs.YtpgglbnagphgoaaGreat
open Go Go.RowKit


theorem ex_sect2 {a : ByteArray} {b c e : Int} {d : List Int} {f : List Fixup} {P : Sect → Prop} : (∃ x : Sect, a = x.name ∧ b = x.kind ∧ c = x.align ∧ e = x.size ∧ d = x.bytes ∧ f = x.fixups ∧ P x) ↔ P ⟨a, b, c, d, e, f⟩ := ⟨fun ⟨x, h1, h2, h3, h4, h5, h6, h7⟩ => by subst h1; subst h2; subst h3; subst h4; subst h5; subst h6; exact h7, fun h => ⟨_, rfl, rfl, rfl, rfl, rfl, rfl, h⟩⟩
def secSm (s : Sect) : Bool := decide (s.name.size ≤ 16 ∧ s.bytes.length ≤ 60 ∧ s.fixups.length ≤ 8 ∧ -1 ≤ s.size ∧ s.size ≤ 60)
def nmSm (s : ByteArray) : Bool := decide (s.size ≤ 16)
def symSm (s : Sym) : Bool := nmSm s.name
def secsSm (l : List Sect) : Bool := l.all secSm
def symsSm (l : List Sym) : Bool := l.all symSm
def objSm (o : Objt) : Bool := decide (o.sects.length ≤ 6 ∧ o.syms.length ≤ 20) && (secsSm o.sects && symsSm o.syms)
def objsA (l : List Objt) : Bool := l.all objSm
def nmsSm (l : List ByteArray) : Bool := l.all nmSm
theorem secSm_mk {a : ByteArray} {b c e : Int} {d : List Int} {f : List Fixup} (h1 : a.size ≤ 16) (h2 : d.length ≤ 60) (h3 : f.length ≤ 8) (h4 : -1 ≤ e) (h5 : e ≤ 60) : secSm ⟨a, b, c, d, e, f⟩ = true := decide_eq_true ⟨h1, h2, h3, h4, h5⟩
theorem secSm_iff {s : Sect} : secSm s = true ↔ s.name.size ≤ 16 ∧ s.bytes.length ≤ 60 ∧ s.fixups.length ≤ 8 ∧ -1 ≤ s.size ∧ s.size ≤ 60 := decide_eq_true_iff
theorem secSize_sm {s : Sect} (h : secSm s = true) : -1 ≤ secSize s ∧ secSize s ≤ 60 := by
 have := secSm_iff.1 h
 unfold secSize
 split <;> omega
theorem secs_sz {l : List Sect} {k : Nat} {s : Sect} (h : secsSm l = true) (hs : l[k]? = some s) : -1 ≤ secSize s ∧ secSize s ≤ 60 := secSize_sm (List.all_eq_true.1 h s (List.mem_of_getElem? hs))
theorem symSm_iff {s : Sym} : symSm s = true ↔ s.name.size ≤ 16 := decide_eq_true_iff
theorem symSm_mk {a : ByteArray} {b c d : Int} (h : a.size ≤ 16) : symSm ⟨a, b, c, d⟩ = true := decide_eq_true h
theorem all_snoc {α : Type} {p : α → Bool} {l : List α} {x : α} (h : l.all p = true) (hx : p x = true) : (l ++ [x]).all p = true := by rw [List.all_append, h]; simp [hx]
theorem secsSm_nil : secsSm [] = true := rfl
theorem symsSm_nil : symsSm [] = true := rfl
theorem objsA_nil : objsA [] = true := rfl
theorem nmsSm_nil : nmsSm [] = true := rfl
theorem secsSm_app {l : List Sect} {s : Sect} (h : secsSm l = true) (hs : secSm s = true) : secsSm (l ++ [s]) = true := all_snoc h hs
theorem symsSm_app {l : List Sym} {s : Sym} (h : symsSm l = true) (hs : symSm s = true) : symsSm (l ++ [s]) = true := all_snoc h hs
theorem objsA_app {l : List Objt} {s : Objt} (h : objsA l = true) (hs : objSm s = true) : objsA (l ++ [s]) = true := all_snoc h hs
theorem nmsSm_app {l m : List ByteArray} (h : nmsSm l = true) (hs : nmsSm m = true) : nmsSm (l ++ m) = true := by unfold nmsSm at *; rw [List.all_append, h, hs]; rfl
theorem secsSm_get {l : List Sect} {k : Nat} {s : Sect} (h : secsSm l = true) (hs : l[k]? = some s) : secSm s = true := all_get h hs
theorem symsSm_get {l : List Sym} {k : Nat} {s : Sym} (h : symsSm l = true) (hs : l[k]? = some s) : symSm s = true := all_get h hs
theorem objsA_get {l : List Objt} {k : Nat} {s : Objt} (h : objsA l = true) (hs : l[k]? = some s) : objSm s = true := all_get h hs
theorem nmsSm_get {l : List ByteArray} {k : Nat} {s : ByteArray} (h : nmsSm l = true) (hs : l[k]? = some s) : nmSm s = true := all_get h hs
theorem objSm_iff {o : Objt} : objSm o = true ↔ (o.sects.length ≤ 6 ∧ o.syms.length ≤ 20) ∧ secsSm o.sects = true ∧ symsSm o.syms = true := by simp [objSm]
theorem objSm_mk {a : List Sect} {b : List Sym} (h1 : a.length ≤ 6) (h2 : b.length ≤ 20) (h3 : secsSm a = true) (h4 : symsSm b = true) : objSm ⟨a, b⟩ = true := objSm_iff.2 ⟨⟨h1, h2⟩, h3, h4⟩
theorem objSm_two {a : List Sect} {b : List Sym} {s t : Sym} (h1 : a.length ≤ 3) (h2 : b.length ≤ 5) (h3 : secsSm a = true) (h4 : symsSm b = true) (hs : symSm s = true) (ht : symSm t = true) : objSm ⟨a, b ++ [s, t]⟩ = true := by
 have e : b ++ [s, t] = (b ++ [s]) ++ [t] := by simp
 rw [e]
 exact objSm_mk (by omega) (by simp; omega) h3 (symsSm_app (symsSm_app h4 hs) ht)
theorem symSm_dig {z b c d : Int} : symSm ⟨⟨⟨[115]⟩⟩ ++ strOf [z], b, c, d⟩ = true := by
 refine symSm_mk ?_
 rw [ba_len, strOf_len]
 simp [ByteArray.size]
theorem symsAt_sm {l : List Objt} (h : objsA l = true) (k : Int) : (symsAt l k).length ≤ 20 := by
 unfold symsAt
 split
 ·rename_i o ho; exact (objSm_iff.1 (all_get h ho)).1.2
 ·simp
theorem symsAt_set {l : List Objt} {k j : Int} {o : Objt} {s : Sym} {b : List Sect} (h : l[k.toNat]? = some o) : symsAt (l.set k.toNat ⟨b, o.syms.set j.toNat s⟩) k = (symsAt l k).set j.toNat s := by
 unfold symsAt
 rw [List.getElem?_set_self (lt_of_some h), h]
theorem symsAt_slen {l : List Objt} {k j i : Int} {o : Objt} {s : Sym} {b : List Sect} (h : l[k.toNat]? = some o) (hi : i < (symsAt l k).length) : i + 1 ≤ ((symsAt (l.set k.toNat ⟨b, o.syms.set j.toNat s⟩) k).length : Int) := by
 rw [symsAt_set h, List.length_set]; omega
theorem symsAt_sl2 {l : List Objt} {k j : Int} {o : Objt} {s : Sym} {b : List Sect} (h : l[k.toNat]? = some o) (hi : (symsAt l k).length ≤ 20) : (symsAt (l.set k.toNat ⟨b, o.syms.set j.toNat s⟩) k).length ≤ 20 := by
 rw [symsAt_set h, List.length_set]; omega
theorem all_set {α : Type} {p : α → Bool} {l : List α} {k : Nat} {x : α} (h : l.all p = true) (hx : p x = true) : (l.set k x).all p = true := by
 rw [List.all_eq_true] at *
 intro y hy
 rcases List.mem_or_eq_of_mem_set hy with hy | rfl
 ·exact h y hy
 ·exact hx
theorem symsSm_set {l : List Sym} {k : Nat} {s : Sym} (h : symsSm l = true) (hs : symSm s = true) : symsSm (l.set k s) = true := all_set h hs
theorem objsA_set {l : List Objt} {k : Nat} {s : Objt} (h : objsA l = true) (hs : objSm s = true) : objsA (l.set k s) = true := all_set h hs
theorem symsSm_bind {l : List Sym} {k : Nat} {s : Sym} {b : Int} (h : symsSm l = true) (hs : l[k]? = some s) : symsSm (l.set k ⟨s.name, b, s.wher, s.value⟩) = true := symsSm_set h (show nmSm s.name = true from symsSm_get h hs)
theorem objsA_name {l : List Objt} {k j : Nat} {o : Objt} {s : Sym} {n : ByteArray} (h : objsA l = true) (ho : l[k]? = some o) (hs : o.syms[j]? = some s) (hn : nmSm n = true) : objsA (l.set k ⟨o.sects, o.syms.set j ⟨n, s.bind, s.wher, s.value⟩⟩) = true := by
 have h1 := objSm_iff.1 (objsA_get h ho)
 exact objsA_set h (objSm_mk h1.1.1 (by rw [List.length_set]; exact h1.1.2) h1.2.1 (symsSm_set h1.2.2 hn))
theorem namesG_sm {o : Objt} (h : objSm o = true) : nmsSm (namesG o) = true ∧ (namesG o).length ≤ 20 := by
 have h1 := objSm_iff.1 h
 unfold namesG
 split
 ·have h2 := (sortU_len (symP giveS o.syms)).1
  have h3 := symP_len (p := giveS) (l := o.syms)
  refine ⟨List.all_eq_true.2 fun n hn => ?_, by omega⟩
  obtain ⟨s, hs, _, rfl⟩ := mem_symP.1 (mem_sortU.1 hn)
  exact List.all_eq_true.1 h1.2.2 s hs
 ·exact ⟨rfl, by simp⟩
theorem namesG_two {l : List Objt} {k : Nat} {o q : Objt} (h : objsA l = true) (ho : l[k]? = some o) (hq : l[k]? = some q) : nmsSm (namesG ⟨o.sects, q.syms⟩) = true ∧ (namesG ⟨o.sects, q.syms⟩).length ≤ 20 := by
 rw [ho] at hq
 injection hq with hq
 subst hq
 exact namesG_sm (objsA_get h ho)
theorem repl_secs (n : Int) : (repl n (0 : Int)).length = n.toNat := by simp [repl]
theorem repl_syms (n : Int) : symsSm (repl n (⟨⟨⟨[]⟩⟩, 0, 0, 0⟩ : Sym)) = true := List.all_eq_true.2 fun y hy => by rw [List.eq_of_mem_replicate hy]; rfl
theorem repl_objs (n : Int) : objsA (repl n (⟨[], []⟩ : Objt)) = true := List.all_eq_true.2 fun y hy => by rw [List.eq_of_mem_replicate hy]; rfl
def C_spec_l20Section : Con := { ps := [.box (.ty (.st .reader)), .ro .i, .ro .i], out := fun x => let r : Reader := x.1; let many : Int := x.2.1; let n : Int := x.2.2.1; .req (0 ≤ r.p ∧ r.p ≤ 100000000 ∧ 0 ≤ many ∧ many ≤ 1000 ∧ n ≤ 1000000) (.all Sect fun s => .all Int fun p => .giv (r.p ≤ p ∧ p ≤ r.p + 100 ∧ secSm s = true) (rdS .sect s p)), det := false }
abbrev L_spec_l20Section : List (Nat × Con) := [(101, C_spec_l20Name), (61, C_spec_l20Rd_pick), (102, C_spec_l20Bytes), (103, C_spec_FixupWide), (63, C_spec_l20Rd_odd)]
def G_spec_l20Section : Cfg := GK L_spec_l20Section
def an_spec_l20Section : PTL C_spec_l20Section.ps → Nat → Option Ann := fun x kk_ => let r : Reader := x.1; let many : Int := x.2.1; let n : Int := x.2.2.1; if kk_ = 7 then some (.all (ByteArray) fun nm => .all (Int) fun kd => .all (Int) fun an => .all (List Int) fun y => .all (List Fixup) fun f => .all (Int) fun a => .all (Int) fun k => .all (Int) fun p => .giv (nm.size ≤ 16 ∧ y.length ≤ 14 ∧ 0 ≤ k ∧ f.length + k ≤ 3 ∧ 0 ≤ a ∧ a ≤ 100 ∧ r.p ≤ p ∧ p + 9 * k ≤ r.p + 70) (.mk [(9, ai k), (8, ai a), (6, aref 30), (7, aref 31), (0, aref 0), (1, ai many), (2, ai n)] [(0, lent (.st .reader) ⟨r.b, p⟩), (30, bx (ast .sect ⟨⟨⟨[]⟩⟩, 0, 0, [], 0, []⟩)), (31, .box false [.c (cs nm), .c (ci kd), .c (ci an), .sl 32 [], .c (ci 0), .sl 33 []]), (32, .row none .u y true), (33, .row (some 71) (.st .fixup) f true)] (k.toNat))) else if kk_ = 1013 then some (.all (ByteArray) fun nm => .all (Int) fun kd => .all (Int) fun an => .all (List Int) fun y => .all (Int) fun z => .all (List Fixup) fun f => .all (Int) fun p => .giv (nm.size ≤ 16 ∧ y.length ≤ 14 ∧ f.length ≤ 3 ∧ -1 ≤ z ∧ z ≤ 48 ∧ r.p ≤ p ∧ p ≤ r.p + 80) (.mk [(0, aref 0), (1, ai many), (2, ai n), (6, aref 30), (7, aref 31)] [(0, lent (.st .reader) ⟨r.b, p⟩), (30, bx (ast .sect ⟨⟨⟨[]⟩⟩, 0, 0, [], 0, []⟩)), (31, .box false [.c (cs nm), .c (ci kd), .c (ci an), .sl 32 [], .c (ci z), .sl 33 []]), (32, .row none .u y true), (33, .row none (.st .fixup) f true)] (0))) else none
def R_spec_l20Section_1 (r : Reader) (many : Int) (n : Int) : Prop := (∀ (a : ByteArray), (∀ (c : Int), (∀ (d : Int), (∀ (e : List Int), (∀ (f : Int), (∀ (g : List Fixup), (∀ (h : Int), ByteArray.size a ≤ 16 ∧ e.length ≤ 14 ∧ g.length ≤ 3 ∧ (- (1 : Int)) ≤ f ∧ f ≤ 48 ∧ r.p ≤ h ∧ h ≤ r.p + 80 →
 (0 : Nat) = (0 : Nat) →
 (0 ≤ h ∧ h ≤ 1000000000000 ∧ n ≤ 1000000) ∧ (∀ (i : Bool), (∀ (j : Int), h ≤ j ∧ j ≤ h + 1 ∧ (n ≤ 0 →
 i = false) →
 (i = true →
 (0 ≤ j ∧ j ≤ 1000000000000) ∧ (decide (pickF r.b j 6 = 0) = true →
 (0 ≤ j + 1 ∧ j + 1 ≤ 1000000000 ∧ (1 : Int) ≤ (1000000 : Int)) ∧ (∀ (k : ByteArray), (∀ (l : Int), j + 1 ≤ l ∧ l ≤ j + 1 + 3 ∧ ByteArray.size k ≤ 16 ∧ ((1 : Int) ≤ (0 : Int) →
 nameB k = true) →
 (∃ (m : Sect), (∃ (o : Int), (k = m.name ∧ c = m.kind ∧ d = m.align ∧ f = m.size ∧ e = m.bytes ∧ g = m.fixups ∧ r.b = r.b ∧ l = o ∧ True) ∧ r.p ≤ o ∧ o ≤ r.p + 100 ∧ secSm m = true))))) ∧ (decide (pickF r.b j 6 = 0) = false →
 (decide (pickF r.b j 6 = 1) = true →
 (0 ≤ j + 1 ∧ j + 1 ≤ 1000000000000) ∧ (0 ≤ pickF r.b (j + 1) 2 ∧ pickF r.b (j + 1) 2 < @Nat.cast Int _ (2 : Nat)) ∧ (∀ (q : Int), [(0 : Int), (4 : Int)][(pickF r.b (j + 1) 2).toNat]? = some q →
 Ok (Ty.int IntKind.i64) q →
 (∃ (s : Sect), (∃ (t : Int), (a = s.name ∧ q = s.kind ∧ d = s.align ∧ f = s.size ∧ e = s.bytes ∧ g = s.fixups ∧ r.b = r.b ∧ j + 1 + 1 = t ∧ True) ∧ r.p ≤ t ∧ t ≤ r.p + 100 ∧ secSm s = true)))) ∧ (decide (pickF r.b j 6 = 1) = false →
 (decide (pickF r.b j 6 = 2) = true →
 (0 ≤ j + 1 ∧ j + 1 ≤ 1000000000000) ∧ (0 ≤ pickF r.b (j + 1) 3 ∧ pickF r.b (j + 1) 3 < @Nat.cast Int _ (3 : Nat)) ∧ (∀ (u : Int), [(0 : Int), (3 : Int), (16 : Int)][(pickF r.b (j + 1) 3).toNat]? = some u →
 Ok (Ty.int IntKind.i64) u →
 (∃ (v : Sect), (∃ (w : Int), (a = v.name ∧ c = v.kind ∧ u = v.align ∧ f = v.size ∧ e = v.bytes ∧ g = v.fixups ∧ r.b = r.b ∧ j + 1 + 1 = w ∧ True) ∧ r.p ≤ w ∧ w ≤ r.p + 100 ∧ secSm v = true)))) ∧ (decide (pickF r.b j 6 = 2) = false →
 (decide (pickF r.b j 6 = 3) = true →
 (0 ≤ j + 1 ∧ j + 1 ≤ 1000000000000) ∧ (0 ≤ pickF r.b (j + 1) 2 ∧ pickF r.b (j + 1) 2 < @Nat.cast Int _ (2 : Nat)) ∧ (∀ (x : Int), [(- (1 : Int)), (49 : Int)][(pickF r.b (j + 1) 2).toNat]? = some x →
 Ok (Ty.int IntKind.i64) x →
 (∃ (y : Sect), (∃ (z : Int), (a = y.name ∧ c = y.kind ∧ d = y.align ∧ x = y.size ∧ e = y.bytes ∧ g = y.fixups ∧ r.b = r.b ∧ j + 1 + 1 = z ∧ True) ∧ r.p ≤ z ∧ z ≤ r.p + 100 ∧ secSm y = true)))) ∧ (decide (pickF r.b j 6 = 3) = false →
 (decide (pickF r.b j 6 = 4) = true →
 (0 ≤ j + 1 ∧ j + 1 ≤ 1000000000000) ∧ (0 ≤ pickF r.b (j + 1) 3 ∧ pickF r.b (j + 1) 3 < LN [(0 : Int), (- (1 : Int)), many]) ∧ (∀ (A : Int), [(0 : Int), (- (1 : Int)), many][(pickF r.b (j + 1) 3).toNat]? = some A →
 Ok (Ty.int IntKind.i64) A →
 (0 ≤ j + 1 + 1 ∧ j + 1 + 1 ≤ 1000000000000) ∧ (0 ≤ pickF r.b (j + 1 + 1) 2 ∧ pickF r.b (j + 1 + 1) 2 < @Nat.cast Int _ (2 : Nat)) ∧ (∀ (B : Int), [(0 : Int), (1001 : Int)][(pickF r.b (j + 1 + 1) 2).toNat]? = some B →
 Ok (Ty.int IntKind.i64) B →
 ((g.length + [Fixup.mk 0 1 A B].length) * 32 ≤ 140737488355328 ∧ g.length + [Fixup.mk 0 1 A B].length ≤ 1000000000000) ∧ (∃ (C : Sect), (∃ (D : Int), (a = C.name ∧ c = C.kind ∧ d = C.align ∧ f = C.size ∧ e = C.bytes ∧ g ++ [Fixup.mk 0 1 A B] = C.fixups ∧ r.b = r.b ∧ j + 1 + 1 + 1 = D ∧ True) ∧ r.p ≤ D ∧ D ≤ r.p + 100 ∧ secSm C = true))))) ∧ (decide (pickF r.b j 6 = 4) = false →
 ((49 : Int) = (49 : Int) ∧ (0 : Int) ≤ (49 : Int) ∧ (49 : Int) ≤ (1000000000000 : Int) ∧ @Nat.cast Int _ (1 : Nat) * 49 ≤ 140737488355328) ∧ (∃ (E : Sect), (∃ (F : Int), (a = E.name ∧ c = E.kind ∧ d = E.align ∧ f = E.size ∧ @repl Int (49 : Int) (0 : Int) = E.bytes ∧ g = E.fixups ∧ r.b = r.b ∧ j + 1 = F ∧ True) ∧ r.p ≤ F ∧ F ≤ r.p + 100 ∧ secSm E = true)))))))) ∧ (i = false →
 (∃ (G : Sect), (∃ (H : Int), (a = G.name ∧ c = G.kind ∧ d = G.align ∧ f = G.size ∧ e = G.bytes ∧ g = G.fixups ∧ r.b = r.b ∧ j = H ∧ True) ∧ r.p ≤ H ∧ H ≤ r.p + 100 ∧ secSm G = true))))))))))))
theorem vc_spec_l20Section (r : Reader) (many : Int) (n : Int) : (KP Tryz.f64 G_spec_l20Section C_spec_l20Section an_spec_l20Section (r, many, n, ())) = ((0 ≤ r.p ∧ r.p ≤ 1000000000 ∧ (0 : Int) ≤ (1000000 : Int)) ∧ (∀ (a : ByteArray), (∀ (c : Int), r.p ≤ c ∧ c ≤ r.p + 3 ∧ ByteArray.size a ≤ 16 ∧ ((0 : Int) ≤ (0 : Int) →
 nameB a = true) →
 (0 ≤ c ∧ c ≤ 1000000000000) ∧ i64 (1 + pickF r.b c 3) ∧ (0 ≤ c + 1 ∧ c + 1 ≤ 1000000000000) ∧ (0 ≤ pickF r.b (c + 1) 4 ∧ pickF r.b (c + 1) 4 < @Nat.cast Int _ (4 : Nat)) ∧ (∀ (d : Int), [(1 : Int), (2 : Int), (4 : Int), (8 : Int)][(pickF r.b (c + 1) 4).toNat]? = some d →
 Ok (Ty.int IntKind.i64) d →
 (decide (1 + pickF r.b c 3 = 3) = true →
 (0 ≤ c + 1 + 1 ∧ c + 1 + 1 ≤ 1000000000000) ∧ (0 ≤ c + 1 + 1 + 1 ∧ c + 1 + 1 + 1 ≤ 1000000000000) ∧ (0 ≤ pickF r.b (c + 1 + 1 + 1) 9 ∧ (0 : Int) < (8 : Int)) ∧ (0 ≤ pickF r.b (c + 1 + 1 + 1) 9 / 8 ∧ pickF r.b (c + 1 + 1 + 1) 9 / 8 < LN [pickF r.b (c + 1 + 1) 12, (48 : Int)]) ∧ (∀ (e : Int), [pickF r.b (c + 1 + 1) 12, (48 : Int)][(pickF r.b (c + 1 + 1 + 1) 9 / 8).toNat]? = some e →
 Ok (Ty.int IntKind.i64) e →
 (∃ (f : ByteArray), (∃ (g : Int), (∃ (h : Int), (∃ (i : List Int), (∃ (j : Int), (∃ (k : List Fixup), (∃ (l : Int), many = many ∧ n = n ∧ r.b = r.b ∧ c + 1 + 1 + 1 + 1 = l ∧ ByteArray.mk (@Array.mk UInt8 ([] : List UInt8)) = ByteArray.mk (@Array.mk UInt8 ([] : List UInt8)) ∧ (0 : Int) = (0 : Int) ∧ (0 : Int) = (0 : Int) ∧ ([] : List Int) = ([] : List Int) ∧ (0 : Int) = (0 : Int) ∧ ([] : List Fixup) = ([] : List Fixup) ∧ a = f ∧ 1 + pickF r.b c 3 = g ∧ d = h ∧ e = j ∧ ([] : List Int) = i ∧ ([] : List Fixup) = k ∧ (ByteArray.size f ≤ 16 ∧ i.length ≤ 14 ∧ k.length ≤ 3 ∧ (- (1 : Int)) ≤ j ∧ j ≤ 48 ∧ r.p ≤ l ∧ l ≤ r.p + 80) ∧ (R_spec_l20Section_1 r many n)))))))))) ∧ (decide (1 + pickF r.b c 3 = 3) = false →
 (0 ≤ c + 1 + 1 ∧ c + 1 + 1 ≤ 1000000000 ∧ (0 : Int) ≤ (14 : Int) ∧ (14 : Int) ≤ (1000 : Int)) ∧ (∀ (m : List Int), (∀ (o : Int), c + 1 + 1 ≤ o ∧ o ≤ c + 1 + 1 + (2 : Int) * (14 : Int) + 1 ∧ LN m ≤ 14 ∧ byB m →
 (0 ≤ o ∧ o ≤ 1000000000000) ∧ (∃ (q : ByteArray), (∃ (s : Int), (∃ (t : Int), (∃ (u : List Int), (∃ (v : List Fixup), (∃ (w : Int), (∃ (x : Int), (∃ (y : Int), pickF r.b o 4 = x ∧ 0 = w ∧ many = many ∧ n = n ∧ r.b = r.b ∧ o + 1 = y ∧ ByteArray.mk (@Array.mk UInt8 ([] : List UInt8)) = ByteArray.mk (@Array.mk UInt8 ([] : List UInt8)) ∧ (0 : Int) = (0 : Int) ∧ (0 : Int) = (0 : Int) ∧ ([] : List Int) = ([] : List Int) ∧ (0 : Int) = (0 : Int) ∧ ([] : List Fixup) = ([] : List Fixup) ∧ a = q ∧ 1 + pickF r.b c 3 = s ∧ d = t ∧ (0 : Int) = (0 : Int) ∧ m = u ∧ ([] : List Fixup) = v ∧ (ByteArray.size q ≤ 16 ∧ u.length ≤ 14 ∧ 0 ≤ x ∧ LN v + x ≤ 3 ∧ 0 ≤ w ∧ w ≤ 100 ∧ r.p ≤ y ∧ y + 9 * x ≤ r.p + 70) ∧ True)))))))) ∧ (∀ (z : ByteArray), (∀ (A : Int), (∀ (B : Int), (∀ (C : List Int), (∀ (D : List Fixup), (∀ (E : Int), (∀ (F : Int), (∀ (G : Int), ByteArray.size z ≤ 16 ∧ C.length ≤ 14 ∧ 0 ≤ F ∧ LN D + F ≤ 3 ∧ 0 ≤ E ∧ E ≤ 100 ∧ r.p ≤ G ∧ G + 9 * F ≤ r.p + 70 →
 (decide (0 < F) = true →
 (decide (0 < many) = true →
 (0 ≤ G ∧ G ≤ 1000000000000) ∧ i64 (E + pickF r.b G 3) ∧ (0 ≤ G + 1 ∧ G + 1 ≤ 1000000000000) ∧ i64 (1 + pickF r.b (G + 1) 3) ∧ (0 ≤ G + 1 + 1 ∧ G + 1 + 1 ≤ 1000000000000) ∧ (0 ≤ G + 1 + 1 + 1 ∧ G + 1 + 1 + 1 ≤ 1000000000000) ∧ i64 (pickF r.b (G + 1 + 1 + 1) 9 - 4) ∧ (0 ≤ G + 1 + 1 + 1 + 1 ∧ G + 1 + 1 + 1 + 1 ≤ 1000000000000) ∧ (0 ≤ G + 1 + 1 + 1 + 1 + 1 ∧ G + 1 + 1 + 1 + 1 + 1 ≤ 1000000000000) ∧ i64 (- (pickF r.b (G + 1 + 1 + 1 + 1 + 1) 256)) ∧ (0 ≤ G + 1 + 1 + 1 + 1 + 1 + 1 ∧ G + 1 + 1 + 1 + 1 + 1 + 1 ≤ 1000000000000) ∧ (0 ≤ pickF r.b (G + 1 + 1 + 1 + 1 + 1 + 1) 7 ∧ pickF r.b (G + 1 + 1 + 1 + 1 + 1 + 1) 7 < @Nat.cast Int _ (7 : Nat)) ∧ (∀ (H : Int), [(0 : Int), (0 : Int), (0 : Int), (1 : Int), (1 : Int), (2 : Int), (3 : Int)][(pickF r.b (G + 1 + 1 + 1 + 1 + 1 + 1) 7).toNat]? = some H →
 Ok (Ty.int IntKind.i64) H →
 (0 ≤ H ∧ H < LN [pickF r.b (G + 1 + 1 + 1) 9 - 4, (0 : Int), pickF r.b (G + 1 + 1 + 1 + 1) 256, (- (pickF r.b (G + 1 + 1 + 1 + 1 + 1) 256))]) ∧ (∀ (I : Int), [pickF r.b (G + 1 + 1 + 1) 9 - 4, (0 : Int), pickF r.b (G + 1 + 1 + 1 + 1) 256, (- (pickF r.b (G + 1 + 1 + 1 + 1 + 1) 256))][H.toNat]? = some I →
 Ok (Ty.int IntKind.i64) I →
 i64 (E + pickF r.b G 3 + fixWide (1 + pickF r.b (G + 1) 3)) ∧ (C.length ≤ 9223372036854775807 →
 (decide (LN C < E + pickF r.b G 3 + fixWide (1 + pickF r.b (G + 1) 3)) = true →
 (∃ (J : ByteArray), (∃ (K : Int), (∃ (L : Int), (∃ (M : List Int), (∃ (N : Int), (∃ (O : List Fixup), (∃ (P : Int), many = many ∧ n = n ∧ r.b = r.b ∧ G + 1 + 1 + 1 + 1 + 1 + 1 + 1 = P ∧ ByteArray.mk (@Array.mk UInt8 ([] : List UInt8)) = ByteArray.mk (@Array.mk UInt8 ([] : List UInt8)) ∧ (0 : Int) = (0 : Int) ∧ (0 : Int) = (0 : Int) ∧ ([] : List Int) = ([] : List Int) ∧ (0 : Int) = (0 : Int) ∧ ([] : List Fixup) = ([] : List Fixup) ∧ z = J ∧ A = K ∧ B = L ∧ 0 = N ∧ C = M ∧ D = O ∧ (ByteArray.size J ≤ 16 ∧ M.length ≤ 14 ∧ O.length ≤ 3 ∧ (- (1 : Int)) ≤ N ∧ N ≤ 48 ∧ r.p ≤ P ∧ P ≤ r.p + 80) ∧ (R_spec_l20Section_1 r many n))))))))) ∧ (decide (LN C < E + pickF r.b G 3 + fixWide (1 + pickF r.b (G + 1) 3)) = false →
 ((D.length + [Fixup.mk (E + pickF r.b G 3) (1 + pickF r.b (G + 1) 3) (pickF r.b (G + 1 + 1) many) I].length) * 32 ≤ 140737488355328 ∧ D.length + [Fixup.mk (E + pickF r.b G 3) (1 + pickF r.b (G + 1) 3) (pickF r.b (G + 1 + 1) many) I].length ≤ 1000000000000) ∧ i64 (E + pickF r.b G 3 + fixWide (1 + pickF r.b (G + 1) 3)) ∧ i64 (F - 1) ∧ (∃ (Q : ByteArray), (∃ (R : Int), (∃ (S : Int), (∃ (T : List Int), (∃ (U : List Fixup), (∃ (V : Int), (∃ (W : Int), (∃ (X : Int), F - 1 = W ∧ E + pickF r.b G 3 + fixWide (1 + pickF r.b (G + 1) 3) = V ∧ many = many ∧ n = n ∧ r.b = r.b ∧ G + 1 + 1 + 1 + 1 + 1 + 1 + 1 = X ∧ ByteArray.mk (@Array.mk UInt8 ([] : List UInt8)) = ByteArray.mk (@Array.mk UInt8 ([] : List UInt8)) ∧ (0 : Int) = (0 : Int) ∧ (0 : Int) = (0 : Int) ∧ ([] : List Int) = ([] : List Int) ∧ (0 : Int) = (0 : Int) ∧ ([] : List Fixup) = ([] : List Fixup) ∧ z = Q ∧ A = R ∧ B = S ∧ (0 : Int) = (0 : Int) ∧ C = T ∧ D ++ [Fixup.mk (E + pickF r.b G 3) (1 + pickF r.b (G + 1) 3) (pickF r.b (G + 1 + 1) many) I] = U ∧ (ByteArray.size Q ≤ 16 ∧ T.length ≤ 14 ∧ 0 ≤ W ∧ LN U + W ≤ 3 ∧ 0 ≤ V ∧ V ≤ 100 ∧ r.p ≤ X ∧ X + 9 * W ≤ r.p + 70) ∧ W.toNat < F.toNat))))))))))))) ∧ (decide (0 < many) = false →
 (∃ (Y : ByteArray), (∃ (Z : Int), (∃ (aa : Int), (∃ (ab : List Int), (∃ (ac : Int), (∃ (ad : List Fixup), (∃ (ae : Int), many = many ∧ n = n ∧ r.b = r.b ∧ G = ae ∧ ByteArray.mk (@Array.mk UInt8 ([] : List UInt8)) = ByteArray.mk (@Array.mk UInt8 ([] : List UInt8)) ∧ (0 : Int) = (0 : Int) ∧ (0 : Int) = (0 : Int) ∧ ([] : List Int) = ([] : List Int) ∧ (0 : Int) = (0 : Int) ∧ ([] : List Fixup) = ([] : List Fixup) ∧ z = Y ∧ A = Z ∧ B = aa ∧ 0 = ac ∧ C = ab ∧ D = ad ∧ (ByteArray.size Y ≤ 16 ∧ ab.length ≤ 14 ∧ ad.length ≤ 3 ∧ (- (1 : Int)) ≤ ac ∧ ac ≤ 48 ∧ r.p ≤ ae ∧ ae ≤ r.p + 80) ∧ (R_spec_l20Section_1 r many n)))))))))) ∧ (decide (0 < F) = false →
 (∃ (af : ByteArray), (∃ (ag : Int), (∃ (ah : Int), (∃ (ai : List Int), (∃ (aj : Int), (∃ (ak : List Fixup), (∃ (al : Int), many = many ∧ n = n ∧ r.b = r.b ∧ G = al ∧ ByteArray.mk (@Array.mk UInt8 ([] : List UInt8)) = ByteArray.mk (@Array.mk UInt8 ([] : List UInt8)) ∧ (0 : Int) = (0 : Int) ∧ (0 : Int) = (0 : Int) ∧ ([] : List Int) = ([] : List Int) ∧ (0 : Int) = (0 : Int) ∧ ([] : List Fixup) = ([] : List Fixup) ∧ z = af ∧ A = ag ∧ B = ah ∧ 0 = aj ∧ C = ai ∧ D = ak ∧ (ByteArray.size af ≤ 16 ∧ ai.length ≤ 14 ∧ ak.length ≤ 3 ∧ (- (1 : Int)) ≤ aj ∧ aj ≤ 48 ∧ r.p ≤ al ∧ al ≤ r.p + 80) ∧ (R_spec_l20Section_1 r many n)))))))))))))))))))))))) := by kernel_rfl
theorem det_spec_l20Section : C_spec_l20Section.det = true → ∀ x, (C_spec_l20Section.out x).Det := fun h => absurd h Bool.false_ne_true
theorem ok_spec_l20Section : ConOK Tryz.prog 64 C_spec_l20Section := by
 refine con_q (l := L_spec_l20Section) ⟨⟨ok_spec_l20Name, det_spec_l20Name⟩, ⟨⟨ok_spec_l20Rd_pick, det_spec_l20Rd_pick⟩, ⟨⟨ok_spec_l20Bytes, det_spec_l20Bytes⟩, ⟨⟨ok_spec_FixupWide, det_spec_FixupWide⟩, ⟨⟨ok_spec_l20Rd_odd, det_spec_l20Rd_odd⟩, trivial⟩⟩⟩⟩⟩ Tryz.func64 rfl (by decide) (by kernel_rfl) rfl an_spec_l20Section fun x ho hx => ?_
 obtain ⟨r, many, n, ⟨⟩⟩ := x
 refine Keeps.of (vc_spec_l20Section r many n) ?_
 revert r many n ho hx
 show ∀ (r : Reader) (many : Int) (n : Int), _
 intro r many n ho hx
 dsimp only [C_spec_l20Section, okPTL, okPT, Ok, Ty.cells, SN.cells, OkL, OkC, okI, ci, cb, cs, cl] at ho
 dsimp only [C_spec_l20Section, vc, v1, decB, SR.pre] at hx
 have hR_spec_l20Section_1 : R_spec_l20Section_1 r many n := by
  delta R_spec_l20Section_1
  have hb := pickF_bd r.b
  have hw := fixWide_le
  (try delta i64 LN); simp only [DRt, ex_sect2]; (repeat' first | apply And.intro | (intro x hq _; replace hq := List.mem_of_getElem? hq; simp only [List.mem_cons, List.not_mem_nil, or_false] at hq) | intro _); all_goals (try omega)
  all_goals (try grind [secSm_mk, symSm_mk, objSm_mk, secsSm_nil, symsSm_nil, objsA_nil, nmsSm_nil, secsSm_app, symsSm_app, objsA_app, nmsSm_app, secsSm_get, symsSm_get, objsA_get, nmsSm_get, objSm_iff, secSm_iff, symSm_iff, secSize_sm, repl_secs, repl_len, repl_syms, repl_objs, symsSm_bind, objsA_name, namesG_sm, symsAt_eq])
 simp only [eq_true hR_spec_l20Section_1]
 have hb := pickF_bd r.b
 have hw := fixWide_le
 (try delta i64 LN); simp only [DRt, ex_sect2]; (repeat' first | apply And.intro | (intro x hq _; replace hq := List.mem_of_getElem? hq; simp only [List.mem_cons, List.not_mem_nil, or_false] at hq) | intro _); all_goals (try omega)
 all_goals (try grind [secSm_mk, symSm_mk, objSm_mk, secsSm_nil, symsSm_nil, objsA_nil, nmsSm_nil, secsSm_app, symsSm_app, objsA_app, nmsSm_app, secsSm_get, symsSm_get, objsA_get, nmsSm_get, objSm_iff, secSm_iff, symSm_iff, secSize_sm, repl_secs, repl_len, repl_syms, repl_objs, symsSm_bind, objsA_name, namesG_sm, symsAt_eq])
def C_spec_l20Symbol : Con := { ps := [.box (.ty (.st .reader)), .ro (.list (.st .sect)), .ro .i], out := fun x => let r : Reader := x.1; let l : List (Sect) := x.2.1; let n : Int := x.2.2.1; .req (0 ≤ r.p ∧ r.p ≤ 100000000 ∧ n ≤ 1000000 ∧ secsSm l = true) (.all Sym fun s => .all Int fun p => .giv (r.p ≤ p ∧ p ≤ r.p + 30 ∧ symSm s = true) (rdV (ast .sym s) p)), det := false }
abbrev L_spec_l20Symbol : List (Nat × Con) := [(101, C_spec_l20Name), (61, C_spec_l20Rd_pick), (104, C_spec_SectionSize), (63, C_spec_l20Rd_odd)]
def G_spec_l20Symbol : Cfg := GK L_spec_l20Symbol
def an_spec_l20Symbol : PTL C_spec_l20Symbol.ps → Nat → Option Ann := fun x kk_ => let r : Reader := x.1; let l : List (Sect) := x.2.1; let n : Int := x.2.2.1; if kk_ = 1010 then some (.all (Sym) fun s => .all (Int) fun p => .giv (symSm s = true ∧ r.p ≤ p ∧ p ≤ r.p + 20) (.mk [(0, aref 0), (1, al (.st .sect) l), (2, ai n), (6, aref 30), (7, aref 31)] [(0, lent (.st .reader) ⟨r.b, p⟩), (30, bx (ast .sym ⟨⟨⟨[]⟩⟩, 0, 0, 0⟩)), (31, bx (ast .sym s))] (0))) else none
def R_spec_l20Symbol_1 (r : Reader) (l : List (Sect)) (n : Int) : Prop := (∀ (a : Sym), (∀ (c : Int), symSm a = true ∧ r.p ≤ c ∧ c ≤ r.p + 20 →
 (0 : Nat) = (0 : Nat) →
 (0 ≤ c ∧ c ≤ 1000000000000 ∧ n ≤ 1000000) ∧ (∀ (d : Bool), (∀ (e : Int), c ≤ e ∧ e ≤ c + 1 ∧ (n ≤ 0 →
 d = false) →
 (d = true →
 (0 ≤ e ∧ e ≤ 1000000000000) ∧ (decide (pickF r.b e 5 = 0) = true →
 (0 ≤ e + 1 ∧ e + 1 ≤ 1000000000 ∧ (1 : Int) ≤ (1000000 : Int)) ∧ (∀ (f : ByteArray), (∀ (g : Int), e + 1 ≤ g ∧ g ≤ e + 1 + 3 ∧ ByteArray.size f ≤ 16 ∧ ((1 : Int) ≤ (0 : Int) →
 nameB f = true) →
 (∃ (h : Sym), (∃ (i : Int), (f = h.name ∧ a.bind = h.bind ∧ a.wher = h.wher ∧ a.value = h.value ∧ r.b = r.b ∧ g = i ∧ True) ∧ r.p ≤ i ∧ i ≤ r.p + 30 ∧ symSm h = true))))) ∧ (decide (pickF r.b e 5 = 0) = false →
 (decide (pickF r.b e 5 = 1) = true →
 (0 ≤ e + 1 ∧ e + 1 ≤ 1000000000000) ∧ (0 ≤ pickF r.b (e + 1) 2 ∧ pickF r.b (e + 1) 2 < @Nat.cast Int _ (2 : Nat)) ∧ (∀ (j : Int), [(- (1 : Int)), (3 : Int)][(pickF r.b (e + 1) 2).toNat]? = some j →
 Ok (Ty.int IntKind.i64) j →
 (∃ (k : Sym), (∃ (m : Int), (a.name = k.name ∧ j = k.bind ∧ a.wher = k.wher ∧ a.value = k.value ∧ r.b = r.b ∧ e + 1 + 1 = m ∧ True) ∧ r.p ≤ m ∧ m ≤ r.p + 30 ∧ symSm k = true)))) ∧ (decide (pickF r.b e 5 = 1) = false →
 (decide (pickF r.b e 5 = 2) = true →
 l.length ≤ 9223372036854775807 →
 (0 ≤ e + 1 ∧ e + 1 ≤ 1000000000000) ∧ (0 ≤ pickF r.b (e + 1) 2 ∧ pickF r.b (e + 1) 2 < LN [(- (3 : Int)), LN l]) ∧ (∀ (o : Int), [(- (3 : Int)), LN l][(pickF r.b (e + 1) 2).toNat]? = some o →
 Ok (Ty.int IntKind.i64) o →
 (∃ (q : Sym), (∃ (s : Int), (a.name = q.name ∧ a.bind = q.bind ∧ o = q.wher ∧ a.value = q.value ∧ r.b = r.b ∧ e + 1 + 1 = s ∧ True) ∧ r.p ≤ s ∧ s ≤ r.p + 30 ∧ symSm q = true)))) ∧ (decide (pickF r.b e 5 = 2) = false →
 (decide (pickF r.b e 5 = 3) = true →
 (0 ≤ e + 1 ∧ e + 1 ≤ 1000000000000) ∧ (0 ≤ pickF r.b (e + 1) 2 ∧ pickF r.b (e + 1) 2 < @Nat.cast Int _ (2 : Nat)) ∧ (∀ (t : Int), [(- (1 : Int)), (60001 : Int)][(pickF r.b (e + 1) 2).toNat]? = some t →
 Ok (Ty.int IntKind.i64) t →
 (∃ (u : Sym), (∃ (v : Int), (a.name = u.name ∧ a.bind = u.bind ∧ a.wher = u.wher ∧ t = u.value ∧ r.b = r.b ∧ e + 1 + 1 = v ∧ True) ∧ r.p ≤ v ∧ v ≤ r.p + 30 ∧ symSm u = true)))) ∧ (decide (pickF r.b e 5 = 3) = false →
 (∃ (w : Sym), (∃ (x : Int), (ByteArray.mk (@Array.mk UInt8 [(120 : UInt8)]) = w.name ∧ 0 = w.bind ∧ (- (1 : Int)) = w.wher ∧ 0 = w.value ∧ r.b = r.b ∧ e + 1 = x ∧ True) ∧ r.p ≤ x ∧ x ≤ r.p + 30 ∧ symSm w = true))))))) ∧ (d = false →
 (∃ (y : Sym), (∃ (z : Int), (a.name = y.name ∧ a.bind = y.bind ∧ a.wher = y.wher ∧ a.value = y.value ∧ r.b = r.b ∧ e = z ∧ True) ∧ r.p ≤ z ∧ z ≤ r.p + 30 ∧ symSm y = true)))))))
theorem vc_spec_l20Symbol (r : Reader) (l : List (Sect)) (n : Int) : (KP Tryz.f65 G_spec_l20Symbol C_spec_l20Symbol an_spec_l20Symbol (r, l, n, ())) = ((0 ≤ r.p ∧ r.p ≤ 1000000000 ∧ (0 : Int) ≤ (1000000 : Int)) ∧ (∀ (a : ByteArray), (∀ (c : Int), r.p ≤ c ∧ c ≤ r.p + 3 ∧ ByteArray.size a ≤ 16 ∧ ((0 : Int) ≤ (0 : Int) →
 nameB a = true) →
 (0 ≤ c ∧ c ≤ 1000000000000) ∧ (0 ≤ pickF r.b c 4 ∧ pickF r.b c 4 < @Nat.cast Int _ (4 : Nat)) ∧ (∀ (d : Int), [(0 : Int), (1 : Int), (1 : Int), (2 : Int)][(pickF r.b c 4).toNat]? = some d →
 Ok (Ty.int IntKind.i64) d →
 (0 ≤ c + 1 ∧ c + 1 ≤ 1000000000000) ∧ (decide (pickF r.b (c + 1) 3 = 0) = true →
 (∃ (e : Sym), (∃ (f : Int), l = l ∧ n = n ∧ r.b = r.b ∧ c + 1 + 1 = f ∧ ByteArray.mk (@Array.mk UInt8 ([] : List UInt8)) = ByteArray.mk (@Array.mk UInt8 ([] : List UInt8)) ∧ (0 : Int) = (0 : Int) ∧ (0 : Int) = (0 : Int) ∧ (0 : Int) = (0 : Int) ∧ a = e.name ∧ @Max.max Int _ (1 : Int) d = e.bind ∧ (- (1 : Int)) = e.wher ∧ 0 = e.value ∧ (symSm e = true ∧ r.p ≤ f ∧ f ≤ r.p + 20) ∧ (R_spec_l20Symbol_1 r l n)))) ∧ (decide (pickF r.b (c + 1) 3 = 0) = false →
 (0 ≤ c + 1 + 1 ∧ c + 1 + 1 ≤ 1000000000000) ∧ (decide (pickF r.b (c + 1 + 1) 6 = 0) = true →
 (0 ≤ c + 1 + 1 + 1 ∧ c + 1 + 1 + 1 ≤ 1000000000000) ∧ i64 (pickF r.b (c + 1 + 1 + 1) 256 * 16) ∧ (0 ≤ c + 1 + 1 + 1 + 1 ∧ c + 1 + 1 + 1 + 1 ≤ 1000000000000) ∧ (0 ≤ pickF r.b (c + 1 + 1 + 1 + 1) 6 ∧ (0 : Int) < (5 : Int)) ∧ (0 ≤ pickF r.b (c + 1 + 1 + 1 + 1) 6 / 5 ∧ pickF r.b (c + 1 + 1 + 1 + 1) 6 / 5 < LN [pickF r.b (c + 1 + 1 + 1) 256 * 16, (60000 : Int)]) ∧ (∀ (g : Int), [pickF r.b (c + 1 + 1 + 1) 256 * 16, (60000 : Int)][(pickF r.b (c + 1 + 1 + 1 + 1) 6 / 5).toNat]? = some g →
 Ok (Ty.int IntKind.i64) g →
 (∃ (h : Sym), (∃ (i : Int), l = l ∧ n = n ∧ r.b = r.b ∧ c + 1 + 1 + 1 + 1 + 1 = i ∧ ByteArray.mk (@Array.mk UInt8 ([] : List UInt8)) = ByteArray.mk (@Array.mk UInt8 ([] : List UInt8)) ∧ (0 : Int) = (0 : Int) ∧ (0 : Int) = (0 : Int) ∧ (0 : Int) = (0 : Int) ∧ a = h.name ∧ d = h.bind ∧ (- (2 : Int)) = h.wher ∧ g = h.value ∧ (symSm h = true ∧ r.p ≤ i ∧ i ≤ r.p + 20) ∧ (R_spec_l20Symbol_1 r l n))))) ∧ (decide (pickF r.b (c + 1 + 1) 6 = 0) = false →
 l.length ≤ 9223372036854775807 →
 (decide (LN l = 0) = true →
 (0 ≤ c + 1 + 1 + 1 ∧ c + 1 + 1 + 1 ≤ 1000000000000) ∧ i64 (pickF r.b (c + 1 + 1 + 1) 256 * 16) ∧ (0 ≤ c + 1 + 1 + 1 + 1 ∧ c + 1 + 1 + 1 + 1 ≤ 1000000000000) ∧ (0 ≤ pickF r.b (c + 1 + 1 + 1 + 1) 6 ∧ (0 : Int) < (5 : Int)) ∧ (0 ≤ pickF r.b (c + 1 + 1 + 1 + 1) 6 / 5 ∧ pickF r.b (c + 1 + 1 + 1 + 1) 6 / 5 < LN [pickF r.b (c + 1 + 1 + 1) 256 * 16, (60000 : Int)]) ∧ (∀ (j : Int), [pickF r.b (c + 1 + 1 + 1) 256 * 16, (60000 : Int)][(pickF r.b (c + 1 + 1 + 1 + 1) 6 / 5).toNat]? = some j →
 Ok (Ty.int IntKind.i64) j →
 (∃ (k : Sym), (∃ (m : Int), l = l ∧ n = n ∧ r.b = r.b ∧ c + 1 + 1 + 1 + 1 + 1 = m ∧ ByteArray.mk (@Array.mk UInt8 ([] : List UInt8)) = ByteArray.mk (@Array.mk UInt8 ([] : List UInt8)) ∧ (0 : Int) = (0 : Int) ∧ (0 : Int) = (0 : Int) ∧ (0 : Int) = (0 : Int) ∧ a = k.name ∧ d = k.bind ∧ (- (2 : Int)) = k.wher ∧ j = k.value ∧ (symSm k = true ∧ r.p ≤ m ∧ m ≤ r.p + 20) ∧ (R_spec_l20Symbol_1 r l n))))) ∧ (decide (LN l = 0) = false →
 l.length ≤ 9223372036854775807 →
 (0 ≤ c + 1 + 1 + 1 ∧ c + 1 + 1 + 1 ≤ 1000000000000) ∧ (0 ≤ pickF r.b (c + 1 + 1 + 1) (LN l) ∧ pickF r.b (c + 1 + 1 + 1) (LN l) < LN l) ∧ (∀ (o : Sect), l[(pickF r.b (c + 1 + 1 + 1) (LN l)).toNat]? = some o →
 Ok (Ty.st SN.sect) o →
 i64 (secSize o + 1) ∧ (0 ≤ c + 1 + 1 + 1 + 1 ∧ c + 1 + 1 + 1 + 1 ≤ 1000000000000) ∧ (∃ (q : Sym), (∃ (s : Int), l = l ∧ n = n ∧ r.b = r.b ∧ c + 1 + 1 + 1 + 1 + 1 = s ∧ ByteArray.mk (@Array.mk UInt8 ([] : List UInt8)) = ByteArray.mk (@Array.mk UInt8 ([] : List UInt8)) ∧ (0 : Int) = (0 : Int) ∧ (0 : Int) = (0 : Int) ∧ (0 : Int) = (0 : Int) ∧ a = q.name ∧ d = q.bind ∧ pickF r.b (c + 1 + 1 + 1) (LN l) = q.wher ∧ pickF r.b (c + 1 + 1 + 1 + 1) (secSize o + 1) = q.value ∧ (symSm q = true ∧ r.p ≤ s ∧ s ≤ r.p + 20) ∧ (R_spec_l20Symbol_1 r l n))))))))))) := by kernel_rfl
theorem det_spec_l20Symbol : C_spec_l20Symbol.det = true → ∀ x, (C_spec_l20Symbol.out x).Det := fun h => absurd h Bool.false_ne_true
theorem ok_spec_l20Symbol : ConOK Tryz.prog 65 C_spec_l20Symbol := by
 refine con_q (l := L_spec_l20Symbol) ⟨⟨ok_spec_l20Name, det_spec_l20Name⟩, ⟨⟨ok_spec_l20Rd_pick, det_spec_l20Rd_pick⟩, ⟨⟨ok_spec_SectionSize, det_spec_SectionSize⟩, ⟨⟨ok_spec_l20Rd_odd, det_spec_l20Rd_odd⟩, trivial⟩⟩⟩⟩ Tryz.func65 rfl (by decide) (by kernel_rfl) rfl an_spec_l20Symbol fun x ho hx => ?_
 obtain ⟨r, l, n, ⟨⟩⟩ := x
 refine Keeps.of (vc_spec_l20Symbol r l n) ?_
 revert r l n ho hx
 show ∀ (r : Reader) (l : List (Sect)) (n : Int), _
 intro r l n ho hx
 dsimp only [C_spec_l20Symbol, okPTL, okPT, Ok, Ty.cells, SN.cells, OkL, OkC, okI, ci, cb, cs, cl] at ho
 dsimp only [C_spec_l20Symbol, vc, v1, decB, SR.pre] at hx
 have hR_spec_l20Symbol_1 : R_spec_l20Symbol_1 r l n := by
  delta R_spec_l20Symbol_1
  have hb := pickF_bd r.b
  (try delta i64 LN); simp only [DRt, ex_sect2]; (repeat' first | apply And.intro | (intro x hq _; replace hq := List.mem_of_getElem? hq; simp only [List.mem_cons, List.not_mem_nil, or_false] at hq) | intro _); all_goals (try omega)
  all_goals first | rfl | (have := secs_sz (by first | assumption | exact hx.1.2.2.2) (by assumption); omega) | (try grind [secSm_mk, symSm_mk, objSm_mk, secsSm_nil, symsSm_nil, objsA_nil, nmsSm_nil, secsSm_app, symsSm_app, objsA_app, nmsSm_app, secsSm_get, symsSm_get, objsA_get, nmsSm_get, objSm_iff, secSm_iff, symSm_iff, secSize_sm, repl_secs, repl_len, repl_syms, repl_objs, symsSm_bind, objsA_name, namesG_sm, symsAt_eq])
 simp only [eq_true hR_spec_l20Symbol_1]
 have hb := pickF_bd r.b
 (try delta i64 LN); simp only [DRt, ex_sect2]; (repeat' first | apply And.intro | (intro x hq _; replace hq := List.mem_of_getElem? hq; simp only [List.mem_cons, List.not_mem_nil, or_false] at hq) | intro _); all_goals (try omega)
 all_goals first | rfl | (have := secs_sz (by first | assumption | exact hx.1.2.2.2) (by assumption); omega) | (try grind [secSm_mk, symSm_mk, objSm_mk, secsSm_nil, symsSm_nil, objsA_nil, nmsSm_nil, secsSm_app, symsSm_app, objsA_app, nmsSm_app, secsSm_get, symsSm_get, objsA_get, nmsSm_get, objSm_iff, secSm_iff, symSm_iff, secSize_sm, repl_secs, repl_len, repl_syms, repl_objs, symsSm_bind, objsA_name, namesG_sm, symsAt_eq])
def C_spec_l20Object : Con := { ps := [.box (.ty (.st .reader)), .ro .i], out := fun x => let r : Reader := x.1; let n : Int := x.2.1; .req (0 ≤ r.p ∧ r.p ≤ 10000000 ∧ n ≤ 1000000) (.all Objt fun o => .all Int fun p => .giv (r.p ≤ p ∧ p ≤ r.p + 700 ∧ objSm o = true) (rdS .obj o p)), det := false }
abbrev L_spec_l20Object : List (Nat × Con) := [(61, C_spec_l20Rd_pick), (64, C_spec_l20Section), (65, C_spec_l20Symbol), (63, C_spec_l20Rd_odd)]
def G_spec_l20Object : Cfg := GK L_spec_l20Object
def an_spec_l20Object : PTL C_spec_l20Object.ps → Nat → Option Ann := fun x kk_ => let r : Reader := x.1; let n : Int := x.2.1; if kk_ = 4 then some (.all (Int) fun many => .all (Int) fun k => .all (List Sect) fun a => .all (Int) fun p => .giv (0 ≤ many ∧ many ≤ 5 ∧ 0 ≤ k ∧ a.length + k ≤ 3 ∧ secsSm a = true ∧ r.p ≤ p ∧ p + 100 * k ≤ r.p + 310) (.mk [(6, ai many), (7, ai k), (4, aref 30), (5, aref 31), (0, aref 0), (1, ai n)] [(0, lent (.st .reader) ⟨r.b, p⟩), (30, bx (ast .obj ⟨[], []⟩)), (31, .box false [.sl 32 [], .nil]), (32, .row (some 69) (.st .sect) a true)] (k.toNat))) else if kk_ = 8 then some (.all (Int) fun many => .all (Int) fun k => .all (List Sect) fun a => .all (List Sym) fun y => .all (Int) fun p => .giv (0 ≤ many ∧ many ≤ 5 ∧ 0 ≤ k ∧ k ≤ many ∧ a.length ≤ 3 ∧ y.length ≤ k ∧ secsSm a = true ∧ symsSm y = true ∧ r.p ≤ p ∧ p ≤ r.p + 310 + 30 * k) (.mk [(6, ai many), (8, ai k), (4, aref 30), (5, aref 31), (0, aref 0), (1, ai n)] [(0, lent (.st .reader) ⟨r.b, p⟩), (30, bx (ast .obj ⟨[], []⟩)), (31, .box false [.sl 32 [], .sl 33 []]), (32, .row (some 69) (.st .sect) a true), (33, .row (some 64) (.st .sym) y true)] ((many - k).toNat))) else if kk_ = 2012 then some (.all (Int) fun many => .all (Int) fun k => .all (Int) fun j => .all (List Sect) fun a => .all (List Sym) fun y => .all (Sym) fun s => .all (Int) fun p => .giv (0 ≤ many ∧ many ≤ 5 ∧ 0 ≤ k ∧ k < many ∧ 0 ≤ j ∧ j ≤ y.length ∧ a.length ≤ 3 ∧ y.length ≤ k ∧ secsSm a = true ∧ symsSm y = true ∧ symSm s = true ∧ r.p ≤ p ∧ p ≤ r.p + 340 + 30 * k) (.mk [(6, ai many), (8, ai k), (10, ai j), (4, aref 30), (5, aref 31), (9, aref 35), (0, aref 0), (1, ai n)] [(0, lent (.st .reader) ⟨r.b, p⟩), (30, bx (ast .obj ⟨[], []⟩)), (31, .box false [.sl 32 [], .sl 33 []]), (32, .row (some 69) (.st .sect) a true), (33, .row (some 64) (.st .sym) y true), (35, bx (ast .sym s))] ((many - k).toNat * 1000 + (100 - j).toNat))) else none
theorem vc_spec_l20Object (r : Reader) (n : Int) : (KP Tryz.f28 G_spec_l20Object C_spec_l20Object an_spec_l20Object (r, n, ())) = ((0 ≤ r.p ∧ r.p ≤ 1000000000000) ∧ (0 ≤ r.p + 1 ∧ r.p + 1 ≤ 1000000000000) ∧ (∃ (a : Int), (∃ (c : Int), (∃ (d : List Sect), (∃ (e : Int), pickF r.b r.p 6 = a ∧ pickF r.b (r.p + 1) 4 = c ∧ n = n ∧ r.b = r.b ∧ r.p + 1 + 1 = e ∧ ([] : List Sect) = ([] : List Sect) ∧ ([] : List Sym) = ([] : List Sym) ∧ ([] : List Sect) = d ∧ (0 ≤ a ∧ a ≤ 5 ∧ 0 ≤ c ∧ LN d + c ≤ 3 ∧ secsSm d = true ∧ r.p ≤ e ∧ e + 100 * c ≤ r.p + 310) ∧ True)))) ∧ (∀ (f : Int), (∀ (g : Int), (∀ (h : List Sect), (∀ (i : Int), 0 ≤ f ∧ f ≤ 5 ∧ 0 ≤ g ∧ LN h + g ≤ 3 ∧ secsSm h = true ∧ r.p ≤ i ∧ i + 100 * g ≤ r.p + 310 →
 (decide (0 < g) = true →
 (0 ≤ i ∧ i ≤ 100000000 ∧ 0 ≤ f ∧ f ≤ 1000 ∧ (0 : Int) ≤ (1000000 : Int)) ∧ (∀ (j : Sect), (∀ (k : Int), i ≤ k ∧ k ≤ i + 100 ∧ secSm j = true →
 ((h.length + [j].length) * 88 ≤ 140737488355328 ∧ h.length + [j].length ≤ 1000000000000) ∧ i64 (g - 1) ∧ (∃ (l : Int), (∃ (m : Int), (∃ (o : List Sect), (∃ (q : Int), f = l ∧ g - 1 = m ∧ n = n ∧ r.b = r.b ∧ k = q ∧ ([] : List Sect) = ([] : List Sect) ∧ ([] : List Sym) = ([] : List Sym) ∧ h ++ [j] = o ∧ (0 ≤ l ∧ l ≤ 5 ∧ 0 ≤ m ∧ LN o + m ≤ 3 ∧ secsSm o = true ∧ r.p ≤ q ∧ q + 100 * m ≤ r.p + 310) ∧ m.toNat < g.toNat))))))) ∧ (decide (0 < g) = false →
 (∃ (s : Int), (∃ (t : Int), (∃ (v : List Sect), (∃ (w : List Sym), (∃ (x : Int), f = s ∧ 0 = t ∧ n = n ∧ r.b = r.b ∧ i = x ∧ ([] : List Sect) = ([] : List Sect) ∧ ([] : List Sym) = ([] : List Sym) ∧ h = v ∧ ([] : List Sym) = w ∧ (0 ≤ s ∧ s ≤ 5 ∧ 0 ≤ t ∧ t ≤ s ∧ v.length ≤ 3 ∧ LN w ≤ t ∧ secsSm v = true ∧ symsSm w = true ∧ r.p ≤ x ∧ x ≤ r.p + 310 + 30 * t) ∧ True))))) ∧ (∀ (y : Int), (∀ (z : Int), (∀ (A : List Sect), (∀ (B : List Sym), (∀ (C : Int), 0 ≤ y ∧ y ≤ 5 ∧ 0 ≤ z ∧ z ≤ y ∧ A.length ≤ 3 ∧ LN B ≤ z ∧ secsSm A = true ∧ symsSm B = true ∧ r.p ≤ C ∧ C ≤ r.p + 310 + 30 * z →
 (decide (z < y) = true →
 (0 ≤ C ∧ C ≤ 100000000 ∧ (0 : Int) ≤ (1000000 : Int) ∧ secsSm A = true) ∧ (∀ (D : Sym), (∀ (E : Int), C ≤ E ∧ E ≤ C + 30 ∧ symSm D = true →
 (∃ (F : Int), (∃ (G : Int), (∃ (H : Int), (∃ (I : List Sect), (∃ (J : List Sym), (∃ (K : Sym), (∃ (L : Int), y = F ∧ z = G ∧ 0 = H ∧ n = n ∧ r.b = r.b ∧ E = L ∧ ([] : List Sect) = ([] : List Sect) ∧ ([] : List Sym) = ([] : List Sym) ∧ A = I ∧ B = J ∧ D.name = K.name ∧ D.bind = K.bind ∧ D.wher = K.wher ∧ D.value = K.value ∧ (0 ≤ F ∧ F ≤ 5 ∧ 0 ≤ G ∧ G < F ∧ 0 ≤ H ∧ H ≤ LN J ∧ I.length ≤ 3 ∧ LN J ≤ G ∧ secsSm I = true ∧ symsSm J = true ∧ symSm K = true ∧ r.p ≤ L ∧ L ≤ r.p + 340 + 30 * G) ∧ (∀ (M : Int), (∀ (N : Int), (∀ (O : Int), (∀ (P : List Sect), (∀ (Q : List Sym), (∀ (R : Sym), (∀ (S : Int), 0 ≤ M ∧ M ≤ 5 ∧ 0 ≤ N ∧ N < M ∧ 0 ≤ O ∧ O ≤ LN Q ∧ P.length ≤ 3 ∧ LN Q ≤ N ∧ secsSm P = true ∧ symsSm Q = true ∧ symSm R = true ∧ r.p ≤ S ∧ S ≤ r.p + 340 + 30 * N →
 (M - N).toNat * 1000 + (100 - O).toNat ≤ (F - G).toNat * 1000 + (100 - H).toNat →
 Q.length ≤ 9223372036854775807 →
 (decide (O < LN Q) = true →
 (0 ≤ O ∧ O < LN Q) ∧ (∀ (T : Sym), Q[O.toNat]? = some T →
 Ok (Ty.st SN.sym) T →
 (decide (T.name = R.name) = true →
 (decide (R.bind ≠ 0) = true →
 (0 ≤ O ∧ O < LN Q) ∧ (∀ (U : Sym), Q[O.toNat]? = some U →
 Ok (Ty.st SN.sym) U →
 (decide (U.bind ≠ 0) = true →
 i64 (48 + N) ∧ [(48 + N) % (256 : Ty.den Ty.u)].length ≤ 1000000000000 ∧ 1 + ByteArray.size (strOf [(48 + N) % (256 : Ty.den Ty.u)]) ≤ 9223372036854775807 ∧ i64 (7 * N) ∧ i64 (O + 1) ∧ (∃ (V : Int), (∃ (W : Int), (∃ (X : Int), (∃ (Y : List Sect), (∃ (Z : List Sym), (∃ (aa : Sym), (∃ (ab : Int), M = V ∧ N = W ∧ O + 1 = X ∧ n = n ∧ r.b = r.b ∧ S = ab ∧ ([] : List Sect) = ([] : List Sect) ∧ ([] : List Sym) = ([] : List Sym) ∧ P = Y ∧ Q = Z ∧ ByteArray.mk (@Array.mk UInt8 [(115 : UInt8)]) ++ strOf [(48 + N) % (256 : Ty.den Ty.u)] = aa.name ∧ 1 = aa.bind ∧ (- (2 : Int)) = aa.wher ∧ 7 * N = aa.value ∧ (0 ≤ V ∧ V ≤ 5 ∧ 0 ≤ W ∧ W < V ∧ 0 ≤ X ∧ X ≤ LN Z ∧ Y.length ≤ 3 ∧ LN Z ≤ W ∧ secsSm Y = true ∧ symsSm Z = true ∧ symSm aa = true ∧ r.p ≤ ab ∧ ab ≤ r.p + 340 + 30 * W) ∧ (V - W).toNat * 1000 + (100 - X).toNat < (M - N).toNat * 1000 + (100 - O).toNat)))))))) ∧ (decide (U.bind ≠ 0) = false →
 i64 (O + 1) ∧ (∃ (ac : Int), (∃ (ad : Int), (∃ (ae : Int), (∃ (af : List Sect), (∃ (ag : List Sym), (∃ (ah : Sym), (∃ (ai : Int), M = ac ∧ N = ad ∧ O + 1 = ae ∧ n = n ∧ r.b = r.b ∧ S = ai ∧ ([] : List Sect) = ([] : List Sect) ∧ ([] : List Sym) = ([] : List Sym) ∧ P = af ∧ Q = ag ∧ R.name = ah.name ∧ R.bind = ah.bind ∧ R.wher = ah.wher ∧ R.value = ah.value ∧ (0 ≤ ac ∧ ac ≤ 5 ∧ 0 ≤ ad ∧ ad < ac ∧ 0 ≤ ae ∧ ae ≤ LN ag ∧ af.length ≤ 3 ∧ LN ag ≤ ad ∧ secsSm af = true ∧ symsSm ag = true ∧ symSm ah = true ∧ r.p ≤ ai ∧ ai ≤ r.p + 340 + 30 * ad) ∧ (ac - ad).toNat * 1000 + (100 - ae).toNat < (M - N).toNat * 1000 + (100 - O).toNat)))))))))) ∧ (decide (R.bind ≠ 0) = false →
 i64 (O + 1) ∧ (∃ (aj : Int), (∃ (ak : Int), (∃ (al : Int), (∃ (am : List Sect), (∃ (an : List Sym), (∃ (ao : Sym), (∃ (ap : Int), M = aj ∧ N = ak ∧ O + 1 = al ∧ n = n ∧ r.b = r.b ∧ S = ap ∧ ([] : List Sect) = ([] : List Sect) ∧ ([] : List Sym) = ([] : List Sym) ∧ P = am ∧ Q = an ∧ R.name = ao.name ∧ R.bind = ao.bind ∧ R.wher = ao.wher ∧ R.value = ao.value ∧ (0 ≤ aj ∧ aj ≤ 5 ∧ 0 ≤ ak ∧ ak < aj ∧ 0 ≤ al ∧ al ≤ LN an ∧ am.length ≤ 3 ∧ LN an ≤ ak ∧ secsSm am = true ∧ symsSm an = true ∧ symSm ao = true ∧ r.p ≤ ap ∧ ap ≤ r.p + 340 + 30 * ak) ∧ (aj - ak).toNat * 1000 + (100 - al).toNat < (M - N).toNat * 1000 + (100 - O).toNat))))))))) ∧ (decide (T.name = R.name) = false →
 i64 (O + 1) ∧ (∃ (aq : Int), (∃ (ar : Int), (∃ (au : Int), (∃ (av : List Sect), (∃ (aw : List Sym), (∃ (ax : Sym), (∃ (ay : Int), M = aq ∧ N = ar ∧ O + 1 = au ∧ n = n ∧ r.b = r.b ∧ S = ay ∧ ([] : List Sect) = ([] : List Sect) ∧ ([] : List Sym) = ([] : List Sym) ∧ P = av ∧ Q = aw ∧ R.name = ax.name ∧ R.bind = ax.bind ∧ R.wher = ax.wher ∧ R.value = ax.value ∧ (0 ≤ aq ∧ aq ≤ 5 ∧ 0 ≤ ar ∧ ar < aq ∧ 0 ≤ au ∧ au ≤ LN aw ∧ av.length ≤ 3 ∧ LN aw ≤ ar ∧ secsSm av = true ∧ symsSm aw = true ∧ symSm ax = true ∧ r.p ≤ ay ∧ ay ≤ r.p + 340 + 30 * ar) ∧ (aq - ar).toNat * 1000 + (100 - au).toNat < (M - N).toNat * 1000 + (100 - O).toNat)))))))))) ∧ (decide (O < LN Q) = false →
 ((Q.length + [R].length) * 40 ≤ 140737488355328 ∧ Q.length + [R].length ≤ 1000000000000) ∧ i64 (N + 1) ∧ (∃ (az : Int), (∃ (aA : Int), (∃ (aB : List Sect), (∃ (aC : List Sym), (∃ (aD : Int), M = az ∧ N + 1 = aA ∧ n = n ∧ r.b = r.b ∧ S = aD ∧ ([] : List Sect) = ([] : List Sect) ∧ ([] : List Sym) = ([] : List Sym) ∧ P = aB ∧ Q ++ [R] = aC ∧ (0 ≤ az ∧ az ≤ 5 ∧ 0 ≤ aA ∧ aA ≤ az ∧ aB.length ≤ 3 ∧ LN aC ≤ aA ∧ secsSm aB = true ∧ symsSm aC = true ∧ r.p ≤ aD ∧ aD ≤ r.p + 310 + 30 * aA) ∧ (az - aA).toNat < (y - z).toNat))))))))))))))))))))))) ∧ (decide (z < y) = false →
 (0 ≤ C ∧ C ≤ 1000000000000 ∧ n ≤ 1000000) ∧ (∀ (aE : Bool), (∀ (aF : Int), C ≤ aF ∧ aF ≤ C + 1 ∧ (n ≤ 0 →
 aE = false) →
 (aE = true →
 (0 ≤ aF ∧ aF ≤ 1000000000000) ∧ (decide (pickF r.b aF 4 = 0) = true →
 (0 ≤ aF + 1 ∧ aF + 1 ≤ 100000000 ∧ 0 ≤ y ∧ y ≤ 1000 ∧ (1 : Int) ≤ (1000000 : Int)) ∧ (∀ (aG : Sect), (∀ (aH : Int), aF + 1 ≤ aH ∧ aH ≤ aF + 1 + 100 ∧ secSm aG = true →
 ((A.length + [aG].length) * 88 ≤ 140737488355328 ∧ A.length + [aG].length ≤ 1000000000000) ∧ (∃ (aI : Objt), (∃ (aJ : Int), (A ++ [aG] = aI.sects ∧ B = aI.syms ∧ r.b = r.b ∧ aH = aJ ∧ True) ∧ r.p ≤ aJ ∧ aJ ≤ r.p + 700 ∧ objSm aI = true))))) ∧ (decide (pickF r.b aF 4 = 0) = false →
 (decide (pickF r.b aF 4 = 1) = true →
 (0 ≤ aF + 1 ∧ aF + 1 ≤ 100000000 ∧ (1 : Int) ≤ (1000000 : Int) ∧ secsSm A = true) ∧ (∀ (aK : Sym), (∀ (aL : Int), aF + 1 ≤ aL ∧ aL ≤ aF + 1 + 30 ∧ symSm aK = true →
 ((B.length + [aK].length) * 40 ≤ 140737488355328 ∧ B.length + [aK].length ≤ 1000000000000) ∧ (∃ (aM : Objt), (∃ (aN : Int), (A = aM.sects ∧ B ++ [aK] = aM.syms ∧ r.b = r.b ∧ aL = aN ∧ True) ∧ r.p ≤ aN ∧ aN ≤ r.p + 700 ∧ objSm aM = true))))) ∧ (decide (pickF r.b aF 4 = 1) = false →
 (decide (pickF r.b aF 4 = 2) = true →
 ((B.length + 2) * 40 ≤ 140737488355328 ∧ B.length + 2 ≤ 1000000000000) ∧ (∃ (aO : Objt), (∃ (aP : Int), (A = aO.sects ∧ B ++ [Sym.mk (ByteArray.mk (@Array.mk UInt8 [(116 : UInt8), (119 : UInt8), (111 : UInt8)])) 1 (- (2 : Int)) 0, Sym.mk (ByteArray.mk (@Array.mk UInt8 [(116 : UInt8), (119 : UInt8), (111 : UInt8)])) 2 (- (2 : Int)) 0] = aO.syms ∧ r.b = r.b ∧ aF + 1 = aP ∧ True) ∧ r.p ≤ aP ∧ aP ≤ r.p + 700 ∧ objSm aO = true))) ∧ (decide (pickF r.b aF 4 = 2) = false →
 ((13 : Int) = (13 : Int) ∧ (0 : Int) ≤ (13 : Int) ∧ (13 : Int) ≤ (1000000000000 : Int) ∧ @Nat.cast Int _ (40 : Nat) * 13 ≤ 140737488355328) ∧ (∃ (aQ : Objt), (∃ (aR : Int), (A = aQ.sects ∧ @repl Sym (13 : Int) (Sym.mk (ByteArray.mk (@Array.mk UInt8 ([] : List UInt8))) 0 0 0) = aQ.syms ∧ r.b = r.b ∧ aF + 1 = aR ∧ True) ∧ r.p ≤ aR ∧ aR ≤ r.p + 700 ∧ objSm aQ = true)))))) ∧ (aE = false →
 (∃ (aS : Objt), (∃ (aT : Int), (A = aS.sects ∧ B = aS.syms ∧ r.b = r.b ∧ aF = aT ∧ True) ∧ r.p ≤ aT ∧ aT ≤ r.p + 700 ∧ objSm aS = true))))))))))))))))) := by kernel_rfl
theorem det_spec_l20Object : C_spec_l20Object.det = true → ∀ x, (C_spec_l20Object.out x).Det := fun h => absurd h Bool.false_ne_true
theorem ok_spec_l20Object : ConOK Tryz.prog 28 C_spec_l20Object := by
 refine con_q (l := L_spec_l20Object) ⟨⟨ok_spec_l20Rd_pick, det_spec_l20Rd_pick⟩, ⟨⟨ok_spec_l20Section, det_spec_l20Section⟩, ⟨⟨ok_spec_l20Symbol, det_spec_l20Symbol⟩, ⟨⟨ok_spec_l20Rd_odd, det_spec_l20Rd_odd⟩, trivial⟩⟩⟩⟩ Tryz.func28 rfl (by decide) (by kernel_rfl) rfl an_spec_l20Object fun x ho hx => ?_
 obtain ⟨r, n, ⟨⟩⟩ := x
 refine Keeps.of (vc_spec_l20Object r n) ?_
 revert r n ho hx
 show ∀ (r : Reader) (n : Int), _
 intro r n ho hx
 dsimp only [C_spec_l20Object, okPTL, okPT, Ok, Ty.cells, SN.cells, OkL, OkC, okI, ci, cb, cs, cl] at ho
 dsimp only [C_spec_l20Object, vc, v1, decB, SR.pre] at hx
 have hb := pickF_bd r.b
 (try delta i64 LN); simp only [DRt, ex_sect2]; (repeat' first | apply And.intro | (intro x hq _; replace hq := List.mem_of_getElem? hq; simp only [List.mem_cons, List.not_mem_nil, or_false] at hq) | intro _); all_goals (try omega)
 all_goals first | exact symSm_dig | exact symsAt_slen (by assumption) (by assumption) | exact symsAt_sl2 (by assumption) (by assumption) | exact symsAt_sm (by assumption) _ | exact objSm_two (by omega) (by omega) (by assumption) (by assumption) rfl rfl | (try grind [secSm_mk, symSm_mk, objSm_mk, secsSm_nil, symsSm_nil, objsA_nil, nmsSm_nil, secsSm_app, symsSm_app, objsA_app, nmsSm_app, secsSm_get, symsSm_get, objsA_get, nmsSm_get, objSm_iff, secSm_iff, symSm_iff, secSize_sm, repl_secs, repl_len, repl_syms, repl_objs, symsSm_bind, objsA_name, namesG_sm, symsAt_eq, strOf_len])
def C_spec_l20Objects : Con := { ps := [.box (.ty (.st .reader)), .ro .i], out := fun x => let r : Reader := x.1; let n : Int := x.2.1; .req (0 ≤ r.p ∧ r.p ≤ 1000000 ∧ 0 ≤ n ∧ n ≤ 100000) (.all (List Objt) fun l => .all Int fun p => .giv (r.p ≤ p ∧ p ≤ r.p + 5000 ∧ l.length ≤ 5 ∧ objsA l = true) (rdE 26 (.st .obj) l p)), det := false }
abbrev L_spec_l20Objects : List (Nat × Con) := [(61, C_spec_l20Rd_pick), (28, C_spec_l20Object), (62, C_spec_NamesGiven), (63, C_spec_l20Rd_odd)]
def G_spec_l20Objects : Cfg := GK L_spec_l20Objects
def an_spec_l20Objects : PTL C_spec_l20Objects.ps → Nat → Option Ann := fun x kk_ => let r : Reader := x.1; let n : Int := x.2.1; if kk_ = 3 then some (.all (Int) fun k => .all (List Objt) fun a => .all (Int) fun p => .giv (0 ≤ k ∧ a.length + k ≤ 3 ∧ objsA a = true ∧ r.p ≤ p ∧ p + 800 * k ≤ r.p + 2402) (.mk [(6, ai k), (5, asl 20), (0, aref 0), (1, ai n)] [(0, lent (.st .reader) ⟨r.b, p⟩), (20, .row (some 26) (.st .obj) a true)] (k.toNat))) else if kk_ = 2007 then some (.all (Int) fun k => .all (Int) fun j => .all (List Objt) fun a => .all (List Sect) fun b => .all (List Sym) fun y => .all (Int) fun p => .giv (0 < k ∧ a.length + k ≤ 3 ∧ objsA a = true ∧ 0 ≤ j ∧ j ≤ y.length ∧ b.length ≤ 6 ∧ y.length ≤ 20 ∧ secsSm b = true ∧ symsSm y = true ∧ r.p ≤ p ∧ p + 800 * k ≤ r.p + 2402 + 700 + j + 1) (.mk [(6, ai k), (8, ai j), (5, asl 20), (7, aref 34), (0, aref 0), (1, ai n)] [(0, lent (.st .reader) ⟨r.b, p⟩), (20, .row (some 26) (.st .obj) a true), (34, .box false [.sl 35 [], .sl 36 []]), (35, .row none (.st .sect) b true), (36, .row none (.st .sym) y true)] (k.toNat * 1000 + (100 - j).toNat))) else if kk_ = 15 then some (.all (Int) fun k => .all (List Objt) fun a => .all (List ByteArray) fun g => .all (Int) fun p => .giv (0 ≤ k ∧ k ≤ a.length ∧ a.length ≤ 3 ∧ objsA a = true ∧ nmsSm g = true ∧ g.length ≤ 20 * k ∧ r.p ≤ p ∧ p ≤ r.p + 2500) (.mk [(10, ai k), (5, asl 20), (9, asl 21), (0, aref 0), (1, ai n)] [(0, lent (.st .reader) ⟨r.b, p⟩), (20, .row (some 26) (.st .obj) a true), (21, .row (some 9) .str g true)] ((a.length - k.toNat)))) else if kk_ = 19 then some (.all (Int) fun k => .all (List Objt) fun a => .all (List ByteArray) fun g => .all (Int) fun p => .giv (0 ≤ k ∧ k ≤ a.length ∧ a.length ≤ 3 ∧ objsA a = true ∧ nmsSm g = true ∧ r.p ≤ p ∧ p ≤ r.p + 2500 + 20 * k) (.mk [(11, ai k), (5, asl 20), (9, al .str g), (0, aref 0), (1, ai n)] [(0, lent (.st .reader) ⟨r.b, p⟩), (20, .row (some 26) (.st .obj) a true)] ((a.length - k.toNat)))) else if kk_ = 2022 then some (.all (Int) fun k => .all (Int) fun j => .all (List Objt) fun a => .all (List ByteArray) fun g => .all (Int) fun p => .giv (0 ≤ k ∧ k < a.length ∧ a.length ≤ 3 ∧ 0 ≤ j ∧ (symsAt a k).length ≤ 20 ∧ j ≤ (symsAt a k).length ∧ objsA a = true ∧ nmsSm g = true ∧ r.p ≤ p ∧ p ≤ r.p + 2500 + 20 * k + j) (.mk [(11, ai k), (12, ai j), (5, asl 20), (9, al .str g), (0, aref 0), (1, ai n)] [(0, lent (.st .reader) ⟨r.b, p⟩), (20, .row (some 26) (.st .obj) a true)] ((a.length - k.toNat) * 1000000 + (100 - j).toNat * 1000))) else if kk_ = 2028 then some (.all (Int) fun k => .all (Int) fun j => .all (Int) fun i => .all (Bool) fun f => .all (ByteArray) fun nm => .all (List Objt) fun a => .all (List ByteArray) fun g => .all (Int) fun p => .giv (0 ≤ k ∧ k < a.length ∧ a.length ≤ 3 ∧ 0 ≤ j ∧ (symsAt a k).length ≤ 20 ∧ j < (symsAt a k).length ∧ 0 ≤ i ∧ i ≤ (symsAt a k).length ∧ objsA a = true ∧ nmsSm g = true ∧ nmSm nm = true ∧ r.p ≤ p ∧ p ≤ r.p + 2500 + 20 * k + j + 1) (.mk [(11, ai k), (12, ai j), (15, ai i), (13, ax nm), (14, ab f), (5, asl 20), (9, al .str g), (0, aref 0), (1, ai n)] [(0, lent (.st .reader) ⟨r.b, p⟩), (20, .row (some 26) (.st .obj) a true)] ((a.length - k.toNat) * 1000000 + (100 - j).toNat * 1000 + (100 - i).toNat))) else none
theorem vc_spec_l20Objects (r : Reader) (n : Int) : (KP Tryz.f27 G_spec_l20Objects C_spec_l20Objects an_spec_l20Objects (r, n, ())) = ((0 ≤ r.p ∧ r.p ≤ 1000000000000) ∧ (∃ (a : Int), (∃ (c : List Objt), (∃ (d : Int), pickF r.b r.p 4 = a ∧ n = n ∧ r.b = r.b ∧ r.p + 1 = d ∧ ([] : List Objt) = c ∧ (0 ≤ a ∧ LN c + a ≤ 3 ∧ objsA c = true ∧ r.p ≤ d ∧ d + 800 * a ≤ r.p + 2402) ∧ True))) ∧ (∀ (e : Int), (∀ (f : List Objt), (∀ (g : Int), 0 ≤ e ∧ LN f + e ≤ 3 ∧ objsA f = true ∧ r.p ≤ g ∧ g + 800 * e ≤ r.p + 2402 →
 (decide (0 < e) = true →
 (0 ≤ g ∧ g ≤ 10000000 ∧ (0 : Int) ≤ (1000000 : Int)) ∧ (∀ (h : Objt), (∀ (i : Int), g ≤ i ∧ i ≤ g + 700 ∧ objSm h = true →
 (∃ (j : Int), (∃ (k : Int), (∃ (l : List Objt), (∃ (m : List Sect), (∃ (o : List Sym), (∃ (q : Int), e = j ∧ 0 = k ∧ n = n ∧ r.b = r.b ∧ i = q ∧ f = l ∧ h.sects = m ∧ h.syms = o ∧ (0 < j ∧ LN l + j ≤ 3 ∧ objsA l = true ∧ 0 ≤ k ∧ k ≤ LN o ∧ m.length ≤ 6 ∧ o.length ≤ 20 ∧ secsSm m = true ∧ symsSm o = true ∧ r.p ≤ q ∧ q + 800 * j ≤ r.p + 2402 + 700 + k + 1) ∧ (∀ (s : Int), (∀ (t : Int), (∀ (u : List Objt), (∀ (v : List Sect), (∀ (w : List Sym), (∀ (x : Int), 0 < s ∧ LN u + s ≤ 3 ∧ objsA u = true ∧ 0 ≤ t ∧ t ≤ LN w ∧ v.length ≤ 6 ∧ w.length ≤ 20 ∧ secsSm v = true ∧ symsSm w = true ∧ r.p ≤ x ∧ x + 800 * s ≤ r.p + 2402 + 700 + t + 1 →
 s.toNat * 1000 + (100 - t).toNat ≤ j.toNat * 1000 + (100 - k).toNat →
 w.length ≤ 9223372036854775807 →
 (decide (t < LN w) = true →
 (0 ≤ x ∧ x ≤ 1000000000000) ∧ (decide (pickF r.b x 2 = 0) = true →
 (0 ≤ t ∧ t < LN w) ∧ (∀ (y : Sym), w[t.toNat]? = some y →
 Ok (Ty.st SN.sym) y →
 (decide (y.wher ≠ (- (1 : Int))) = true →
 (0 ≤ t ∧ t < LN w) ∧ (∀ (z : Sym), w[t.toNat]? = some z →
 Ok (Ty.st SN.sym) z →
 (decide (z.bind = 1) = true →
 (0 ≤ t ∧ t < LN w) ∧ (∀ (A : Sym), w[t.toNat]? = some A →
 i64 (t + 1) ∧ (∃ (B : Int), (∃ (C : Int), (∃ (D : List Objt), (∃ (E : List Sect), (∃ (F : List Sym), (∃ (G : Int), s = B ∧ t + 1 = C ∧ n = n ∧ r.b = r.b ∧ x + 1 = G ∧ u = D ∧ v = E ∧ w.set t.toNat (Sym.mk A.name 2 A.wher A.value) = F ∧ (0 < B ∧ LN D + B ≤ 3 ∧ objsA D = true ∧ 0 ≤ C ∧ C ≤ LN F ∧ E.length ≤ 6 ∧ F.length ≤ 20 ∧ secsSm E = true ∧ symsSm F = true ∧ r.p ≤ G ∧ G + 800 * B ≤ r.p + 2402 + 700 + C + 1) ∧ B.toNat * 1000 + (100 - C).toNat < s.toNat * 1000 + (100 - t).toNat)))))))) ∧ (decide (z.bind = 1) = false →
 i64 (t + 1) ∧ (∃ (H : Int), (∃ (I : Int), (∃ (J : List Objt), (∃ (K : List Sect), (∃ (L : List Sym), (∃ (M : Int), s = H ∧ t + 1 = I ∧ n = n ∧ r.b = r.b ∧ x + 1 = M ∧ u = J ∧ v = K ∧ w = L ∧ (0 < H ∧ LN J + H ≤ 3 ∧ objsA J = true ∧ 0 ≤ I ∧ I ≤ LN L ∧ K.length ≤ 6 ∧ L.length ≤ 20 ∧ secsSm K = true ∧ symsSm L = true ∧ r.p ≤ M ∧ M + 800 * H ≤ r.p + 2402 + 700 + I + 1) ∧ H.toNat * 1000 + (100 - I).toNat < s.toNat * 1000 + (100 - t).toNat))))))))) ∧ (decide (y.wher ≠ (- (1 : Int))) = false →
 i64 (t + 1) ∧ (∃ (N : Int), (∃ (O : Int), (∃ (P : List Objt), (∃ (Q : List Sect), (∃ (R : List Sym), (∃ (S : Int), s = N ∧ t + 1 = O ∧ n = n ∧ r.b = r.b ∧ x + 1 = S ∧ u = P ∧ v = Q ∧ w = R ∧ (0 < N ∧ LN P + N ≤ 3 ∧ objsA P = true ∧ 0 ≤ O ∧ O ≤ LN R ∧ Q.length ≤ 6 ∧ R.length ≤ 20 ∧ secsSm Q = true ∧ symsSm R = true ∧ r.p ≤ S ∧ S + 800 * N ≤ r.p + 2402 + 700 + O + 1) ∧ N.toNat * 1000 + (100 - O).toNat < s.toNat * 1000 + (100 - t).toNat))))))))) ∧ (decide (pickF r.b x 2 = 0) = false →
 ((u.length + [Objt.mk v w].length) * 48 ≤ 140737488355328 ∧ u.length + [Objt.mk v w].length ≤ 1000000000000) ∧ i64 (s - 1) ∧ (∃ (T : Int), (∃ (U : List Objt), (∃ (V : Int), s - 1 = T ∧ n = n ∧ r.b = r.b ∧ x + 1 = V ∧ u ++ [Objt.mk v w] = U ∧ (0 ≤ T ∧ LN U + T ≤ 3 ∧ objsA U = true ∧ r.p ≤ V ∧ V + 800 * T ≤ r.p + 2402) ∧ T.toNat < e.toNat))))) ∧ (decide (t < LN w) = false →
 ((u.length + [Objt.mk v w].length) * 48 ≤ 140737488355328 ∧ u.length + [Objt.mk v w].length ≤ 1000000000000) ∧ i64 (s - 1) ∧ (∃ (W : Int), (∃ (X : List Objt), (∃ (Y : Int), s - 1 = W ∧ n = n ∧ r.b = r.b ∧ x = Y ∧ u ++ [Objt.mk v w] = X ∧ (0 ≤ W ∧ LN X + W ≤ 3 ∧ objsA X = true ∧ r.p ≤ Y ∧ Y + 800 * W ≤ r.p + 2402) ∧ W.toNat < e.toNat))))))))))))))))))) ∧ (decide (0 < e) = false →
 (0 ≤ g ∧ g ≤ 1000000000000) ∧ (decide (pickF r.b g 2 = 0) = true →
 (∃ (Z : Int), (∃ (aa : List Objt), (∃ (ab : List ByteArray), (∃ (ac : Int), 0 = Z ∧ n = n ∧ r.b = r.b ∧ g + 1 = ac ∧ f = aa ∧ ([] : List ByteArray) = ab ∧ (0 ≤ Z ∧ Z ≤ LN aa ∧ aa.length ≤ 3 ∧ objsA aa = true ∧ nmsSm ab = true ∧ LN ab ≤ 20 * Z ∧ r.p ≤ ac ∧ ac ≤ r.p + 2500) ∧ True)))) ∧ (∀ (ad : Int), (∀ (ae : List Objt), (∀ (af : List ByteArray), (∀ (ag : Int), 0 ≤ ad ∧ ad ≤ LN ae ∧ ae.length ≤ 3 ∧ objsA ae = true ∧ nmsSm af = true ∧ LN af ≤ 20 * ad ∧ r.p ≤ ag ∧ ag ≤ r.p + 2500 →
 ae.length ≤ 9223372036854775807 →
 (decide (ad < LN ae) = true →
 (0 ≤ ad ∧ ad < LN ae) ∧ (∀ (ah : Objt), ae[ad.toNat]? = some ah →
 Ok (Ty.st SN.obj) ah →
 (∀ (ai : Objt), ae[ad.toNat]? = some ai →
 (∀ (aj : Objt), ae[ad.toNat]? = some aj →
 ((af.length + (namesG (Objt.mk ai.sects aj.syms)).length) * 16 ≤ 140737488355328 ∧ af.length + (namesG (Objt.mk ai.sects aj.syms)).length ≤ 1000000000000) ∧ i64 (ad + 1) ∧ (∃ (ak : Int), (∃ (al : List Objt), (∃ (am : List ByteArray), (∃ (an : Int), ad + 1 = ak ∧ n = n ∧ r.b = r.b ∧ ag = an ∧ ae = al ∧ af ++ namesG (Objt.mk ai.sects aj.syms) = am ∧ (0 ≤ ak ∧ ak ≤ LN al ∧ al.length ≤ 3 ∧ objsA al = true ∧ nmsSm am = true ∧ LN am ≤ 20 * ak ∧ r.p ≤ an ∧ an ≤ r.p + 2500) ∧ al.length - ak.toNat < ae.length - ad.toNat)))))))) ∧ (decide (ad < LN ae) = false →
 (∃ (ao : Int), (∃ (ap : List Objt), (∃ (aq : List ByteArray), (∃ (ar : Int), 0 = ao ∧ af = aq ∧ n = n ∧ r.b = r.b ∧ ag = ar ∧ ae = ap ∧ (0 ≤ ao ∧ ao ≤ LN ap ∧ ap.length ≤ 3 ∧ objsA ap = true ∧ nmsSm aq = true ∧ r.p ≤ ar ∧ ar ≤ r.p + 2500 + 20 * ao) ∧ True)))) ∧ (∀ (au : Int), (∀ (av : List Objt), (∀ (aw : List ByteArray), (∀ (ax : Int), 0 ≤ au ∧ au ≤ LN av ∧ av.length ≤ 3 ∧ objsA av = true ∧ nmsSm aw = true ∧ r.p ≤ ax ∧ ax ≤ r.p + 2500 + 20 * au →
 av.length ≤ 9223372036854775807 →
 (decide (au < LN av) = true →
 (∃ (ay : Int), (∃ (az : Int), (∃ (aA : List Objt), (∃ (aB : List ByteArray), (∃ (aC : Int), au = ay ∧ 0 = az ∧ aw = aB ∧ n = n ∧ r.b = r.b ∧ ax = aC ∧ av = aA ∧ (0 ≤ ay ∧ ay < LN aA ∧ aA.length ≤ 3 ∧ 0 ≤ az ∧ (symsAt aA ay).length ≤ 20 ∧ az ≤ LN (symsAt aA ay) ∧ objsA aA = true ∧ nmsSm aB = true ∧ r.p ≤ aC ∧ aC ≤ r.p + 2500 + 20 * ay + az) ∧ (∀ (aD : Int), (∀ (aE : Int), (∀ (aF : List Objt), (∀ (aG : List ByteArray), (∀ (aH : Int), 0 ≤ aD ∧ aD < LN aF ∧ aF.length ≤ 3 ∧ 0 ≤ aE ∧ (symsAt aF aD).length ≤ 20 ∧ aE ≤ LN (symsAt aF aD) ∧ objsA aF = true ∧ nmsSm aG = true ∧ r.p ≤ aH ∧ aH ≤ r.p + 2500 + 20 * aD + aE →
 (aF.length - aD.toNat) * 1000000 + (100 - aE).toNat * 1000 ≤ (aA.length - ay.toNat) * 1000000 + (100 - az).toNat * 1000 →
 (0 ≤ aD ∧ aD < LN aF) ∧ (∀ (aI : Objt), aF[aD.toNat]? = some aI →
 Ok (Ty.st SN.obj) aI →
 (∀ (aJ : Objt), aF[aD.toNat]? = some aJ →
 aJ.syms.length ≤ 9223372036854775807 →
 (decide (aE < LN aJ.syms) = true →
 aG.length ≤ 9223372036854775807 →
 (decide (0 < LN aG) = true →
 (0 ≤ aD ∧ aD < LN aF) ∧ (∀ (aK : Objt), aF[aD.toNat]? = some aK →
 Ok (Ty.st SN.obj) aK →
 (∀ (aL : Objt), aF[aD.toNat]? = some aL →
 (0 ≤ aE ∧ aE < LN aL.syms) ∧ (∀ (aM : Objt), aF[aD.toNat]? = some aM →
 (∀ (aN : Sym), aM.syms[aE.toNat]? = some aN →
 Ok (Ty.st SN.sym) aN →
 (decide (aN.wher ≠ (- (1 : Int))) = true →
 i64 (aE + 1) ∧ (∃ (aO : Int), (∃ (aP : Int), (∃ (aQ : List Objt), (∃ (aR : List ByteArray), (∃ (aS : Int), aD = aO ∧ aE + 1 = aP ∧ aG = aR ∧ n = n ∧ r.b = r.b ∧ aH = aS ∧ aF = aQ ∧ (0 ≤ aO ∧ aO < LN aQ ∧ aQ.length ≤ 3 ∧ 0 ≤ aP ∧ (symsAt aQ aO).length ≤ 20 ∧ aP ≤ LN (symsAt aQ aO) ∧ objsA aQ = true ∧ nmsSm aR = true ∧ r.p ≤ aS ∧ aS ≤ r.p + 2500 + 20 * aO + aP) ∧ (aQ.length - aO.toNat) * 1000000 + (100 - aP).toNat * 1000 < (aF.length - aD.toNat) * 1000000 + (100 - aE).toNat * 1000)))))) ∧ (decide (aN.wher ≠ (- (1 : Int))) = false →
 aG.length ≤ 9223372036854775807 →
 (0 ≤ aH ∧ aH ≤ 1000000000000) ∧ (0 ≤ pickF r.b aH (LN aG) ∧ pickF r.b aH (LN aG) < LN aG) ∧ (∀ (aT : ByteArray), aG[(pickF r.b aH (LN aG)).toNat]? = some aT →
 Ok Ty.str aT →
 (∃ (aU : Int), (∃ (aV : Int), (∃ (aW : Int), (∃ (aX : Bool), (∃ (aY : ByteArray), (∃ (aZ : List Objt), (∃ (ba : List ByteArray), (∃ (bb : Int), aD = aU ∧ aE = aV ∧ 0 = aW ∧ aT = aY ∧ true = aX ∧ aG = ba ∧ n = n ∧ r.b = r.b ∧ aH + 1 = bb ∧ aF = aZ ∧ (0 ≤ aU ∧ aU < LN aZ ∧ aZ.length ≤ 3 ∧ 0 ≤ aV ∧ (symsAt aZ aU).length ≤ 20 ∧ aV < LN (symsAt aZ aU) ∧ 0 ≤ aW ∧ aW ≤ LN (symsAt aZ aU) ∧ objsA aZ = true ∧ nmsSm ba = true ∧ nmSm aY = true ∧ r.p ≤ bb ∧ bb ≤ r.p + 2500 + 20 * aU + aV + 1) ∧ (∀ (bc : Int), (∀ (bd : Int), (∀ (be : Int), (∀ (bf : Bool), (∀ (bg : ByteArray), (∀ (bh : List Objt), (∀ (bi : List ByteArray), (∀ (bj : Int), 0 ≤ bc ∧ bc < LN bh ∧ bh.length ≤ 3 ∧ 0 ≤ bd ∧ (symsAt bh bc).length ≤ 20 ∧ bd < LN (symsAt bh bc) ∧ 0 ≤ be ∧ be ≤ LN (symsAt bh bc) ∧ objsA bh = true ∧ nmsSm bi = true ∧ nmSm bg = true ∧ r.p ≤ bj ∧ bj ≤ r.p + 2500 + 20 * bc + bd + 1 →
 (bh.length - bc.toNat) * 1000000 + (100 - bd).toNat * 1000 + (100 - be).toNat ≤ (aZ.length - aU.toNat) * 1000000 + (100 - aV).toNat * 1000 + (100 - aW).toNat →
 (0 ≤ bc ∧ bc < LN bh) ∧ (∀ (bk : Objt), bh[bc.toNat]? = some bk →
 Ok (Ty.st SN.obj) bk →
 (∀ (bl : Objt), bh[bc.toNat]? = some bl →
 bl.syms.length ≤ 9223372036854775807 →
 (decide (be < LN bl.syms) = true →
 (bf = true →
 (0 ≤ bc ∧ bc < LN bh) ∧ (∀ (bm : Objt), bh[bc.toNat]? = some bm →
 Ok (Ty.st SN.obj) bm →
 (∀ (bn : Objt), bh[bc.toNat]? = some bn →
 (0 ≤ be ∧ be < LN bn.syms) ∧ (∀ (bo : Objt), bh[bc.toNat]? = some bo →
 (∀ (bp : Sym), bo.syms[be.toNat]? = some bp →
 Ok (Ty.st SN.sym) bp →
 i64 (be + 1) ∧ (∃ (bq : Int), (∃ (br : Int), (∃ (bs : Int), (∃ (bt : Bool), (∃ (bu : ByteArray), (∃ (bv : List Objt), (∃ (bw : List ByteArray), (∃ (bx : Int), bc = bq ∧ bd = br ∧ be + 1 = bs ∧ bg = bu ∧ decide (bp.name ≠ bg) = bt ∧ bi = bw ∧ n = n ∧ r.b = r.b ∧ bj = bx ∧ bh = bv ∧ (0 ≤ bq ∧ bq < LN bv ∧ bv.length ≤ 3 ∧ 0 ≤ br ∧ (symsAt bv bq).length ≤ 20 ∧ br < LN (symsAt bv bq) ∧ 0 ≤ bs ∧ bs ≤ LN (symsAt bv bq) ∧ objsA bv = true ∧ nmsSm bw = true ∧ nmSm bu = true ∧ r.p ≤ bx ∧ bx ≤ r.p + 2500 + 20 * bq + br + 1) ∧ (bv.length - bq.toNat) * 1000000 + (100 - br).toNat * 1000 + (100 - bs).toNat < (bh.length - bc.toNat) * 1000000 + (100 - bd).toNat * 1000 + (100 - be).toNat))))))))))))) ∧ (bf = false →
 i64 (be + 1) ∧ (∃ (bz : Int), (∃ (bA : Int), (∃ (bB : Int), (∃ (bC : Bool), (∃ (bD : ByteArray), (∃ (bE : List Objt), (∃ (bF : List ByteArray), (∃ (bG : Int), bc = bz ∧ bd = bA ∧ be + 1 = bB ∧ bg = bD ∧ false = bC ∧ bi = bF ∧ n = n ∧ r.b = r.b ∧ bj = bG ∧ bh = bE ∧ (0 ≤ bz ∧ bz < LN bE ∧ bE.length ≤ 3 ∧ 0 ≤ bA ∧ (symsAt bE bz).length ≤ 20 ∧ bA < LN (symsAt bE bz) ∧ 0 ≤ bB ∧ bB ≤ LN (symsAt bE bz) ∧ objsA bE = true ∧ nmsSm bF = true ∧ nmSm bD = true ∧ r.p ≤ bG ∧ bG ≤ r.p + 2500 + 20 * bz + bA + 1) ∧ (bE.length - bz.toNat) * 1000000 + (100 - bA).toNat * 1000 + (100 - bB).toNat < (bh.length - bc.toNat) * 1000000 + (100 - bd).toNat * 1000 + (100 - be).toNat)))))))))) ∧ (decide (be < LN bl.syms) = false →
 (bf = true →
 (0 ≤ bc ∧ bc < LN bh) ∧ (∀ (bH : Objt), bh[bc.toNat]? = some bH →
 Ok (Ty.st SN.obj) bH →
 (∀ (bI : Objt), bh[bc.toNat]? = some bI →
 (0 ≤ bd ∧ bd < LN bI.syms) ∧ (∀ (bJ : Objt), bh[bc.toNat]? = some bJ →
 (∀ (bK : Sym), bJ.syms[bd.toNat]? = some bK →
 i64 (bd + 1) ∧ (∃ (bL : Int), (∃ (bM : Int), (∃ (bN : List Objt), (∃ (bO : List ByteArray), (∃ (bP : Int), bc = bL ∧ bd + 1 = bM ∧ bi = bO ∧ n = n ∧ r.b = r.b ∧ bj = bP ∧ bh.set bc.toNat (Objt.mk bJ.sects (bJ.syms.set bd.toNat (Sym.mk bg bK.bind bK.wher bK.value))) = bN ∧ (0 ≤ bL ∧ bL < LN bN ∧ bN.length ≤ 3 ∧ 0 ≤ bM ∧ (symsAt bN bL).length ≤ 20 ∧ bM ≤ LN (symsAt bN bL) ∧ objsA bN = true ∧ nmsSm bO = true ∧ r.p ≤ bP ∧ bP ≤ r.p + 2500 + 20 * bL + bM) ∧ (bN.length - bL.toNat) * 1000000 + (100 - bM).toNat * 1000 < (aF.length - aD.toNat) * 1000000 + (100 - aE).toNat * 1000)))))))))) ∧ (bf = false →
 i64 (bd + 1) ∧ (∃ (bQ : Int), (∃ (bR : Int), (∃ (bS : List Objt), (∃ (bT : List ByteArray), (∃ (bU : Int), bc = bQ ∧ bd + 1 = bR ∧ bi = bT ∧ n = n ∧ r.b = r.b ∧ bj = bU ∧ bh = bS ∧ (0 ≤ bQ ∧ bQ < LN bS ∧ bS.length ≤ 3 ∧ 0 ≤ bR ∧ (symsAt bS bQ).length ≤ 20 ∧ bR ≤ LN (symsAt bS bQ) ∧ objsA bS = true ∧ nmsSm bT = true ∧ r.p ≤ bU ∧ bU ≤ r.p + 2500 + 20 * bQ + bR) ∧ (bS.length - bQ.toNat) * 1000000 + (100 - bR).toNat * 1000 < (aF.length - aD.toNat) * 1000000 + (100 - aE).toNat * 1000)))))))))))))))))))))))))))))))) ∧ (decide (0 < LN aG) = false →
 i64 (aD + 1) ∧ (∃ (bV : Int), (∃ (bW : List Objt), (∃ (bX : List ByteArray), (∃ (bY : Int), aD + 1 = bV ∧ aG = bX ∧ n = n ∧ r.b = r.b ∧ aH = bY ∧ aF = bW ∧ (0 ≤ bV ∧ bV ≤ LN bW ∧ bW.length ≤ 3 ∧ objsA bW = true ∧ nmsSm bX = true ∧ r.p ≤ bY ∧ bY ≤ r.p + 2500 + 20 * bV) ∧ bW.length - bV.toNat < av.length - au.toNat)))))) ∧ (decide (aE < LN aJ.syms) = false →
 i64 (aD + 1) ∧ (∃ (bZ : Int), (∃ (ca : List Objt), (∃ (cb : List ByteArray), (∃ (cc : Int), aD + 1 = bZ ∧ aG = cb ∧ n = n ∧ r.b = r.b ∧ aH = cc ∧ aF = ca ∧ (0 ≤ bZ ∧ bZ ≤ LN ca ∧ ca.length ≤ 3 ∧ objsA ca = true ∧ nmsSm cb = true ∧ r.p ≤ cc ∧ cc ≤ r.p + 2500 + 20 * bZ) ∧ ca.length - bZ.toNat < av.length - au.toNat)))))))))))))))))) ∧ (decide (au < LN av) = false →
 (0 ≤ ax ∧ ax ≤ 1000000000000 ∧ n ≤ 1000000) ∧ (∀ (cd : Bool), (∀ (ce : Int), ax ≤ ce ∧ ce ≤ ax + 1 ∧ (n ≤ 0 →
 cd = false) →
 (cd = true →
 (0 ≤ ce ∧ ce ≤ 10000000 ∧ (1 : Int) ≤ (1000000 : Int)) ∧ (∀ (cf : Objt), (∀ (cg : Int), ce ≤ cg ∧ cg ≤ ce + 700 ∧ objSm cf = true →
 ((av.length + [cf].length) * 48 ≤ 140737488355328 ∧ av.length + [cf].length ≤ 1000000000000) ∧ i64 (2 * n) ∧ (0 ≤ cg ∧ cg ≤ 1000000000000 ∧ 2 * n ≤ 1000000) ∧ (∀ (ch : Bool), (∀ (ci : Int), cg ≤ ci ∧ ci ≤ cg + 1 ∧ (2 * n ≤ 0 →
 ch = false) →
 (ch = true →
 ((5 : Int) = (5 : Int) ∧ (0 : Int) ≤ (5 : Int) ∧ (5 : Int) ≤ (1000000000000 : Int) ∧ @Nat.cast Int _ (48 : Nat) * 5 ≤ 140737488355328) ∧ (∃ (cj : List Objt), (∃ (ck : Int), (@repl Objt (5 : Int) (Objt.mk ([] : List Sect) ([] : List Sym)) = cj ∧ r.b = r.b ∧ ci = ck ∧ True) ∧ r.p ≤ ck ∧ ck ≤ r.p + 5000 ∧ cj.length ≤ 5 ∧ objsA cj = true))) ∧ (ch = false →
 (∃ (cl : List Objt), (∃ (cm : Int), (av ++ [cf] = cl ∧ r.b = r.b ∧ ci = cm ∧ True) ∧ r.p ≤ cm ∧ cm ≤ r.p + 5000 ∧ cl.length ≤ 5 ∧ objsA cl = true)))))))) ∧ (cd = false →
 i64 (2 * n) ∧ (0 ≤ ce ∧ ce ≤ 1000000000000 ∧ 2 * n ≤ 1000000) ∧ (∀ (cn : Bool), (∀ (co : Int), ce ≤ co ∧ co ≤ ce + 1 ∧ (2 * n ≤ 0 →
 cn = false) →
 (cn = true →
 ((5 : Int) = (5 : Int) ∧ (0 : Int) ≤ (5 : Int) ∧ (5 : Int) ≤ (1000000000000 : Int) ∧ @Nat.cast Int _ (48 : Nat) * 5 ≤ 140737488355328) ∧ (∃ (cp : List Objt), (∃ (cq : Int), (@repl Objt (5 : Int) (Objt.mk ([] : List Sect) ([] : List Sym)) = cp ∧ r.b = r.b ∧ co = cq ∧ True) ∧ r.p ≤ cq ∧ cq ≤ r.p + 5000 ∧ cp.length ≤ 5 ∧ objsA cp = true))) ∧ (cn = false →
 (∃ (cr : List Objt), (∃ (cs : Int), (av = cr ∧ r.b = r.b ∧ co = cs ∧ True) ∧ r.p ≤ cs ∧ cs ≤ r.p + 5000 ∧ cr.length ≤ 5 ∧ objsA cr = true))))))))))))))))))) ∧ (decide (pickF r.b g 2 = 0) = false →
 (0 ≤ g + 1 ∧ g + 1 ≤ 1000000000000 ∧ n ≤ 1000000) ∧ (∀ (ct : Bool), (∀ (cu : Int), g + 1 ≤ cu ∧ cu ≤ g + 1 + 1 ∧ (n ≤ 0 →
 ct = false) →
 (ct = true →
 (0 ≤ cu ∧ cu ≤ 10000000 ∧ (1 : Int) ≤ (1000000 : Int)) ∧ (∀ (cv : Objt), (∀ (cw : Int), cu ≤ cw ∧ cw ≤ cu + 700 ∧ objSm cv = true →
 ((f.length + [cv].length) * 48 ≤ 140737488355328 ∧ f.length + [cv].length ≤ 1000000000000) ∧ i64 (2 * n) ∧ (0 ≤ cw ∧ cw ≤ 1000000000000 ∧ 2 * n ≤ 1000000) ∧ (∀ (cx : Bool), (∀ (cy : Int), cw ≤ cy ∧ cy ≤ cw + 1 ∧ (2 * n ≤ 0 →
 cx = false) →
 (cx = true →
 ((5 : Int) = (5 : Int) ∧ (0 : Int) ≤ (5 : Int) ∧ (5 : Int) ≤ (1000000000000 : Int) ∧ @Nat.cast Int _ (48 : Nat) * 5 ≤ 140737488355328) ∧ (∃ (cz : List Objt), (∃ (cA : Int), (@repl Objt (5 : Int) (Objt.mk ([] : List Sect) ([] : List Sym)) = cz ∧ r.b = r.b ∧ cy = cA ∧ True) ∧ r.p ≤ cA ∧ cA ≤ r.p + 5000 ∧ cz.length ≤ 5 ∧ objsA cz = true))) ∧ (cx = false →
 (∃ (cB : List Objt), (∃ (cC : Int), (f ++ [cv] = cB ∧ r.b = r.b ∧ cy = cC ∧ True) ∧ r.p ≤ cC ∧ cC ≤ r.p + 5000 ∧ cB.length ≤ 5 ∧ objsA cB = true)))))))) ∧ (ct = false →
 i64 (2 * n) ∧ (0 ≤ cu ∧ cu ≤ 1000000000000 ∧ 2 * n ≤ 1000000) ∧ (∀ (cD : Bool), (∀ (cE : Int), cu ≤ cE ∧ cE ≤ cu + 1 ∧ (2 * n ≤ 0 →
 cD = false) →
 (cD = true →
 ((5 : Int) = (5 : Int) ∧ (0 : Int) ≤ (5 : Int) ∧ (5 : Int) ≤ (1000000000000 : Int) ∧ @Nat.cast Int _ (48 : Nat) * 5 ≤ 140737488355328) ∧ (∃ (cF : List Objt), (∃ (cG : Int), (@repl Objt (5 : Int) (Objt.mk ([] : List Sect) ([] : List Sym)) = cF ∧ r.b = r.b ∧ cE = cG ∧ True) ∧ r.p ≤ cG ∧ cG ≤ r.p + 5000 ∧ cF.length ≤ 5 ∧ objsA cF = true))) ∧ (cD = false →
 (∃ (cH : List Objt), (∃ (cI : Int), (f = cH ∧ r.b = r.b ∧ cE = cI ∧ True) ∧ r.p ≤ cI ∧ cI ≤ r.p + 5000 ∧ cH.length ≤ 5 ∧ objsA cH = true)))))))))))))) := by kernel_rfl
theorem det_spec_l20Objects : C_spec_l20Objects.det = true → ∀ x, (C_spec_l20Objects.out x).Det := fun h => absurd h Bool.false_ne_true
theorem ok_spec_l20Objects : ConOK Tryz.prog 27 C_spec_l20Objects := by
 refine con_q (l := L_spec_l20Objects) ⟨⟨ok_spec_l20Rd_pick, det_spec_l20Rd_pick⟩, ⟨⟨ok_spec_l20Object, det_spec_l20Object⟩, ⟨⟨ok_spec_NamesGiven, det_spec_NamesGiven⟩, ⟨⟨ok_spec_l20Rd_odd, det_spec_l20Rd_odd⟩, trivial⟩⟩⟩⟩ Tryz.func27 rfl (by decide) (by kernel_rfl) rfl an_spec_l20Objects fun x ho hx => ?_
 obtain ⟨r, n, ⟨⟩⟩ := x
 refine Keeps.of (vc_spec_l20Objects r n) ?_
 revert r n ho hx
 show ∀ (r : Reader) (n : Int), _
 intro r n ho hx
 dsimp only [C_spec_l20Objects, okPTL, okPT, Ok, Ty.cells, SN.cells, OkL, OkC, okI, ci, cb, cs, cl] at ho
 dsimp only [C_spec_l20Objects, vc, v1, decB, SR.pre] at hx
 have hb := pickF_bd r.b
 (try delta i64 LN); simp only [DRt, ex_sect2]; (repeat' first | apply And.intro | (intro x hq _; replace hq := List.mem_of_getElem? hq; simp only [List.mem_cons, List.not_mem_nil, or_false] at hq) | intro _); all_goals (try omega)
 all_goals first | (have h2 := (namesG_two (by assumption) (by assumption) (by assumption)).2; omega) | exact symSm_dig | exact symsAt_slen (by assumption) (by assumption) | exact symsAt_sl2 (by assumption) (by assumption) | exact symsAt_sm (by assumption) _ | exact objSm_two (by omega) (by omega) (by assumption) (by assumption) rfl rfl | (try grind [secSm_mk, symSm_mk, objSm_mk, secsSm_nil, symsSm_nil, objsA_nil, nmsSm_nil, secsSm_app, symsSm_app, objsA_app, nmsSm_app, secsSm_get, symsSm_get, objsA_get, nmsSm_get, objSm_iff, secSm_iff, symSm_iff, secSize_sm, repl_secs, repl_len, repl_syms, repl_objs, symsSm_bind, objsA_name, namesG_sm, namesG_two, symsAt_eq, strOf_len])
end Go.Proofs.YtpgglbnagphgoaaGreat
