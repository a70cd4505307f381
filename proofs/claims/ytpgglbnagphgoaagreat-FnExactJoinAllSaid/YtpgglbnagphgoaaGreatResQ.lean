/- Names that are given, wanted, missing, given twice: both packages keep the same contracts. -/
import Derived.Test.YtpgglbnagphgoaaGreatLayDQ
import Derived.Test.YtpgglbnagphgoaaGreatObjVQ
import Derived.Test.YtpgglbnagphgoaaGreatNamSQ
set_option linter.unusedVariables false
set_option linter.unusedSimpArgs false
set_option maxRecDepth 200000
set_option maxHeartbeats 4000000
namespace Go.Proofs.YtpgglbnagphgoaaGreat
open Go Go.RowKit


theorem sortU_if {l : List ByteArray} {x : ByteArray} {p : Bool} : sortU (l ++ (if p = true then [x] else [])) = if p = true then insU (sortU l) x else sortU l := by
 cases p
 ·simp
 ·simp [sortU_snoc]
theorem gvO_step {n : ByteArray} {l : List Objt} {k : Int} {o : Objt} {g : Gv} (hk : 0 ≤ k) (h : l[k.toNat]? = some o) : gvO n (l.drop k.toNat) k g = gvO n (l.drop (k + 1).toNat) (k + 1) (gvS n k o.syms 0 g) := by
 rw [drop_get' h hk]; rfl
theorem gvO_step' {n : ByteArray} {l : List Objt} {k : Int} {g : Gv} (hk : 0 ≤ k) (h : k < l.length) : gvO n (l.drop k.toNat) k g = gvO n (l.drop (k + 1).toNat) (k + 1) (gvS n k ((symsAt l k).drop (Int.toNat 0)) 0 g) := by
 have h' := List.getElem?_eq_getElem (l := l) (i := k.toNat) (by omega)
 rw [gvO_step hk h', symsAt_eq h']; rfl
theorem gvO_end {n : ByteArray} {l : List Objt} {k : Int} {g : Gv} (h : (l.length : Int) ≤ k) : gvO n (l.drop k.toNat) k g = g := by rw [drop_end h]; rfl
theorem gvS_at {n : ByteArray} {k : Int} {l : List Sym} {j : Int} {s : Sym} {g : Given} {a : Int} {f : Bool} (hj : 0 ≤ j) (h : l[j.toNat]? = some s) : gvS n k (l.drop j.toNat) j ⟨g, a, f⟩ = gvS n k (l.drop (j + 1).toNat) (j + 1) (if s.name ≠ n ∨ s.bind = 0 ∨ s.wher = -1 then ⟨g, a, f⟩ else ⟨if (s.bind = 1 ∧ a = 0) ∨ f = false then ⟨k, j⟩ else g, if s.bind = 1 then a + 1 else a, true⟩) := by
 rw [drop_get' h hj]; rfl
theorem gvS_end {n : ByteArray} {k : Int} {l : List Sym} {j : Int} {g : Gv} (h : (l.length : Int) ≤ j) : gvS n k (l.drop j.toNat) j g = g := by rw [drop_end h]; rfl
theorem insU_at {l : List ByteArray} {s x : ByteArray} {i : Int} (hi : 0 ≤ i) (h : l[i.toNat]? = some x) : insU (l.drop i.toNat) s = if strLt x s = true then x :: insU (l.drop (i + 1).toNat) s else if x = s then x :: l.drop (i + 1).toNat else s :: x :: l.drop (i + 1).toNat := by
 rw [drop_get' h hi]; rfl
theorem insU_end {l : List ByteArray} {s : ByteArray} {i : Int} (h : (l.length : Int) ≤ i) : insU (l.drop i.toNat) s = [s] := by rw [drop_end h]; rfl
theorem cons_drop {α : Type} {l : List α} {i : Int} {x : α} (hi : 0 ≤ i) (h : l[i.toNat]? = some x) : x :: l.drop (i + 1).toNat = l.drop i.toNat := (drop_get' h hi).symm
theorem symN_next {p : Sym → Bool} {l : List Sym} {k : Int} {x : Sym} (hk : 0 ≤ k) (h : l[k.toNat]? = some x) : sortU (symP p (l.take (k + 1).toNat)) = if p x = true then insU (sortU (symP p (l.take k.toNat))) x.name else sortU (symP p (l.take k.toNat)) := by
 rw [symP_next hk h, sortU_if]
theorem symN_len {p : Sym → Bool} {l : List Sym} (k : Nat) (h : l.length ≤ 12) : (sortU (symP p (l.take k))).length ≤ 12 := by
 have h1 := (sortU_len (symP p (l.take k))).1
 have h2 := symP_tlen (p := p) (l := l) (k := k)
 omega
theorem symN_zero {p : Sym → Bool} {l : List Sym} : sortU (symP p (l.take (Int.toNat 0))) = [] := rfl
theorem namesG_end {o : Objt} {k : Int} (h0 : 0 ≤ k) (h : 0 < k → objB o = true) (h' : objB o = false ∨ (o.syms.length : Int) ≤ k) : sortU (symP giveS (o.syms.take k.toNat)) = namesG o := by
 unfold namesG
 cases ho : objB o with
 | true => rw [if_pos rfl, take_end' (by rcases h' with h' | h'; rw [h'] at ho; cases ho; exact h')]
 | false =>
  have : k = 0 := by by_cases hk : 0 < k; rw [h hk] at ho; cases ho; omega
  subst this
  rfl
def C_spec_l2Insert : Con := { ps := [.row none .str, .ro .str], out := fun x => let l : List (ByteArray) := x.1; let s : ByteArray := x.2.1; .req (l.length ≤ 1000000) (.fork (decide (insU l s = l)) (.ret { val := .one (.sl 0 []) }) (newL .str (insU l s))), det := true }
abbrev L_spec_l2Insert : List (Nat × Con) := []
def G_spec_l2Insert : Cfg := GK L_spec_l2Insert
def an_spec_l2Insert : PTL C_spec_l2Insert.ps → Nat → Option Ann := fun x kk_ => let l : List (ByteArray) := x.1; let s : ByteArray := x.2.1; if kk_ = 2 then some (.all (Int) fun i => .giv (0 ≤ i ∧ i ≤ l.length ∧ insU l s = l.take i.toNat ++ insU (l.drop i.toNat) s) (.mk [(5, ai i), (0, asl 0), (1, ax s)] [(0, .row none .str l true)] ((l.length - i.toNat)))) else none
theorem vc_spec_l2Insert (l : List (ByteArray)) (s : ByteArray) : (KP Tryz.f76 G_spec_l2Insert C_spec_l2Insert an_spec_l2Insert (l, s, ())) = ((∃ (a : Int), 0 = a ∧ s = s ∧ l = l ∧ (0 ≤ a ∧ a ≤ LN l ∧ insU l s = l.take a.toNat ++ insU (l.drop a.toNat) s) ∧ True) ∧ (∀ (b : Int), 0 ≤ b ∧ b ≤ LN l ∧ insU l s = l.take b.toNat ++ insU (l.drop b.toNat) s →
 l.length ≤ 9223372036854775807 →
 (decide (b < LN l) = true →
 (0 ≤ b ∧ b < LN l) ∧ (∀ (c : ByteArray), l[b.toNat]? = some c →
 Ok Ty.str c →
 (strLt c s = true →
 i64 (b + 1) ∧ (∃ (d : Int), b + 1 = d ∧ s = s ∧ l = l ∧ (0 ≤ d ∧ d ≤ LN l ∧ insU l s = l.take d.toNat ++ insU (l.drop d.toNat) s) ∧ l.length - d.toNat < l.length - b.toNat)) ∧ (strLt c s = false →
 l.length ≤ 9223372036854775807 →
 (decide (b < LN l) = true →
 (0 ≤ b ∧ b < LN l) ∧ (∀ (e : ByteArray), l[b.toNat]? = some e →
 Ok Ty.str e →
 (decide (e = s) = true →
 decide (insU l s = l) = true ∧ l = l ∧ True ∨ decide (insU l s = l) = false ∧ False) ∧ (decide (e = s) = false →
 (0 ≤ b ∧ b ≤ LN l) ∧ ((0 + ((l.drop 0).take (b.toNat - 0)).length) * 16 ≤ 140737488355328 ∧ 0 + ((l.drop 0).take (b.toNat - 0)).length ≤ 1000000000000) ∧ ((((l.drop 0).take (b.toNat - 0)).length + [s].length) * 16 ≤ 140737488355328 ∧ ((l.drop 0).take (b.toNat - 0)).length + [s].length ≤ 1000000000000) ∧ (0 ≤ b ∧ b ≤ LN l) ∧ ((((l.drop 0).take (b.toNat - 0) ++ [s]).length + ((l.drop b.toNat).take (l.length - b.toNat)).length) * 16 ≤ 140737488355328 ∧ ((l.drop 0).take (b.toNat - 0) ++ [s]).length + ((l.drop b.toNat).take (l.length - b.toNat)).length ≤ 1000000000000) ∧ (decide (insU l s = l) = true ∧ False ∨ decide (insU l s = l) = false ∧ (l.drop 0).take (b.toNat - 0) ++ [s] ++ (l.drop b.toNat).take (l.length - b.toNat) = insU l s ∧ l = l ∧ True)))) ∧ (decide (b < LN l) = false →
 (0 ≤ b ∧ b ≤ LN l) ∧ ((0 + ((l.drop 0).take (b.toNat - 0)).length) * 16 ≤ 140737488355328 ∧ 0 + ((l.drop 0).take (b.toNat - 0)).length ≤ 1000000000000) ∧ ((((l.drop 0).take (b.toNat - 0)).length + [s].length) * 16 ≤ 140737488355328 ∧ ((l.drop 0).take (b.toNat - 0)).length + [s].length ≤ 1000000000000) ∧ (0 ≤ b ∧ b ≤ LN l) ∧ ((((l.drop 0).take (b.toNat - 0) ++ [s]).length + ((l.drop b.toNat).take (l.length - b.toNat)).length) * 16 ≤ 140737488355328 ∧ ((l.drop 0).take (b.toNat - 0) ++ [s]).length + ((l.drop b.toNat).take (l.length - b.toNat)).length ≤ 1000000000000) ∧ (decide (insU l s = l) = true ∧ False ∨ decide (insU l s = l) = false ∧ (l.drop 0).take (b.toNat - 0) ++ [s] ++ (l.drop b.toNat).take (l.length - b.toNat) = insU l s ∧ l = l ∧ True))))) ∧ (decide (b < LN l) = false →
 l.length ≤ 9223372036854775807 →
 (decide (b < LN l) = true →
 (0 ≤ b ∧ b < LN l) ∧ (∀ (f : ByteArray), l[b.toNat]? = some f →
 Ok Ty.str f →
 (decide (f = s) = true →
 decide (insU l s = l) = true ∧ l = l ∧ True ∨ decide (insU l s = l) = false ∧ False) ∧ (decide (f = s) = false →
 (0 ≤ b ∧ b ≤ LN l) ∧ ((0 + ((l.drop 0).take (b.toNat - 0)).length) * 16 ≤ 140737488355328 ∧ 0 + ((l.drop 0).take (b.toNat - 0)).length ≤ 1000000000000) ∧ ((((l.drop 0).take (b.toNat - 0)).length + [s].length) * 16 ≤ 140737488355328 ∧ ((l.drop 0).take (b.toNat - 0)).length + [s].length ≤ 1000000000000) ∧ (0 ≤ b ∧ b ≤ LN l) ∧ ((((l.drop 0).take (b.toNat - 0) ++ [s]).length + ((l.drop b.toNat).take (l.length - b.toNat)).length) * 16 ≤ 140737488355328 ∧ ((l.drop 0).take (b.toNat - 0) ++ [s]).length + ((l.drop b.toNat).take (l.length - b.toNat)).length ≤ 1000000000000) ∧ (decide (insU l s = l) = true ∧ False ∨ decide (insU l s = l) = false ∧ (l.drop 0).take (b.toNat - 0) ++ [s] ++ (l.drop b.toNat).take (l.length - b.toNat) = insU l s ∧ l = l ∧ True)))) ∧ (decide (b < LN l) = false →
 (0 ≤ b ∧ b ≤ LN l) ∧ ((0 + ((l.drop 0).take (b.toNat - 0)).length) * 16 ≤ 140737488355328 ∧ 0 + ((l.drop 0).take (b.toNat - 0)).length ≤ 1000000000000) ∧ ((((l.drop 0).take (b.toNat - 0)).length + [s].length) * 16 ≤ 140737488355328 ∧ ((l.drop 0).take (b.toNat - 0)).length + [s].length ≤ 1000000000000) ∧ (0 ≤ b ∧ b ≤ LN l) ∧ ((((l.drop 0).take (b.toNat - 0) ++ [s]).length + ((l.drop b.toNat).take (l.length - b.toNat)).length) * 16 ≤ 140737488355328 ∧ ((l.drop 0).take (b.toNat - 0) ++ [s]).length + ((l.drop b.toNat).take (l.length - b.toNat)).length ≤ 1000000000000) ∧ (decide (insU l s = l) = true ∧ False ∨ decide (insU l s = l) = false ∧ (l.drop 0).take (b.toNat - 0) ++ [s] ++ (l.drop b.toNat).take (l.length - b.toNat) = insU l s ∧ l = l ∧ True))))) := by kernel_rfl
theorem det_spec_l2Insert : C_spec_l2Insert.det = true → ∀ x, (C_spec_l2Insert.out x).Det := fun _ x => by simp only [C_spec_l2Insert]; repeat (first | exact Det.ret _ | exact Det.vc' | apply Det.req | apply Det.giv | apply Det.fork | apply Det.bif' | intro _)
theorem ok_spec_l2Insert : ConOK Tryz.prog 76 C_spec_l2Insert := by
 refine con_q (l := L_spec_l2Insert) trivial Tryz.func76 rfl (by decide) (by kernel_rfl) rfl an_spec_l2Insert fun x ho hx => ?_
 obtain ⟨l, s, ⟨⟩⟩ := x
 refine Keeps.of (vc_spec_l2Insert l s) ?_
 revert l s ho hx
 show ∀ (l : List (ByteArray)) (s : ByteArray), _
 intro l s ho hx
 dsimp only [C_spec_l2Insert, okPTL, okPT, Ok, Ty.cells, SN.cells, OkL, OkC, okI, ci, cb, cs, cl] at ho
 dsimp only [C_spec_l2Insert, vc, v1, decB, SR.pre] at hx
 have h1 := fun i x => @insU_at l s x i
 have h2 := fun i => @insU_end l s i
 have h3 := fun i x => @cons_drop _ l i x
 have h4 := fun i x => @take_app' _ l i x
 have h5 := fun i => @take_end' _ l i
 have h6 := fun i => @drop_end _ l i
 (try delta i64 LN); simp only [VBt]; (repeat' first | intro _ | apply And.intro); all_goals (try omega)
 all_goals (try grind [List.take_append_drop])
def C_spec_NamesGiven : Con := { ps := [.ro (.st .obj)], out := fun x => let o : Objt := x.1; newL .str (namesG o), det := true }
abbrev L_spec_NamesGiven : List (Nat × Con) := [(33, C_spec_ObjectValid), (76, C_spec_l2Insert)]
def G_spec_NamesGiven : Cfg := GK L_spec_NamesGiven
def an_spec_NamesGiven : PTL C_spec_NamesGiven.ps → Nat → Option Ann := fun x kk_ => let o : Objt := x.1; if kk_ = 3 then some (.all (Int) fun k => .giv (0 ≤ k ∧ k ≤ o.syms.length ∧ (0 < k → objB o = true)) (.mk [(4, ai k), (3, asl 20), (1, aref 61)] [(20, .row none .str (sortU (symP giveS (o.syms.take k.toNat))) true), (61, bx (ast .obj o))] ((o.syms.length - k.toNat)))) else none
theorem vc_spec_NamesGiven (o : Objt) : (KP Tryz.f62 G_spec_NamesGiven C_spec_NamesGiven an_spec_NamesGiven (o, ())) = ((∃ (a : Int), 0 = a ∧ ([] : List ByteArray) = sortU (symP giveS (o.syms.take a.toNat)) ∧ o.sects = o.sects ∧ o.syms = o.syms ∧ (0 ≤ a ∧ a ≤ LN o.syms ∧ (0 < a →
 objB o = true)) ∧ True) ∧ (∀ (b : Int), 0 ≤ b ∧ b ≤ LN o.syms ∧ (0 < b →
 objB o = true) →
 o.syms.length ≤ 9223372036854775807 →
 (decide (b < LN o.syms) = true →
 (objB o = true →
 (0 ≤ b ∧ b < LN o.syms) ∧ (∀ (c : Sym), o.syms[b.toNat]? = some c →
 Ok (Ty.st SN.sym) c →
 (decide (c.wher ≠ (- (1 : Int))) = true →
 (0 ≤ b ∧ b < LN o.syms) ∧ (∀ (d : Sym), o.syms[b.toNat]? = some d →
 Ok (Ty.st SN.sym) d →
 (decide (d.bind ≠ 0) = true →
 (0 ≤ b ∧ b < LN o.syms) ∧ (∀ (e : Sym), o.syms[b.toNat]? = some e →
 Ok (Ty.st SN.sym) e →
 (sortU (symP giveS (o.syms.take b.toNat))).length ≤ 1000000 ∧ (decide (insU (sortU (symP giveS (o.syms.take b.toNat))) e.name = sortU (symP giveS (o.syms.take b.toNat))) = true →
 i64 (b + 1) ∧ (∃ (f : Int), b + 1 = f ∧ sortU (symP giveS (o.syms.take b.toNat)) = sortU (symP giveS (o.syms.take f.toNat)) ∧ o.sects = o.sects ∧ o.syms = o.syms ∧ (0 ≤ f ∧ f ≤ LN o.syms ∧ (0 < f →
 objB o = true)) ∧ o.syms.length - f.toNat < o.syms.length - b.toNat)) ∧ (decide (insU (sortU (symP giveS (o.syms.take b.toNat))) e.name = sortU (symP giveS (o.syms.take b.toNat))) = false →
 i64 (b + 1) ∧ (∃ (g : Int), b + 1 = g ∧ insU (sortU (symP giveS (o.syms.take b.toNat))) e.name = sortU (symP giveS (o.syms.take g.toNat)) ∧ o.sects = o.sects ∧ o.syms = o.syms ∧ (0 ≤ g ∧ g ≤ LN o.syms ∧ (0 < g →
 objB o = true)) ∧ o.syms.length - g.toNat < o.syms.length - b.toNat)))) ∧ (decide (d.bind ≠ 0) = false →
 i64 (b + 1) ∧ (∃ (h : Int), b + 1 = h ∧ sortU (symP giveS (o.syms.take b.toNat)) = sortU (symP giveS (o.syms.take h.toNat)) ∧ o.sects = o.sects ∧ o.syms = o.syms ∧ (0 ≤ h ∧ h ≤ LN o.syms ∧ (0 < h →
 objB o = true)) ∧ o.syms.length - h.toNat < o.syms.length - b.toNat)))) ∧ (decide (c.wher ≠ (- (1 : Int))) = false →
 i64 (b + 1) ∧ (∃ (i : Int), b + 1 = i ∧ sortU (symP giveS (o.syms.take b.toNat)) = sortU (symP giveS (o.syms.take i.toNat)) ∧ o.sects = o.sects ∧ o.syms = o.syms ∧ (0 ≤ i ∧ i ≤ LN o.syms ∧ (0 < i →
 objB o = true)) ∧ o.syms.length - i.toNat < o.syms.length - b.toNat)))) ∧ (objB o = false →
 sortU (symP giveS (o.syms.take b.toNat)) = namesG o ∧ True)) ∧ (decide (b < LN o.syms) = false →
 sortU (symP giveS (o.syms.take b.toNat)) = namesG o ∧ True))) := by kernel_rfl
theorem det_spec_NamesGiven : C_spec_NamesGiven.det = true → ∀ x, (C_spec_NamesGiven.out x).Det := fun _ _ => Det.ret _
theorem ok_spec_NamesGiven : ConOK Tryz.prog 62 C_spec_NamesGiven := by
 refine con_q (l := L_spec_NamesGiven) ⟨⟨ok_spec_ObjectValid, det_spec_ObjectValid⟩, ⟨⟨ok_spec_l2Insert, det_spec_l2Insert⟩, trivial⟩⟩ Tryz.func62 rfl (by decide) (by kernel_rfl) rfl an_spec_NamesGiven fun x ho hx => ?_
 obtain ⟨o, ⟨⟩⟩ := x
 refine Keeps.of (vc_spec_NamesGiven o) ?_
 revert o ho hx
 show ∀ (o : Objt), _
 intro o ho hx
 dsimp only [C_spec_NamesGiven, okPTL, okPT, Ok, Ty.cells, SN.cells, OkL, OkC, okI, ci, cb, cs, cl] at ho
 dsimp only [C_spec_NamesGiven, vc, v1, decB, SR.pre] at hx
 have hl := @objB_lens o
 have h1 := fun (k : Int) (x : Sym) => symN_next (p := giveS) (l := o.syms) (k := k) (x := x)
 have h2 := fun (k : Int) => namesG_end (o := o) (k := k)
 have h3 := fun (k : Int) => symN_len (p := giveS) (l := o.syms) k.toNat
 (try delta i64 LN); simp only [VBt]; (repeat' first | intro _ | apply And.intro); all_goals (try omega)
 all_goals (try grind [symN_zero, wantS, giveS])
def C_spec_l11Given : Con := { ps := [.ro (.list (.st .obj)), .ro .str], out := fun x => let l : List (Objt) := x.1; let n : ByteArray := x.2.1; .req (l.all objB = true ∧ l.length ≤ 1000) (.ret { val := .tup [(true, (SN.cells .given ((fnd l n).getD ⟨0, 0⟩)).map .c), (false, [.c (ci (cntS l n))]), (false, [.c (cb (fnd l n).isSome)])] }), det := true }
abbrev L_spec_l11Given : List (Nat × Con) := []
def G_spec_l11Given : Cfg := GK L_spec_l11Given
def an_spec_l11Given : PTL C_spec_l11Given.ps → Nat → Option Ann := fun x kk_ => let l : List (Objt) := x.1; let n : ByteArray := x.2.1; if kk_ = 5 then some (.all (Int) fun k => .all (Int) fun a => .all (Bool) fun f => .all (Given) fun g => .giv (0 ≤ k ∧ k ≤ l.length ∧ 0 ≤ a ∧ a ≤ 12 * k ∧ gvO n l 0 ⟨⟨0, 0⟩, 0, false⟩ = gvO n (l.drop k.toNat) k ⟨g, a, f⟩) (.mk [(7, aref 31), (8, ai a), (9, ab f), (10, ai k), (4, aref 30), (0, al (.st .obj) l), (1, ax n)] [(30, bx (ast .given ⟨0, 0⟩)), (31, bx (ast .given g))] ((l.length - k.toNat)))) else if kk_ = 2008 then some (.all (Int) fun k => .all (Int) fun j => .all (Int) fun a => .all (Bool) fun f => .all (Given) fun g => .giv (0 ≤ k ∧ k < l.length ∧ 0 ≤ j ∧ j ≤ (symsAt l k).length ∧ 0 ≤ a ∧ a ≤ 12 * k + j ∧ gvO n l 0 ⟨⟨0, 0⟩, 0, false⟩ = gvO n (l.drop (k + 1).toNat) (k + 1) (gvS n k ((symsAt l k).drop j.toNat) j ⟨g, a, f⟩)) (.mk [(7, aref 31), (8, ai a), (9, ab f), (10, ai k), (11, ai j), (4, aref 30), (0, al (.st .obj) l), (1, ax n)] [(30, bx (ast .given ⟨0, 0⟩)), (31, bx (ast .given g))] ((l.length - k.toNat) * 1000 + (100 - j).toNat))) else none
theorem vc_spec_l11Given (l : List (Objt)) (n : ByteArray) : (KP Tryz.f75 G_spec_l11Given C_spec_l11Given an_spec_l11Given (l, n, ())) = ((∃ (a : Int), (∃ (b : Int), (∃ (c : Bool), (∃ (d : Given), 0 = b ∧ false = c ∧ 0 = a ∧ l = l ∧ n = n ∧ (0 : Int) = (0 : Int) ∧ (0 : Int) = (0 : Int) ∧ 0 = d.in_ ∧ 0 = d.at_ ∧ (0 ≤ a ∧ a ≤ LN l ∧ 0 ≤ b ∧ b ≤ 12 * a ∧ gvO n l 0 (Gv.mk (Given.mk 0 0) 0 false) = gvO n (l.drop a.toNat) a (Gv.mk d b c)) ∧ True)))) ∧ (∀ (e : Int), (∀ (f : Int), (∀ (g : Bool), (∀ (h : Given), 0 ≤ e ∧ e ≤ LN l ∧ 0 ≤ f ∧ f ≤ 12 * e ∧ gvO n l 0 (Gv.mk (Given.mk 0 0) 0 false) = gvO n (l.drop e.toNat) e (Gv.mk h f g) →
 l.length ≤ 9223372036854775807 →
 (decide (e < LN l) = true →
 (∃ (i : Int), (∃ (j : Int), (∃ (k : Int), (∃ (m : Bool), (∃ (o : Given), f = k ∧ g = m ∧ e = i ∧ 0 = j ∧ l = l ∧ n = n ∧ (0 : Int) = (0 : Int) ∧ (0 : Int) = (0 : Int) ∧ h.in_ = o.in_ ∧ h.at_ = o.at_ ∧ (0 ≤ i ∧ i < LN l ∧ 0 ≤ j ∧ j ≤ LN (symsAt l i) ∧ 0 ≤ k ∧ k ≤ 12 * i + j ∧ gvO n l 0 (Gv.mk (Given.mk 0 0) 0 false) = gvO n (l.drop (i + 1).toNat) (i + 1) (gvS n i ((symsAt l i).drop j.toNat) j (Gv.mk o k m))) ∧ (∀ (p : Int), (∀ (q : Int), (∀ (r : Int), (∀ (s : Bool), (∀ (t : Given), 0 ≤ p ∧ p < LN l ∧ 0 ≤ q ∧ q ≤ LN (symsAt l p) ∧ 0 ≤ r ∧ r ≤ 12 * p + q ∧ gvO n l 0 (Gv.mk (Given.mk 0 0) 0 false) = gvO n (l.drop (p + 1).toNat) (p + 1) (gvS n p ((symsAt l p).drop q.toNat) q (Gv.mk t r s)) →
 (l.length - p.toNat) * 1000 + (100 - q).toNat ≤ (l.length - i.toNat) * 1000 + (100 - j).toNat →
 (0 ≤ p ∧ p < LN l) ∧ (∀ (u : Objt), l[p.toNat]? = some u →
 Ok (Ty.st SN.obj) u →
 u.syms.length ≤ 9223372036854775807 →
 (decide (q < LN u.syms) = true →
 (0 ≤ p ∧ p < LN l) ∧ (∀ (v : Objt), l[p.toNat]? = some v →
 Ok (Ty.st SN.obj) v →
 (0 ≤ q ∧ q < LN v.syms) ∧ (∀ (w : Sym), v.syms[q.toNat]? = some w →
 Ok (Ty.st SN.sym) w →
 (decide (w.name ≠ n) = true →
 i64 (q + 1) ∧ (∃ (x : Int), (∃ (y : Int), (∃ (z : Int), (∃ (A : Bool), (∃ (B : Given), r = z ∧ s = A ∧ p = x ∧ q + 1 = y ∧ l = l ∧ n = n ∧ (0 : Int) = (0 : Int) ∧ (0 : Int) = (0 : Int) ∧ t.in_ = B.in_ ∧ t.at_ = B.at_ ∧ (0 ≤ x ∧ x < LN l ∧ 0 ≤ y ∧ y ≤ LN (symsAt l x) ∧ 0 ≤ z ∧ z ≤ 12 * x + y ∧ gvO n l 0 (Gv.mk (Given.mk 0 0) 0 false) = gvO n (l.drop (x + 1).toNat) (x + 1) (gvS n x ((symsAt l x).drop y.toNat) y (Gv.mk B z A))) ∧ (l.length - x.toNat) * 1000 + (100 - y).toNat < (l.length - p.toNat) * 1000 + (100 - q).toNat)))))) ∧ (decide (w.name ≠ n) = false →
 (decide (w.bind = 0) = true →
 i64 (q + 1) ∧ (∃ (C : Int), (∃ (D : Int), (∃ (E : Int), (∃ (F : Bool), (∃ (G : Given), r = E ∧ s = F ∧ p = C ∧ q + 1 = D ∧ l = l ∧ n = n ∧ (0 : Int) = (0 : Int) ∧ (0 : Int) = (0 : Int) ∧ t.in_ = G.in_ ∧ t.at_ = G.at_ ∧ (0 ≤ C ∧ C < LN l ∧ 0 ≤ D ∧ D ≤ LN (symsAt l C) ∧ 0 ≤ E ∧ E ≤ 12 * C + D ∧ gvO n l 0 (Gv.mk (Given.mk 0 0) 0 false) = gvO n (l.drop (C + 1).toNat) (C + 1) (gvS n C ((symsAt l C).drop D.toNat) D (Gv.mk G E F))) ∧ (l.length - C.toNat) * 1000 + (100 - D).toNat < (l.length - p.toNat) * 1000 + (100 - q).toNat)))))) ∧ (decide (w.bind = 0) = false →
 (decide (w.wher = (- (1 : Int))) = true →
 i64 (q + 1) ∧ (∃ (H : Int), (∃ (I : Int), (∃ (J : Int), (∃ (K : Bool), (∃ (L : Given), r = J ∧ s = K ∧ p = H ∧ q + 1 = I ∧ l = l ∧ n = n ∧ (0 : Int) = (0 : Int) ∧ (0 : Int) = (0 : Int) ∧ t.in_ = L.in_ ∧ t.at_ = L.at_ ∧ (0 ≤ H ∧ H < LN l ∧ 0 ≤ I ∧ I ≤ LN (symsAt l H) ∧ 0 ≤ J ∧ J ≤ 12 * H + I ∧ gvO n l 0 (Gv.mk (Given.mk 0 0) 0 false) = gvO n (l.drop (H + 1).toNat) (H + 1) (gvS n H ((symsAt l H).drop I.toNat) I (Gv.mk L J K))) ∧ (l.length - H.toNat) * 1000 + (100 - I).toNat < (l.length - p.toNat) * 1000 + (100 - q).toNat)))))) ∧ (decide (w.wher = (- (1 : Int))) = false →
 (decide (w.bind = 1) = true →
 (decide (r = 0) = true →
 (decide (w.bind = 1) = true →
 i64 (r + 1) ∧ i64 (q + 1) ∧ (∃ (M : Int), (∃ (N : Int), (∃ (O : Int), (∃ (P : Bool), (∃ (Q : Given), r + 1 = O ∧ true = P ∧ p = M ∧ q + 1 = N ∧ l = l ∧ n = n ∧ (0 : Int) = (0 : Int) ∧ (0 : Int) = (0 : Int) ∧ p = Q.in_ ∧ q = Q.at_ ∧ (0 ≤ M ∧ M < LN l ∧ 0 ≤ N ∧ N ≤ LN (symsAt l M) ∧ 0 ≤ O ∧ O ≤ 12 * M + N ∧ gvO n l 0 (Gv.mk (Given.mk 0 0) 0 false) = gvO n (l.drop (M + 1).toNat) (M + 1) (gvS n M ((symsAt l M).drop N.toNat) N (Gv.mk Q O P))) ∧ (l.length - M.toNat) * 1000 + (100 - N).toNat < (l.length - p.toNat) * 1000 + (100 - q).toNat)))))) ∧ (decide (w.bind = 1) = false →
 i64 (q + 1) ∧ (∃ (R : Int), (∃ (S : Int), (∃ (T : Int), (∃ (U : Bool), (∃ (V : Given), r = T ∧ true = U ∧ p = R ∧ q + 1 = S ∧ l = l ∧ n = n ∧ (0 : Int) = (0 : Int) ∧ (0 : Int) = (0 : Int) ∧ p = V.in_ ∧ q = V.at_ ∧ (0 ≤ R ∧ R < LN l ∧ 0 ≤ S ∧ S ≤ LN (symsAt l R) ∧ 0 ≤ T ∧ T ≤ 12 * R + S ∧ gvO n l 0 (Gv.mk (Given.mk 0 0) 0 false) = gvO n (l.drop (R + 1).toNat) (R + 1) (gvS n R ((symsAt l R).drop S.toNat) S (Gv.mk V T U))) ∧ (l.length - R.toNat) * 1000 + (100 - S).toNat < (l.length - p.toNat) * 1000 + (100 - q).toNat))))))) ∧ (decide (r = 0) = false →
 (Bool.not s = true →
 (decide (w.bind = 1) = true →
 i64 (r + 1) ∧ i64 (q + 1) ∧ (∃ (W : Int), (∃ (X : Int), (∃ (Y : Int), (∃ (Z : Bool), (∃ (aa : Given), r + 1 = Y ∧ true = Z ∧ p = W ∧ q + 1 = X ∧ l = l ∧ n = n ∧ (0 : Int) = (0 : Int) ∧ (0 : Int) = (0 : Int) ∧ p = aa.in_ ∧ q = aa.at_ ∧ (0 ≤ W ∧ W < LN l ∧ 0 ≤ X ∧ X ≤ LN (symsAt l W) ∧ 0 ≤ Y ∧ Y ≤ 12 * W + X ∧ gvO n l 0 (Gv.mk (Given.mk 0 0) 0 false) = gvO n (l.drop (W + 1).toNat) (W + 1) (gvS n W ((symsAt l W).drop X.toNat) X (Gv.mk aa Y Z))) ∧ (l.length - W.toNat) * 1000 + (100 - X).toNat < (l.length - p.toNat) * 1000 + (100 - q).toNat)))))) ∧ (decide (w.bind = 1) = false →
 i64 (q + 1) ∧ (∃ (ab : Int), (∃ (ac : Int), (∃ (ad : Int), (∃ (ae : Bool), (∃ (af : Given), r = ad ∧ true = ae ∧ p = ab ∧ q + 1 = ac ∧ l = l ∧ n = n ∧ (0 : Int) = (0 : Int) ∧ (0 : Int) = (0 : Int) ∧ p = af.in_ ∧ q = af.at_ ∧ (0 ≤ ab ∧ ab < LN l ∧ 0 ≤ ac ∧ ac ≤ LN (symsAt l ab) ∧ 0 ≤ ad ∧ ad ≤ 12 * ab + ac ∧ gvO n l 0 (Gv.mk (Given.mk 0 0) 0 false) = gvO n (l.drop (ab + 1).toNat) (ab + 1) (gvS n ab ((symsAt l ab).drop ac.toNat) ac (Gv.mk af ad ae))) ∧ (l.length - ab.toNat) * 1000 + (100 - ac).toNat < (l.length - p.toNat) * 1000 + (100 - q).toNat))))))) ∧ (Bool.not s = false →
 (decide (w.bind = 1) = true →
 i64 (r + 1) ∧ i64 (q + 1) ∧ (∃ (ag : Int), (∃ (ah : Int), (∃ (ai : Int), (∃ (aj : Bool), (∃ (ak : Given), r + 1 = ai ∧ true = aj ∧ p = ag ∧ q + 1 = ah ∧ l = l ∧ n = n ∧ (0 : Int) = (0 : Int) ∧ (0 : Int) = (0 : Int) ∧ t.in_ = ak.in_ ∧ t.at_ = ak.at_ ∧ (0 ≤ ag ∧ ag < LN l ∧ 0 ≤ ah ∧ ah ≤ LN (symsAt l ag) ∧ 0 ≤ ai ∧ ai ≤ 12 * ag + ah ∧ gvO n l 0 (Gv.mk (Given.mk 0 0) 0 false) = gvO n (l.drop (ag + 1).toNat) (ag + 1) (gvS n ag ((symsAt l ag).drop ah.toNat) ah (Gv.mk ak ai aj))) ∧ (l.length - ag.toNat) * 1000 + (100 - ah).toNat < (l.length - p.toNat) * 1000 + (100 - q).toNat)))))) ∧ (decide (w.bind = 1) = false →
 i64 (q + 1) ∧ (∃ (al : Int), (∃ (am : Int), (∃ (an : Int), (∃ (ao : Bool), (∃ (ap : Given), r = an ∧ true = ao ∧ p = al ∧ q + 1 = am ∧ l = l ∧ n = n ∧ (0 : Int) = (0 : Int) ∧ (0 : Int) = (0 : Int) ∧ t.in_ = ap.in_ ∧ t.at_ = ap.at_ ∧ (0 ≤ al ∧ al < LN l ∧ 0 ≤ am ∧ am ≤ LN (symsAt l al) ∧ 0 ≤ an ∧ an ≤ 12 * al + am ∧ gvO n l 0 (Gv.mk (Given.mk 0 0) 0 false) = gvO n (l.drop (al + 1).toNat) (al + 1) (gvS n al ((symsAt l al).drop am.toNat) am (Gv.mk ap an ao))) ∧ (l.length - al.toNat) * 1000 + (100 - am).toNat < (l.length - p.toNat) * 1000 + (100 - q).toNat))))))))) ∧ (decide (w.bind = 1) = false →
 (Bool.not s = true →
 (decide (w.bind = 1) = true →
 i64 (r + 1) ∧ i64 (q + 1) ∧ (∃ (aq : Int), (∃ (ar : Int), (∃ (au : Int), (∃ (av : Bool), (∃ (aw : Given), r + 1 = au ∧ true = av ∧ p = aq ∧ q + 1 = ar ∧ l = l ∧ n = n ∧ (0 : Int) = (0 : Int) ∧ (0 : Int) = (0 : Int) ∧ p = aw.in_ ∧ q = aw.at_ ∧ (0 ≤ aq ∧ aq < LN l ∧ 0 ≤ ar ∧ ar ≤ LN (symsAt l aq) ∧ 0 ≤ au ∧ au ≤ 12 * aq + ar ∧ gvO n l 0 (Gv.mk (Given.mk 0 0) 0 false) = gvO n (l.drop (aq + 1).toNat) (aq + 1) (gvS n aq ((symsAt l aq).drop ar.toNat) ar (Gv.mk aw au av))) ∧ (l.length - aq.toNat) * 1000 + (100 - ar).toNat < (l.length - p.toNat) * 1000 + (100 - q).toNat)))))) ∧ (decide (w.bind = 1) = false →
 i64 (q + 1) ∧ (∃ (ax : Int), (∃ (ay : Int), (∃ (az : Int), (∃ (aA : Bool), (∃ (aB : Given), r = az ∧ true = aA ∧ p = ax ∧ q + 1 = ay ∧ l = l ∧ n = n ∧ (0 : Int) = (0 : Int) ∧ (0 : Int) = (0 : Int) ∧ p = aB.in_ ∧ q = aB.at_ ∧ (0 ≤ ax ∧ ax < LN l ∧ 0 ≤ ay ∧ ay ≤ LN (symsAt l ax) ∧ 0 ≤ az ∧ az ≤ 12 * ax + ay ∧ gvO n l 0 (Gv.mk (Given.mk 0 0) 0 false) = gvO n (l.drop (ax + 1).toNat) (ax + 1) (gvS n ax ((symsAt l ax).drop ay.toNat) ay (Gv.mk aB az aA))) ∧ (l.length - ax.toNat) * 1000 + (100 - ay).toNat < (l.length - p.toNat) * 1000 + (100 - q).toNat))))))) ∧ (Bool.not s = false →
 (decide (w.bind = 1) = true →
 i64 (r + 1) ∧ i64 (q + 1) ∧ (∃ (aC : Int), (∃ (aD : Int), (∃ (aE : Int), (∃ (aF : Bool), (∃ (aG : Given), r + 1 = aE ∧ true = aF ∧ p = aC ∧ q + 1 = aD ∧ l = l ∧ n = n ∧ (0 : Int) = (0 : Int) ∧ (0 : Int) = (0 : Int) ∧ t.in_ = aG.in_ ∧ t.at_ = aG.at_ ∧ (0 ≤ aC ∧ aC < LN l ∧ 0 ≤ aD ∧ aD ≤ LN (symsAt l aC) ∧ 0 ≤ aE ∧ aE ≤ 12 * aC + aD ∧ gvO n l 0 (Gv.mk (Given.mk 0 0) 0 false) = gvO n (l.drop (aC + 1).toNat) (aC + 1) (gvS n aC ((symsAt l aC).drop aD.toNat) aD (Gv.mk aG aE aF))) ∧ (l.length - aC.toNat) * 1000 + (100 - aD).toNat < (l.length - p.toNat) * 1000 + (100 - q).toNat)))))) ∧ (decide (w.bind = 1) = false →
 i64 (q + 1) ∧ (∃ (aH : Int), (∃ (aI : Int), (∃ (aJ : Int), (∃ (aK : Bool), (∃ (aL : Given), r = aJ ∧ true = aK ∧ p = aH ∧ q + 1 = aI ∧ l = l ∧ n = n ∧ (0 : Int) = (0 : Int) ∧ (0 : Int) = (0 : Int) ∧ t.in_ = aL.in_ ∧ t.at_ = aL.at_ ∧ (0 ≤ aH ∧ aH < LN l ∧ 0 ≤ aI ∧ aI ≤ LN (symsAt l aH) ∧ 0 ≤ aJ ∧ aJ ≤ 12 * aH + aI ∧ gvO n l 0 (Gv.mk (Given.mk 0 0) 0 false) = gvO n (l.drop (aH + 1).toNat) (aH + 1) (gvS n aH ((symsAt l aH).drop aI.toNat) aI (Gv.mk aL aJ aK))) ∧ (l.length - aH.toNat) * 1000 + (100 - aI).toNat < (l.length - p.toNat) * 1000 + (100 - q).toNat)))))))))))))) ∧ (decide (q < LN u.syms) = false →
 i64 (p + 1) ∧ (∃ (aM : Int), (∃ (aN : Int), (∃ (aO : Bool), (∃ (aP : Given), r = aN ∧ s = aO ∧ p + 1 = aM ∧ l = l ∧ n = n ∧ (0 : Int) = (0 : Int) ∧ (0 : Int) = (0 : Int) ∧ t.in_ = aP.in_ ∧ t.at_ = aP.at_ ∧ (0 ≤ aM ∧ aM ≤ LN l ∧ 0 ≤ aN ∧ aN ≤ 12 * aM ∧ gvO n l 0 (Gv.mk (Given.mk 0 0) 0 false) = gvO n (l.drop aM.toNat) aM (Gv.mk aP aN aO)) ∧ l.length - aM.toNat < l.length - e.toNat))))))))))))))))) ∧ (decide (e < LN l) = false →
 h.in_ = (@Option.getD Given (fnd l n) (Given.mk 0 0)).in_ ∧ h.at_ = (@Option.getD Given (fnd l n) (Given.mk 0 0)).at_ ∧ f = cntS l n ∧ g = @Option.isSome Given (fnd l n) ∧ True)))))) := by kernel_rfl
theorem det_spec_l11Given : C_spec_l11Given.det = true → ∀ x, (C_spec_l11Given.out x).Det := fun _ x => by simp only [C_spec_l11Given]; repeat (first | exact Det.ret _ | exact Det.vc' | apply Det.req | apply Det.giv | apply Det.fork | apply Det.bif' | intro _)
theorem ok_spec_l11Given : ConOK Tryz.prog 75 C_spec_l11Given := by
 refine con_q (l := L_spec_l11Given) trivial Tryz.func75 rfl (by decide) (by kernel_rfl) rfl an_spec_l11Given fun x ho hx => ?_
 obtain ⟨l, n, ⟨⟩⟩ := x
 refine Keeps.of (vc_spec_l11Given l n) ?_
 revert l n ho hx
 show ∀ (l : List (Objt)) (n : ByteArray), _
 intro l n ho hx
 dsimp only [C_spec_l11Given, okPTL, okPT, Ok, Ty.cells, SN.cells, OkL, OkC, okI, ci, cb, cs, cl] at ho
 dsimp only [C_spec_l11Given, vc, v1, decB, SR.pre] at hx
 have hs := @symsAt_eq l
 have hy := @symsAt_len l hx.1.1
 have h0 := @gv_all n l hx.1.1
 have h1 := @gvO_step' n l
 have h2 := @gvO_end n l
 have h3 := fun k j => @gvS_at n k (symsAt l k) j
 have h4 := fun k j => @gvS_end n k (symsAt l k) j
 (try delta i64 LN); simp only [VBt]; (repeat' first | intro _ | apply And.intro); all_goals (try omega)
 all_goals (try grind)
end Go.Proofs.YtpgglbnagphgoaaGreat
