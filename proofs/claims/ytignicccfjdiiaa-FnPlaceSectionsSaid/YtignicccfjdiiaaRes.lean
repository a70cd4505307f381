/- Names that are given, wanted, missing, given twice: both packages keep the same contracts. -/
import Derived.Test.YtignicccfjdiiaaLayD
import Derived.Test.YtignicccfjdiiaaObjV
import Derived.Test.YtignicccfjdiiaaNamS
set_option linter.unusedVariables false
set_option linter.unusedSimpArgs false
namespace Go.Proofs.Ytignicccfjdiiaa
open Go Go.RowKit


theorem sortU_if {l : List ByteArray} {x : ByteArray} {p : Bool} : sortU (l ++ (if p = true then [x] else [])) = if p = true then insU (sortU l) x else sortU l := by
  cases p
  · simp
  · simp [sortU_snoc]
/-- A symbol's place that may be missing. -/
def gvR (o : Option Given) : SR := .ret { val := .tup [(true, (SN.cells .given (o.getD ⟨0, 0⟩)).map .c), (false, [.c (cb o.isSome)])] }
theorem fnd_if (l : List Objt) (n : ByteArray) : fnd l n = if (fbO n 1 l 0).isSome = true then fbO n 1 l 0 else fbO n 2 l 0 := by
  unfold fnd
  cases fbO n 1 l 0 <;> simp
theorem fbO_step {n : ByteArray} {b : Int} {l : List Objt} {k : Int} {o : Objt} (hk : 0 ≤ k) (h : l[k.toNat]? = some o) : fbO n b (l.drop k.toNat) k = if 0 ≤ ixF (bdS n b) o.syms 0 then some ⟨k, ixF (bdS n b) o.syms 0⟩ else fbO n b (l.drop (k + 1).toNat) (k + 1) := by
  rw [drop_get' h hk]; rfl
theorem fbO_end {n : ByteArray} {b : Int} {l : List Objt} {k : Int} (h : (l.length : Int) ≤ k) : fbO n b (l.drop k.toNat) k = none := by rw [drop_end h]; rfl
theorem ixF_at {α : Type} {p : α → Bool} {l : List α} {j : Int} {x : α} (hj : 0 ≤ j) (h : l[j.toNat]? = some x) : ixF p (l.drop j.toNat) j = if p x = true then j else ixF p (l.drop (j + 1).toNat) (j + 1) := by
  rw [drop_get' h hj]; rfl
theorem ixF_end {α : Type} {p : α → Bool} {l : List α} {j : Int} (h : (l.length : Int) ≤ j) : ixF p (l.drop j.toNat) j = -1 := by rw [drop_end h]; rfl
theorem gvO_step {n : ByteArray} {l : List Objt} {k : Int} {o : Objt} {g : Gv} (hk : 0 ≤ k) (h : l[k.toNat]? = some o) : gvO n (l.drop k.toNat) k g = gvO n (l.drop (k + 1).toNat) (k + 1) (gvS n k o.syms 0 g) := by
  rw [drop_get' h hk]; rfl
theorem gvO_step' {n : ByteArray} {l : List Objt} {k : Int} {g : Gv} (hk : 0 ≤ k) (h : k < l.length) : gvO n (l.drop k.toNat) k g = gvO n (l.drop (k + 1).toNat) (k + 1) (gvS n k ((symsAt l k).drop (Int.toNat 0)) 0 g) := by
  have h' := List.getElem?_eq_getElem (l := l) (i := k.toNat) (by omega)
  rw [gvO_step hk h', symsAt_eq h']; rfl
theorem gvO_end {n : ByteArray} {l : List Objt} {k : Int} {g : Gv} (h : (l.length : Int) ≤ k) : gvO n (l.drop k.toNat) k g = g := by rw [drop_end h]; rfl
theorem gvS_at {n : ByteArray} {k : Int} {l : List Sym} {j : Int} {s : Sym} {g : Given} {a : Int} {f : Bool} (hj : 0 ≤ j) (h : l[j.toNat]? = some s) : gvS n k (l.drop j.toNat) j ⟨g, a, f⟩ = gvS n k (l.drop (j + 1).toNat) (j + 1) (if s.name ≠ n ∨ s.bind = 0 ∨ s.wher = -1 then ⟨g, a, f⟩ else ⟨if (s.bind = 1 ∧ a = 0) ∨ f = false then ⟨k, j⟩ else g, if s.bind = 1 then a + 1 else a, true⟩) := by
  rw [drop_get' h hj]; rfl
theorem gvS_end {n : ByteArray} {k : Int} {l : List Sym} {j : Int} {g : Gv} (h : (l.length : Int) ≤ j) : gvS n k (l.drop j.toNat) j g = g := by rw [drop_end h]; rfl
theorem insU_at {l : List ByteArray} {s x : ByteArray} {i : Int} (hi : 0 ≤ i) (h : l[i.toNat]? = some x) : insU (l.drop i.toNat) s = if strLt x s = true then x :: insU (l.drop (i + 1).toNat) s else if x = s then x :: l.drop (i + 1).toNat else s :: x :: l.drop (i + 1).toNat := by
  rw [drop_get' h hi]; rfl
theorem insU_end {l : List ByteArray} {s : ByteArray} {i : Int} (h : (l.length : Int) ≤ i) : insU (l.drop i.toNat) s = [s] := by rw [drop_end h]; rfl
theorem cons_drop {α : Type} {l : List α} {i : Int} {x : α} (hi : 0 ≤ i) (h : l[i.toNat]? = some x) : x :: l.drop (i + 1).toNat = l.drop i.toNat := (drop_get' h hi).symm
theorem symN_next {p : Sym → Bool} {l : List Sym} {k : Int} {x : Sym} (hk : 0 ≤ k) (h : l[k.toNat]? = some x) : sortU (symP p (l.take (k + 1).toNat)) = if p x = true then insU (sortU (symP p (l.take k.toNat))) x.name else sortU (symP p (l.take k.toNat)) := by
  rw [symP_next hk h, sortU_if]
theorem symN_len {p : Sym → Bool} {l : List Sym} (k : Nat) (h : l.length ≤ 12) : (sortU (symP p (l.take k))).length ≤ 12 := by
  have h1 := (sortU_len (symP p (l.take k))).1
  have h2 := symP_tlen (p := p) (l := l) (k := k)
  omega
theorem symN_zero {p : Sym → Bool} {l : List Sym} : sortU (symP p (l.take (Int.toNat 0))) = [] := rfl
theorem namesW_end {o : Objt} {k : Int} (h0 : 0 ≤ k) (h : 0 < k → objB o = true) (h' : objB o = false ∨ (o.syms.length : Int) ≤ k) : sortU (symP wantS (o.syms.take k.toNat)) = namesW o := by
  unfold namesW
  cases ho : objB o with
  | true => rw [if_pos rfl, take_end' (by rcases h' with h' | h'; rw [h'] at ho; cases ho; exact h')]
  | false =>
    have : k = 0 := by by_cases hk : 0 < k; rw [h hk] at ho; cases ho; omega
    subst this
    rfl
theorem namesG_end {o : Objt} {k : Int} (h0 : 0 ≤ k) (h : 0 < k → objB o = true) (h' : objB o = false ∨ (o.syms.length : Int) ≤ k) : sortU (symP giveS (o.syms.take k.toNat)) = namesG o := by
  unfold namesG
  cases ho : objB o with
  | true => rw [if_pos rfl, take_end' (by rcases h' with h' | h'; rw [h'] at ho; cases ho; exact h')]
  | false =>
    have : k = 0 := by by_cases hk : 0 < k; rw [h hk] at ho; cases ho; omega
    subst this
    rfl
def insW (l : List ByteArray) (s : ByteArray) : List ByteArray := insU l s
/-- How many are smaller. -/
def cntL (s : ByteArray) : List ByteArray → Nat
  | [] => 0
  | x :: l => if strLt x s = true then cntL s l + 1 else 0
def C_spec_l2Insert : Con := { ps := [.row none .str, .ro .str], out := fun x => let l : List (ByteArray) := x.1; let s : ByteArray := x.2.1; .req (l.length ≤ 1000000) (.fork (decide (insU l s = l)) (.ret { val := .one (.sl 0 []) }) (newL .str (insU l s))), det := true }
abbrev L_spec_l2Insert : List (Nat × Con) := []
def G_spec_l2Insert : Cfg := mkG (tyL tys_) L_spec_l2Insert false
def an_spec_l2Insert : PTL C_spec_l2Insert.ps → Nat → Option Ann := fun x kk_ => let l : List (ByteArray) := x.1; let s : ByteArray := x.2.1; if kk_ = 2 then some (.all (Int) fun i => .giv (0 ≤ i ∧ i ≤ l.length ∧ insU l s = l.take i.toNat ++ insU (l.drop i.toNat) s) (.mk [(5, ai i), (0, asl 0), (1, ax s)] [(0, .row none .str l true)] ((l.length - i.toNat)))) else none
set_option maxRecDepth 200000 in
theorem vc_spec_l2Insert (l : List (ByteArray)) (s : ByteArray) : (keeps Try.prog G_spec_l2Insert (an_spec_l2Insert (l, s, ())) (Try.f108.body.getD .skip) Try.f108.results.toList C_spec_l2Insert (l, s, ())) = (((∃ (x_1 : Int), ((0 = x_1) ∧
 ((@Eq ByteArray s s) ∧
 ((@Eq (List ByteArray) l l) ∧
 (((0 ≤ x_1) ∧
 ((x_1 ≤ (LN l)) ∧
 (@Eq (List ByteArray) (insU l s) ((List.take (Int.toNat x_1) l) ++ (insU (List.drop (Int.toNat x_1) l) s))))) ∧
 True))))) ∧
 (∀ (x_2 : Int), (((0 ≤ x_2) ∧
 ((x_2 ≤ (LN l)) ∧
 (@Eq (List ByteArray) (insU l s) ((List.take (Int.toNat x_2) l) ++ (insU (List.drop (Int.toNat x_2) l) s))))) →
 (((List.length l) ≤ 9223372036854775807) →
 ((((decide (x_2 < (LN l))) = true) →
 (((0 ≤ x_2) ∧
 (x_2 < (LN l))) ∧
 (∀ (x_3 : ByteArray), ((@Eq (Option ByteArray) (l)[(Int.toNat x_2)]? (some x_3)) →
 ((Ok Ty.str x_3) →
 ((((strLt x_3 s) = true) →
 ((i64 (x_2 + (1 : Int))) ∧
 (∃ (x_4 : Int), (((x_2 + (1 : Int)) = x_4) ∧
 ((@Eq ByteArray s s) ∧
 ((@Eq (List ByteArray) l l) ∧
 (((0 ≤ x_4) ∧
 ((x_4 ≤ (LN l)) ∧
 (@Eq (List ByteArray) (insU l s) ((List.take (Int.toNat x_4) l) ++ (insU (List.drop (Int.toNat x_4) l) s))))) ∧
 (((List.length l) - (Int.toNat x_4)) < ((List.length l) - (Int.toNat x_2)))))))))) ∧
 (((strLt x_3 s) = false) →
 (((List.length l) ≤ 9223372036854775807) →
 ((((decide (x_2 < (LN l))) = true) →
 (((0 ≤ x_2) ∧
 (x_2 < (LN l))) ∧
 (∀ (x_5 : ByteArray), ((@Eq (Option ByteArray) (l)[(Int.toNat x_2)]? (some x_5)) →
 ((Ok Ty.str x_5) →
 ((((decide (@Eq ByteArray x_5 s)) = true) →
 ((((decide (@Eq (List ByteArray) (insU l s) l)) = true) ∧
 ((@Eq (List ByteArray) l l) ∧
 True)) ∨ (((decide (@Eq (List ByteArray) (insU l s) l)) = false) ∧
 False))) ∧
 (((decide (@Eq ByteArray x_5 s)) = false) →
 (((0 ≤ x_2) ∧
 (x_2 ≤ (LN l))) ∧
 (((((0 + (List.length (List.take ((Int.toNat x_2) - 0) (List.drop (0 : Nat) l)))) * 16) ≤ 140737488355328) ∧
 ((0 + (List.length (List.take ((Int.toNat x_2) - 0) (List.drop (0 : Nat) l)))) ≤ 1000000000000)) ∧
 ((((((List.length (List.take ((Int.toNat x_2) - 0) (List.drop (0 : Nat) l))) + (List.length [s])) * 16) ≤ 140737488355328) ∧
 (((List.length (List.take ((Int.toNat x_2) - 0) (List.drop (0 : Nat) l))) + (List.length [s])) ≤ 1000000000000)) ∧
 (((0 ≤ x_2) ∧
 (x_2 ≤ (LN l))) ∧
 ((((((List.length ((List.take ((Int.toNat x_2) - 0) (List.drop (0 : Nat) l)) ++ [s])) + (List.length (List.take ((List.length l) - (Int.toNat x_2)) (List.drop (Int.toNat x_2) l)))) * 16) ≤ 140737488355328) ∧
 (((List.length ((List.take ((Int.toNat x_2) - 0) (List.drop (0 : Nat) l)) ++ [s])) + (List.length (List.take ((List.length l) - (Int.toNat x_2)) (List.drop (Int.toNat x_2) l)))) ≤ 1000000000000)) ∧
 ((((decide (@Eq (List ByteArray) (insU l s) l)) = true) ∧
 False) ∨ (((decide (@Eq (List ByteArray) (insU l s) l)) = false) ∧
 ((@Eq (List ByteArray) (((List.take ((Int.toNat x_2) - 0) (List.drop (0 : Nat) l)) ++ [s]) ++ (List.take ((List.length l) - (Int.toNat x_2)) (List.drop (Int.toNat x_2) l))) (insU l s)) ∧
 ((@Eq (List ByteArray) l l) ∧
 True)))))))))))))))) ∧
 (((decide (x_2 < (LN l))) = false) →
 (((0 ≤ x_2) ∧
 (x_2 ≤ (LN l))) ∧
 (((((0 + (List.length (List.take ((Int.toNat x_2) - 0) (List.drop (0 : Nat) l)))) * 16) ≤ 140737488355328) ∧
 ((0 + (List.length (List.take ((Int.toNat x_2) - 0) (List.drop (0 : Nat) l)))) ≤ 1000000000000)) ∧
 ((((((List.length (List.take ((Int.toNat x_2) - 0) (List.drop (0 : Nat) l))) + (List.length [s])) * 16) ≤ 140737488355328) ∧
 (((List.length (List.take ((Int.toNat x_2) - 0) (List.drop (0 : Nat) l))) + (List.length [s])) ≤ 1000000000000)) ∧
 (((0 ≤ x_2) ∧
 (x_2 ≤ (LN l))) ∧
 ((((((List.length ((List.take ((Int.toNat x_2) - 0) (List.drop (0 : Nat) l)) ++ [s])) + (List.length (List.take ((List.length l) - (Int.toNat x_2)) (List.drop (Int.toNat x_2) l)))) * 16) ≤ 140737488355328) ∧
 (((List.length ((List.take ((Int.toNat x_2) - 0) (List.drop (0 : Nat) l)) ++ [s])) + (List.length (List.take ((List.length l) - (Int.toNat x_2)) (List.drop (Int.toNat x_2) l)))) ≤ 1000000000000)) ∧
 ((((decide (@Eq (List ByteArray) (insU l s) l)) = true) ∧
 False) ∨ (((decide (@Eq (List ByteArray) (insU l s) l)) = false) ∧
 ((@Eq (List ByteArray) (((List.take ((Int.toNat x_2) - 0) (List.drop (0 : Nat) l)) ++ [s]) ++ (List.take ((List.length l) - (Int.toNat x_2)) (List.drop (Int.toNat x_2) l))) (insU l s)) ∧
 ((@Eq (List ByteArray) l l) ∧
 True))))))))))))))))))) ∧
 (((decide (x_2 < (LN l))) = false) →
 (((List.length l) ≤ 9223372036854775807) →
 ((((decide (x_2 < (LN l))) = true) →
 (((0 ≤ x_2) ∧
 (x_2 < (LN l))) ∧
 (∀ (x_6 : ByteArray), ((@Eq (Option ByteArray) (l)[(Int.toNat x_2)]? (some x_6)) →
 ((Ok Ty.str x_6) →
 ((((decide (@Eq ByteArray x_6 s)) = true) →
 ((((decide (@Eq (List ByteArray) (insU l s) l)) = true) ∧
 ((@Eq (List ByteArray) l l) ∧
 True)) ∨ (((decide (@Eq (List ByteArray) (insU l s) l)) = false) ∧
 False))) ∧
 (((decide (@Eq ByteArray x_6 s)) = false) →
 (((0 ≤ x_2) ∧
 (x_2 ≤ (LN l))) ∧
 (((((0 + (List.length (List.take ((Int.toNat x_2) - 0) (List.drop (0 : Nat) l)))) * 16) ≤ 140737488355328) ∧
 ((0 + (List.length (List.take ((Int.toNat x_2) - 0) (List.drop (0 : Nat) l)))) ≤ 1000000000000)) ∧
 ((((((List.length (List.take ((Int.toNat x_2) - 0) (List.drop (0 : Nat) l))) + (List.length [s])) * 16) ≤ 140737488355328) ∧
 (((List.length (List.take ((Int.toNat x_2) - 0) (List.drop (0 : Nat) l))) + (List.length [s])) ≤ 1000000000000)) ∧
 (((0 ≤ x_2) ∧
 (x_2 ≤ (LN l))) ∧
 ((((((List.length ((List.take ((Int.toNat x_2) - 0) (List.drop (0 : Nat) l)) ++ [s])) + (List.length (List.take ((List.length l) - (Int.toNat x_2)) (List.drop (Int.toNat x_2) l)))) * 16) ≤ 140737488355328) ∧
 (((List.length ((List.take ((Int.toNat x_2) - 0) (List.drop (0 : Nat) l)) ++ [s])) + (List.length (List.take ((List.length l) - (Int.toNat x_2)) (List.drop (Int.toNat x_2) l)))) ≤ 1000000000000)) ∧
 ((((decide (@Eq (List ByteArray) (insU l s) l)) = true) ∧
 False) ∨ (((decide (@Eq (List ByteArray) (insU l s) l)) = false) ∧
 ((@Eq (List ByteArray) (((List.take ((Int.toNat x_2) - 0) (List.drop (0 : Nat) l)) ++ [s]) ++ (List.take ((List.length l) - (Int.toNat x_2)) (List.drop (Int.toNat x_2) l))) (insU l s)) ∧
 ((@Eq (List ByteArray) l l) ∧
 True)))))))))))))))) ∧
 (((decide (x_2 < (LN l))) = false) →
 (((0 ≤ x_2) ∧
 (x_2 ≤ (LN l))) ∧
 (((((0 + (List.length (List.take ((Int.toNat x_2) - 0) (List.drop (0 : Nat) l)))) * 16) ≤ 140737488355328) ∧
 ((0 + (List.length (List.take ((Int.toNat x_2) - 0) (List.drop (0 : Nat) l)))) ≤ 1000000000000)) ∧
 ((((((List.length (List.take ((Int.toNat x_2) - 0) (List.drop (0 : Nat) l))) + (List.length [s])) * 16) ≤ 140737488355328) ∧
 (((List.length (List.take ((Int.toNat x_2) - 0) (List.drop (0 : Nat) l))) + (List.length [s])) ≤ 1000000000000)) ∧
 (((0 ≤ x_2) ∧
 (x_2 ≤ (LN l))) ∧
 ((((((List.length ((List.take ((Int.toNat x_2) - 0) (List.drop (0 : Nat) l)) ++ [s])) + (List.length (List.take ((List.length l) - (Int.toNat x_2)) (List.drop (Int.toNat x_2) l)))) * 16) ≤ 140737488355328) ∧
 (((List.length ((List.take ((Int.toNat x_2) - 0) (List.drop (0 : Nat) l)) ++ [s])) + (List.length (List.take ((List.length l) - (Int.toNat x_2)) (List.drop (Int.toNat x_2) l)))) ≤ 1000000000000)) ∧
 ((((decide (@Eq (List ByteArray) (insU l s) l)) = true) ∧
 False) ∨ (((decide (@Eq (List ByteArray) (insU l s) l)) = false) ∧
 ((@Eq (List ByteArray) (((List.take ((Int.toNat x_2) - 0) (List.drop (0 : Nat) l)) ++ [s]) ++ (List.take ((List.length l) - (Int.toNat x_2)) (List.drop (Int.toNat x_2) l))) (insU l s)) ∧
 ((@Eq (List ByteArray) l l) ∧
 True))))))))))))))))))) := by kernel_rfl
theorem det_spec_l2Insert : C_spec_l2Insert.det = true → ∀ x, (C_spec_l2Insert.out x).Det := fun _ x => by simp only [C_spec_l2Insert]; repeat (first | exact Det.ret _ | exact Det.vc' | apply Det.req | apply Det.giv | apply Det.fork | apply Det.bif' | intro _)
set_option maxRecDepth 200000 in
set_option maxHeartbeats 4000000 in
theorem ok_spec_l2Insert : ConOK Try.prog 108 C_spec_l2Insert := by
  refine con_mk (wr := false) (ty := tyL tys_) (l := L_spec_l2Insert) trivial Try.checked.mixed (fn := Try.f108) (body := Try.f108.body.getD .skip) Try.func108 rfl (by decide) (by kernel_rfl) rfl an_spec_l2Insert fun x ho hx => ?_
  obtain ⟨l, s, ⟨⟩⟩ := x
  refine Keeps.of (vc_spec_l2Insert l s) ?_
  revert l s ho hx
  show ∀ (l : List (ByteArray)) (s : ByteArray), _
  intro l s ho hx
  dsimp only [C_spec_l2Insert, okPTL, okPT, Ok, Ty.cells, SN.cells, OkL, OkC, okI, ci, cb, cs, cl] at ho
  dsimp only [C_spec_l2Insert, vc, v1, decB, SR.pre] at hx
  have h1 := fun i x => @insU_at l s x i
  have h2 := fun i => @insU_end l s i
  have h3 := fun i x => @cons_drop _ l i x
  have h4 := fun i x => @take_app' _ l i x
  have h5 := fun i => @take_end' _ l i
  have h6 := fun i => @drop_end _ l i
  (try delta i64 LN); simp only [VBt]; (repeat' first | intro _ | apply And.intro); all_goals (try omega)
  all_goals (try grind [List.take_append_drop])
def C_spec_NamesGiven : Con := { ps := [.ro (.st .obj)], out := fun x => let o : Objt := x.1; newL .str (namesG o), det := true }
abbrev L_spec_NamesGiven : List (Nat × Con) := [(64, C_spec_ObjectValid), (108, C_spec_l2Insert)]
def G_spec_NamesGiven : Cfg := mkG (tyL tys_) L_spec_NamesGiven false
def an_spec_NamesGiven : PTL C_spec_NamesGiven.ps → Nat → Option Ann := fun x kk_ => let o : Objt := x.1; if kk_ = 3 then some (.all (Int) fun k => .giv (0 ≤ k ∧ k ≤ o.syms.length ∧ (0 < k → objB o = true)) (.mk [(4, ai k), (3, asl 20), (1, aref 61)] [(20, .row none .str (sortU (symP giveS (o.syms.take k.toNat))) true), (61, bx (ast .obj o))] ((o.syms.length - k.toNat)))) else none
set_option maxRecDepth 200000 in
theorem vc_spec_NamesGiven (o : Objt) : (keeps Try.prog G_spec_NamesGiven (an_spec_NamesGiven (o, ())) (Try.f84.body.getD .skip) Try.f84.results.toList C_spec_NamesGiven (o, ())) = (((∃ (x_1 : Int), ((0 = x_1) ∧
 ((@Eq (List ByteArray) ([] : List ByteArray) (sortU (symP giveS (List.take (Int.toNat x_1) (Objt.syms o))))) ∧
 ((@Eq (List Sect) (Objt.sects o) (Objt.sects o)) ∧
 ((@Eq (List Sym) (Objt.syms o) (Objt.syms o)) ∧
 (((0 ≤ x_1) ∧
 ((x_1 ≤ (LN (Objt.syms o))) ∧
 ((0 < x_1) →
 ((objB o) = true)))) ∧
 True)))))) ∧
 (∀ (x_2 : Int), (((0 ≤ x_2) ∧
 ((x_2 ≤ (LN (Objt.syms o))) ∧
 ((0 < x_2) →
 ((objB o) = true)))) →
 (((List.length (Objt.syms o)) ≤ 9223372036854775807) →
 ((((decide (x_2 < (LN (Objt.syms o)))) = true) →
 ((((objB o) = true) →
 (((0 ≤ x_2) ∧
 (x_2 < (LN (Objt.syms o)))) ∧
 (∀ (x_3 : Sym), ((@Eq (Option Sym) ((Objt.syms o))[(Int.toNat x_2)]? (some x_3)) →
 ((Ok (Ty.st SN.sym) x_3) →
 ((((decide ((Sym.wher x_3) ≠ (- (1 : Int)))) = true) →
 (((0 ≤ x_2) ∧
 (x_2 < (LN (Objt.syms o)))) ∧
 (∀ (x_4 : Sym), ((@Eq (Option Sym) ((Objt.syms o))[(Int.toNat x_2)]? (some x_4)) →
 ((Ok (Ty.st SN.sym) x_4) →
 ((((decide ((Sym.bind x_4) ≠ 0)) = true) →
 (((0 ≤ x_2) ∧
 (x_2 < (LN (Objt.syms o)))) ∧
 (∀ (x_5 : Sym), ((@Eq (Option Sym) ((Objt.syms o))[(Int.toNat x_2)]? (some x_5)) →
 ((Ok (Ty.st SN.sym) x_5) →
 (((List.length (sortU (symP giveS (List.take (Int.toNat x_2) (Objt.syms o))))) ≤ 1000000) ∧
 ((((decide (@Eq (List ByteArray) (insU (sortU (symP giveS (List.take (Int.toNat x_2) (Objt.syms o)))) (Sym.name x_5)) (sortU (symP giveS (List.take (Int.toNat x_2) (Objt.syms o)))))) = true) →
 ((i64 (x_2 + (1 : Int))) ∧
 (∃ (x_6 : Int), (((x_2 + (1 : Int)) = x_6) ∧
 ((@Eq (List ByteArray) (sortU (symP giveS (List.take (Int.toNat x_2) (Objt.syms o)))) (sortU (symP giveS (List.take (Int.toNat x_6) (Objt.syms o))))) ∧
 ((@Eq (List Sect) (Objt.sects o) (Objt.sects o)) ∧
 ((@Eq (List Sym) (Objt.syms o) (Objt.syms o)) ∧
 (((0 ≤ x_6) ∧
 ((x_6 ≤ (LN (Objt.syms o))) ∧
 ((0 < x_6) →
 ((objB o) = true)))) ∧
 (((List.length (Objt.syms o)) - (Int.toNat x_6)) < ((List.length (Objt.syms o)) - (Int.toNat x_2))))))))))) ∧
 (((decide (@Eq (List ByteArray) (insU (sortU (symP giveS (List.take (Int.toNat x_2) (Objt.syms o)))) (Sym.name x_5)) (sortU (symP giveS (List.take (Int.toNat x_2) (Objt.syms o)))))) = false) →
 ((i64 (x_2 + (1 : Int))) ∧
 (∃ (x_7 : Int), (((x_2 + (1 : Int)) = x_7) ∧
 ((@Eq (List ByteArray) (insU (sortU (symP giveS (List.take (Int.toNat x_2) (Objt.syms o)))) (Sym.name x_5)) (sortU (symP giveS (List.take (Int.toNat x_7) (Objt.syms o))))) ∧
 ((@Eq (List Sect) (Objt.sects o) (Objt.sects o)) ∧
 ((@Eq (List Sym) (Objt.syms o) (Objt.syms o)) ∧
 (((0 ≤ x_7) ∧
 ((x_7 ≤ (LN (Objt.syms o))) ∧
 ((0 < x_7) →
 ((objB o) = true)))) ∧
 (((List.length (Objt.syms o)) - (Int.toNat x_7)) < ((List.length (Objt.syms o)) - (Int.toNat x_2)))))))))))))))))) ∧
 (((decide ((Sym.bind x_4) ≠ 0)) = false) →
 ((i64 (x_2 + (1 : Int))) ∧
 (∃ (x_8 : Int), (((x_2 + (1 : Int)) = x_8) ∧
 ((@Eq (List ByteArray) (sortU (symP giveS (List.take (Int.toNat x_2) (Objt.syms o)))) (sortU (symP giveS (List.take (Int.toNat x_8) (Objt.syms o))))) ∧
 ((@Eq (List Sect) (Objt.sects o) (Objt.sects o)) ∧
 ((@Eq (List Sym) (Objt.syms o) (Objt.syms o)) ∧
 (((0 ≤ x_8) ∧
 ((x_8 ≤ (LN (Objt.syms o))) ∧
 ((0 < x_8) →
 ((objB o) = true)))) ∧
 (((List.length (Objt.syms o)) - (Int.toNat x_8)) < ((List.length (Objt.syms o)) - (Int.toNat x_2))))))))))))))))) ∧
 (((decide ((Sym.wher x_3) ≠ (- (1 : Int)))) = false) →
 ((i64 (x_2 + (1 : Int))) ∧
 (∃ (x_9 : Int), (((x_2 + (1 : Int)) = x_9) ∧
 ((@Eq (List ByteArray) (sortU (symP giveS (List.take (Int.toNat x_2) (Objt.syms o)))) (sortU (symP giveS (List.take (Int.toNat x_9) (Objt.syms o))))) ∧
 ((@Eq (List Sect) (Objt.sects o) (Objt.sects o)) ∧
 ((@Eq (List Sym) (Objt.syms o) (Objt.syms o)) ∧
 (((0 ≤ x_9) ∧
 ((x_9 ≤ (LN (Objt.syms o))) ∧
 ((0 < x_9) →
 ((objB o) = true)))) ∧
 (((List.length (Objt.syms o)) - (Int.toNat x_9)) < ((List.length (Objt.syms o)) - (Int.toNat x_2))))))))))))))))) ∧
 (((objB o) = false) →
 ((@Eq (List ByteArray) (sortU (symP giveS (List.take (Int.toNat x_2) (Objt.syms o)))) (namesG o)) ∧
 True)))) ∧
 (((decide (x_2 < (LN (Objt.syms o)))) = false) →
 ((@Eq (List ByteArray) (sortU (symP giveS (List.take (Int.toNat x_2) (Objt.syms o)))) (namesG o)) ∧
 True)))))))) := by kernel_rfl
theorem det_spec_NamesGiven : C_spec_NamesGiven.det = true → ∀ x, (C_spec_NamesGiven.out x).Det := fun _ x => by simp only [C_spec_NamesGiven]; repeat (first | exact Det.ret _ | exact Det.vc' | apply Det.req)
set_option maxRecDepth 200000 in
set_option maxHeartbeats 4000000 in
theorem ok_spec_NamesGiven : ConOK Try.prog 84 C_spec_NamesGiven := by
  refine con_mk (wr := false) (ty := tyL tys_) (l := L_spec_NamesGiven) ⟨⟨ok_spec_ObjectValid, det_spec_ObjectValid⟩, ⟨⟨ok_spec_l2Insert, det_spec_l2Insert⟩, trivial⟩⟩ Try.checked.mixed (fn := Try.f84) (body := Try.f84.body.getD .skip) Try.func84 rfl (by decide) (by kernel_rfl) rfl an_spec_NamesGiven fun x ho hx => ?_
  obtain ⟨o, ⟨⟩⟩ := x
  refine Keeps.of (vc_spec_NamesGiven o) ?_
  revert o ho hx
  show ∀ (o : Objt), _
  intro o ho hx
  dsimp only [C_spec_NamesGiven, okPTL, okPT, Ok, Ty.cells, SN.cells, OkL, OkC, okI, ci, cb, cs, cl] at ho
  dsimp only [C_spec_NamesGiven, vc, v1, decB, SR.pre] at hx
  have hl := @objB_lens o
  have h1 := fun (k : Int) (x : Sym) => symN_next (p := giveS) (l := o.syms) (k := k) (x := x)
  have h2 := fun (k : Int) => namesG_end (o := o) (k := k)
  have h3 := fun (k : Int) => symN_len (p := giveS) (l := o.syms) k.toNat
  (try delta i64 LN); simp only [VBt]; (repeat' first | intro _ | apply And.intro); all_goals (try omega)
  all_goals (try grind [symN_zero, wantS, giveS])
def C_impl_findBound : Con := { ps := [.ro (.list (.st .obj)), .ro .str, .ro .i], out := fun x => let l : List (Objt) := x.1; let n : ByteArray := x.2.1; let b : Int := x.2.2.1; .req (l.all objB = true) (gvR (fbO n b l 0)), det := true }
abbrev L_impl_findBound : List (Nat × Con) := []
def G_impl_findBound : Cfg := mkG (tyL tys_) L_impl_findBound false
def an_impl_findBound : PTL C_impl_findBound.ps → Nat → Option Ann := fun x kk_ => let l : List (Objt) := x.1; let n : ByteArray := x.2.1; let b : Int := x.2.2.1; if kk_ = 2 then some (.all (Int) fun k => .giv (0 ≤ k ∧ k ≤ l.length ∧ fbO n b l 0 = fbO n b (l.drop k.toNat) k) (.mk [(14, ai k), (6, aref 30), (1, ax n), (2, ai b), (12, al (.st .obj) l), (13, ai (List.length l))] [(30, bx (ast .given ⟨0, 0⟩))] ((l.length - k.toNat)))) else if kk_ = 2005 then some (.all (Int) fun k => .all (Int) fun j => .giv (0 ≤ k ∧ k < l.length ∧ 0 ≤ j ∧ j ≤ (symsAt l k).length ∧ fbO n b l 0 = fbO n b (l.drop k.toNat) k ∧ ixF (bdS n b) (symsAt l k) 0 = ixF (bdS n b) ((symsAt l k).drop j.toNat) j) (.mk [(14, ai k), (22, ai j), (8, ai k), (20, al (.st .sym) (symsAt l k)), (21, ai (symsAt l k).length), (6, aref 30), (1, ax n), (2, ai b), (12, al (.st .obj) l), (13, ai (List.length l))] [(30, bx (ast .given ⟨0, 0⟩))] ((l.length - k.toNat) * 1000 + (100 - j).toNat))) else none
set_option maxRecDepth 200000 in
theorem vc_impl_findBound (l : List (Objt)) (n : ByteArray) (b : Int) : (keeps Try.prog G_impl_findBound (an_impl_findBound (l, n, b, ())) (Try.f109.body.getD .skip) Try.f109.results.toList C_impl_findBound (l, n, b, ())) = ((((List.length l) ≤ 9223372036854775807) →
 ((∃ (x_1 : Int), ((0 = x_1) ∧
 ((@Eq ByteArray n n) ∧
 ((b = b) ∧
 ((@Eq (List Objt) l l) ∧
 (((LN l) = (LN l)) ∧
 (((0 : Int) = (0 : Int)) ∧
 (((0 : Int) = (0 : Int)) ∧
 (((0 ≤ x_1) ∧
 ((x_1 ≤ (LN l)) ∧
 (@Eq (Option Given) (fbO n b l (0 : Int)) (fbO n b (List.drop (Int.toNat x_1) l) x_1)))) ∧
 True))))))))) ∧
 (∀ (x_2 : Int), (((0 ≤ x_2) ∧
 ((x_2 ≤ (LN l)) ∧
 (@Eq (Option Given) (fbO n b l (0 : Int)) (fbO n b (List.drop (Int.toNat x_2) l) x_2)))) →
 ((((decide (x_2 < (LN l))) = true) →
 (((0 ≤ x_2) ∧
 (x_2 < (LN l))) ∧
 (∀ (x_3 : Objt), ((@Eq (Option Objt) (l)[(Int.toNat x_2)]? (some x_3)) →
 ((Ok (Ty.st SN.obj) x_3) →
 (((List.length (Objt.syms x_3)) ≤ 9223372036854775807) →
 (∃ (x_4 : Int), (∃ (x_5 : Int), ((x_2 = x_4) ∧
 ((0 = x_5) ∧
 ((x_2 = x_4) ∧
 ((@Eq (List Sym) (Objt.syms x_3) (symsAt l x_4)) ∧
 (((LN (Objt.syms x_3)) = (LN (symsAt l x_4))) ∧
 ((@Eq ByteArray n n) ∧
 ((b = b) ∧
 ((@Eq (List Objt) l l) ∧
 (((LN l) = (LN l)) ∧
 (((0 : Int) = (0 : Int)) ∧
 (((0 : Int) = (0 : Int)) ∧
 (((0 ≤ x_4) ∧
 ((x_4 < (LN l)) ∧
 ((0 ≤ x_5) ∧
 ((x_5 ≤ (LN (symsAt l x_4))) ∧
 ((@Eq (Option Given) (fbO n b l (0 : Int)) (fbO n b (List.drop (Int.toNat x_4) l) x_4)) ∧
 ((@ixF Sym (bdS n b) (symsAt l x_4) (0 : Int)) = (@ixF Sym (bdS n b) (List.drop (Int.toNat x_5) (symsAt l x_4)) x_5))))))) ∧
 (∀ (x_6 : Int), (∀ (x_7 : Int), (((0 ≤ x_6) ∧
 ((x_6 < (LN l)) ∧
 ((0 ≤ x_7) ∧
 ((x_7 ≤ (LN (symsAt l x_6))) ∧
 ((@Eq (Option Given) (fbO n b l (0 : Int)) (fbO n b (List.drop (Int.toNat x_6) l) x_6)) ∧
 ((@ixF Sym (bdS n b) (symsAt l x_6) (0 : Int)) = (@ixF Sym (bdS n b) (List.drop (Int.toNat x_7) (symsAt l x_6)) x_7))))))) →
 ((((((List.length l) - (Int.toNat x_6)) * 1000) + (Int.toNat (100 - x_7))) ≤ ((((List.length l) - (Int.toNat x_4)) * 1000) + (Int.toNat (100 - x_5)))) →
 ((((decide (x_7 < (LN (symsAt l x_6)))) = true) →
 (((0 ≤ x_7) ∧
 (x_7 < (LN (symsAt l x_6)))) ∧
 (∀ (x_8 : Sym), ((@Eq (Option Sym) ((symsAt l x_6))[(Int.toNat x_7)]? (some x_8)) →
 ((Ok (Ty.st SN.sym) x_8) →
 ((((decide (@Eq ByteArray (Sym.name x_8) n)) = true) →
 ((((decide ((Sym.bind x_8) = b)) = true) →
 ((((decide ((Sym.wher x_8) ≠ (- (1 : Int)))) = true) →
 ((x_6 = (Given.in_ (@Option.getD Given (fbO n b l (0 : Int)) (Given.mk (0 : Int) (0 : Int))))) ∧
 ((x_7 = (Given.at_ (@Option.getD Given (fbO n b l (0 : Int)) (Given.mk (0 : Int) (0 : Int))))) ∧
 ((true = (@Option.isSome Given (fbO n b l (0 : Int)))) ∧
 True)))) ∧
 (((decide ((Sym.wher x_8) ≠ (- (1 : Int)))) = false) →
 ((i64 (x_7 + (1 : Int))) ∧
 (∃ (x_9 : Int), (∃ (x_10 : Int), ((x_6 = x_9) ∧
 (((x_7 + (1 : Int)) = x_10) ∧
 ((x_6 = x_9) ∧
 ((@Eq (List Sym) (symsAt l x_6) (symsAt l x_9)) ∧
 (((LN (symsAt l x_6)) = (LN (symsAt l x_9))) ∧
 ((@Eq ByteArray n n) ∧
 ((b = b) ∧
 ((@Eq (List Objt) l l) ∧
 (((LN l) = (LN l)) ∧
 (((0 : Int) = (0 : Int)) ∧
 (((0 : Int) = (0 : Int)) ∧
 (((0 ≤ x_9) ∧
 ((x_9 < (LN l)) ∧
 ((0 ≤ x_10) ∧
 ((x_10 ≤ (LN (symsAt l x_9))) ∧
 ((@Eq (Option Given) (fbO n b l (0 : Int)) (fbO n b (List.drop (Int.toNat x_9) l) x_9)) ∧
 ((@ixF Sym (bdS n b) (symsAt l x_9) (0 : Int)) = (@ixF Sym (bdS n b) (List.drop (Int.toNat x_10) (symsAt l x_9)) x_10))))))) ∧
 (((((List.length l) - (Int.toNat x_9)) * 1000) + (Int.toNat (100 - x_10))) < ((((List.length l) - (Int.toNat x_6)) * 1000) + (Int.toNat (100 - x_7)))))))))))))))))))))) ∧
 (((decide ((Sym.bind x_8) = b)) = false) →
 ((i64 (x_7 + (1 : Int))) ∧
 (∃ (x_11 : Int), (∃ (x_12 : Int), ((x_6 = x_11) ∧
 (((x_7 + (1 : Int)) = x_12) ∧
 ((x_6 = x_11) ∧
 ((@Eq (List Sym) (symsAt l x_6) (symsAt l x_11)) ∧
 (((LN (symsAt l x_6)) = (LN (symsAt l x_11))) ∧
 ((@Eq ByteArray n n) ∧
 ((b = b) ∧
 ((@Eq (List Objt) l l) ∧
 (((LN l) = (LN l)) ∧
 (((0 : Int) = (0 : Int)) ∧
 (((0 : Int) = (0 : Int)) ∧
 (((0 ≤ x_11) ∧
 ((x_11 < (LN l)) ∧
 ((0 ≤ x_12) ∧
 ((x_12 ≤ (LN (symsAt l x_11))) ∧
 ((@Eq (Option Given) (fbO n b l (0 : Int)) (fbO n b (List.drop (Int.toNat x_11) l) x_11)) ∧
 ((@ixF Sym (bdS n b) (symsAt l x_11) (0 : Int)) = (@ixF Sym (bdS n b) (List.drop (Int.toNat x_12) (symsAt l x_11)) x_12))))))) ∧
 (((((List.length l) - (Int.toNat x_11)) * 1000) + (Int.toNat (100 - x_12))) < ((((List.length l) - (Int.toNat x_6)) * 1000) + (Int.toNat (100 - x_7)))))))))))))))))))))) ∧
 (((decide (@Eq ByteArray (Sym.name x_8) n)) = false) →
 ((i64 (x_7 + (1 : Int))) ∧
 (∃ (x_13 : Int), (∃ (x_14 : Int), ((x_6 = x_13) ∧
 (((x_7 + (1 : Int)) = x_14) ∧
 ((x_6 = x_13) ∧
 ((@Eq (List Sym) (symsAt l x_6) (symsAt l x_13)) ∧
 (((LN (symsAt l x_6)) = (LN (symsAt l x_13))) ∧
 ((@Eq ByteArray n n) ∧
 ((b = b) ∧
 ((@Eq (List Objt) l l) ∧
 (((LN l) = (LN l)) ∧
 (((0 : Int) = (0 : Int)) ∧
 (((0 : Int) = (0 : Int)) ∧
 (((0 ≤ x_13) ∧
 ((x_13 < (LN l)) ∧
 ((0 ≤ x_14) ∧
 ((x_14 ≤ (LN (symsAt l x_13))) ∧
 ((@Eq (Option Given) (fbO n b l (0 : Int)) (fbO n b (List.drop (Int.toNat x_13) l) x_13)) ∧
 ((@ixF Sym (bdS n b) (symsAt l x_13) (0 : Int)) = (@ixF Sym (bdS n b) (List.drop (Int.toNat x_14) (symsAt l x_13)) x_14))))))) ∧
 (((((List.length l) - (Int.toNat x_13)) * 1000) + (Int.toNat (100 - x_14))) < ((((List.length l) - (Int.toNat x_6)) * 1000) + (Int.toNat (100 - x_7)))))))))))))))))))))))))) ∧
 (((decide (x_7 < (LN (symsAt l x_6)))) = false) →
 ((i64 (x_6 + (1 : Int))) ∧
 (∃ (x_15 : Int), (((x_6 + (1 : Int)) = x_15) ∧
 ((@Eq ByteArray n n) ∧
 ((b = b) ∧
 ((@Eq (List Objt) l l) ∧
 (((LN l) = (LN l)) ∧
 (((0 : Int) = (0 : Int)) ∧
 (((0 : Int) = (0 : Int)) ∧
 (((0 ≤ x_15) ∧
 ((x_15 ≤ (LN l)) ∧
 (@Eq (Option Given) (fbO n b l (0 : Int)) (fbO n b (List.drop (Int.toNat x_15) l) x_15)))) ∧
 (((List.length l) - (Int.toNat x_15)) < ((List.length l) - (Int.toNat x_2))))))))))))))))))))))))))))))))))))))) ∧
 (((decide (x_2 < (LN l))) = false) →
 ((0 = (Given.in_ (@Option.getD Given (fbO n b l (0 : Int)) (Given.mk (0 : Int) (0 : Int))))) ∧
 ((0 = (Given.at_ (@Option.getD Given (fbO n b l (0 : Int)) (Given.mk (0 : Int) (0 : Int))))) ∧
 ((false = (@Option.isSome Given (fbO n b l (0 : Int)))) ∧
 True)))))))))) := by kernel_rfl
theorem det_impl_findBound : C_impl_findBound.det = true → ∀ x, (C_impl_findBound.out x).Det := fun _ x => by simp only [C_impl_findBound]; repeat (first | exact Det.ret _ | exact Det.vc' | apply Det.req | apply Det.giv | apply Det.fork | apply Det.bif' | intro _)
set_option maxRecDepth 200000 in
set_option maxHeartbeats 4000000 in
theorem ok_impl_findBound : ConOK Try.prog 109 C_impl_findBound := by
  refine con_mk (wr := false) (ty := tyL tys_) (l := L_impl_findBound) trivial Try.checked.mixed (fn := Try.f109) (body := Try.f109.body.getD .skip) Try.func109 rfl (by decide) (by kernel_rfl) rfl an_impl_findBound fun x ho hx => ?_
  obtain ⟨l, n, b, ⟨⟩⟩ := x
  refine Keeps.of (vc_impl_findBound l n b) ?_
  revert l n b ho hx
  show ∀ (l : List (Objt)) (n : ByteArray) (b : Int), _
  intro l n b ho hx
  dsimp only [C_impl_findBound, okPTL, okPT, Ok, Ty.cells, SN.cells, OkL, OkC, okI, ci, cb, cs, cl] at ho
  dsimp only [C_impl_findBound, vc, v1, decB, SR.pre] at hx
  have hs := @symsAt_eq l
  have hy := @symsAt_len l hx.1
  have h1 := @fbO_step n b l
  have h2 := @fbO_end n b l
  have h3 := fun k j => @ixF_at _ (bdS n b) (symsAt l k) j
  have h4 := fun k j => @ixF_end _ (bdS n b) (symsAt l k) j
  (try delta i64 LN); simp only [VBt]; (repeat' first | intro _ | apply And.intro); all_goals (try omega)
  all_goals (try grind [bdS])
def C_impl_findName : Con := { ps := [.ro (.list (.st .obj)), .ro .str], out := fun x => let l : List (Objt) := x.1; let n : ByteArray := x.2.1; .req (l.all objB = true) (gvR (fnd l n)), det := true }
abbrev L_impl_findName : List (Nat × Con) := [(109, C_impl_findBound)]
def G_impl_findName : Cfg := mkG (tyL tys_) L_impl_findName false
def an_impl_findName : PTL C_impl_findName.ps → Nat → Option Ann := fun _ _ => none
set_option maxRecDepth 200000 in
theorem vc_impl_findName (l : List (Objt)) (n : ByteArray) : (keeps Try.prog G_impl_findName (an_impl_findName (l, n, ())) (Try.f87.body.getD .skip) Try.f87.results.toList C_impl_findName (l, n, ())) = ((((@List.all Objt l objB) = true) ∧
 ((((@Option.isSome Given (fbO n (1 : Int) l (0 : Int))) = true) →
 (((Given.in_ (@Option.getD Given (fbO n (1 : Int) l (0 : Int)) (Given.mk (0 : Int) (0 : Int)))) = (Given.in_ (@Option.getD Given (fnd l n) (Given.mk (0 : Int) (0 : Int))))) ∧
 (((Given.at_ (@Option.getD Given (fbO n (1 : Int) l (0 : Int)) (Given.mk (0 : Int) (0 : Int)))) = (Given.at_ (@Option.getD Given (fnd l n) (Given.mk (0 : Int) (0 : Int))))) ∧
 ((true = (@Option.isSome Given (fnd l n))) ∧
 True)))) ∧
 (((@Option.isSome Given (fbO n (1 : Int) l (0 : Int))) = false) →
 (((@List.all Objt l objB) = true) ∧
 (((Given.in_ (@Option.getD Given (fbO n (2 : Int) l (0 : Int)) (Given.mk (0 : Int) (0 : Int)))) = (Given.in_ (@Option.getD Given (fnd l n) (Given.mk (0 : Int) (0 : Int))))) ∧
 (((Given.at_ (@Option.getD Given (fbO n (2 : Int) l (0 : Int)) (Given.mk (0 : Int) (0 : Int)))) = (Given.at_ (@Option.getD Given (fnd l n) (Given.mk (0 : Int) (0 : Int))))) ∧
 (((@Option.isSome Given (fbO n (2 : Int) l (0 : Int))) = (@Option.isSome Given (fnd l n))) ∧
 True)))))))) := by kernel_rfl
theorem det_impl_findName : C_impl_findName.det = true → ∀ x, (C_impl_findName.out x).Det := fun _ x => by simp only [C_impl_findName]; repeat (first | exact Det.ret _ | exact Det.vc' | apply Det.req | apply Det.giv | apply Det.fork | apply Det.bif' | intro _)
set_option maxRecDepth 200000 in
set_option maxHeartbeats 4000000 in
theorem ok_impl_findName : ConOK Try.prog 87 C_impl_findName := by
  refine con_mk (wr := false) (ty := tyL tys_) (l := L_impl_findName) ⟨⟨ok_impl_findBound, det_impl_findBound⟩, trivial⟩ Try.checked.mixed (fn := Try.f87) (body := Try.f87.body.getD .skip) Try.func87 rfl (by decide) (by kernel_rfl) rfl an_impl_findName fun x ho hx => ?_
  obtain ⟨l, n, ⟨⟩⟩ := x
  refine Keeps.of (vc_impl_findName l n) ?_
  revert l n ho hx
  show ∀ (l : List (Objt)) (n : ByteArray), _
  intro l n ho hx
  dsimp only [C_impl_findName, okPTL, okPT, Ok, Ty.cells, SN.cells, OkL, OkC, okI, ci, cb, cs, cl] at ho
  dsimp only [C_impl_findName, vc, v1, decB, SR.pre] at hx
  (try delta i64 LN); simp only [VBt]; (repeat' first | intro _ | apply And.intro); all_goals (try omega)
  all_goals (try grind [fnd_if])
def C_impl_FindName : Con := { ps := [.ro (.list (.st .obj)), .ro .str], out := fun x => let l : List (Objt) := x.1; let n : ByteArray := x.2.1; gvR (fndV l n), det := true }
abbrev L_impl_FindName : List (Nat × Con) := [(89, C_impl_ObjectsValid), (87, C_impl_findName)]
def G_impl_FindName : Cfg := mkG (tyL tys_) L_impl_FindName false
def an_impl_FindName : PTL C_impl_FindName.ps → Nat → Option Ann := fun _ _ => none
set_option maxRecDepth 200000 in
theorem vc_impl_FindName (l : List (Objt)) (n : ByteArray) : (keeps Try.prog G_impl_FindName (an_impl_FindName (l, n, ())) (Try.f39.body.getD .skip) Try.f39.results.toList C_impl_FindName (l, n, ())) = (((((Bool.not (objsB l)) = true) →
 ((0 = (Given.in_ (@Option.getD Given (fndV l n) (Given.mk (0 : Int) (0 : Int))))) ∧
 ((0 = (Given.at_ (@Option.getD Given (fndV l n) (Given.mk (0 : Int) (0 : Int))))) ∧
 ((false = (@Option.isSome Given (fndV l n))) ∧
 True)))) ∧
 (((Bool.not (objsB l)) = false) →
 (((@List.all Objt l objB) = true) ∧
 (((Given.in_ (@Option.getD Given (fnd l n) (Given.mk (0 : Int) (0 : Int)))) = (Given.in_ (@Option.getD Given (fndV l n) (Given.mk (0 : Int) (0 : Int))))) ∧
 (((Given.at_ (@Option.getD Given (fnd l n) (Given.mk (0 : Int) (0 : Int)))) = (Given.at_ (@Option.getD Given (fndV l n) (Given.mk (0 : Int) (0 : Int))))) ∧
 (((@Option.isSome Given (fnd l n)) = (@Option.isSome Given (fndV l n))) ∧
 True))))))) := by kernel_rfl
theorem det_impl_FindName : C_impl_FindName.det = true → ∀ x, (C_impl_FindName.out x).Det := fun _ x => by simp only [C_impl_FindName]; repeat (first | exact Det.ret _ | exact Det.vc' | apply Det.req)
set_option maxRecDepth 200000 in
set_option maxHeartbeats 4000000 in
theorem ok_impl_FindName : ConOK Try.prog 39 C_impl_FindName := by
  refine con_mk (wr := false) (ty := tyL tys_) (l := L_impl_FindName) ⟨⟨ok_impl_ObjectsValid, det_impl_ObjectsValid⟩, ⟨⟨ok_impl_findName, det_impl_findName⟩, trivial⟩⟩ Try.checked.mixed (fn := Try.f39) (body := Try.f39.body.getD .skip) Try.func39 rfl (by decide) (by kernel_rfl) rfl an_impl_FindName fun x ho hx => ?_
  obtain ⟨l, n, ⟨⟩⟩ := x
  refine Keeps.of (vc_impl_FindName l n) ?_
  revert l n ho hx
  show ∀ (l : List (Objt)) (n : ByteArray), _
  intro l n ho hx
  dsimp only [C_impl_FindName, okPTL, okPT, Ok, Ty.cells, SN.cells, OkL, OkC, okI, ci, cb, cs, cl] at ho
  dsimp only [C_impl_FindName, vc, v1, decB, SR.pre] at hx
  have h := @objsB_all l
  (try delta i64 LN); simp only [VBt]; (repeat' first | intro _ | apply And.intro); all_goals (try omega); all_goals (try grind [fndV])
def C_spec_l11Given : Con := { ps := [.ro (.list (.st .obj)), .ro .str], out := fun x => let l : List (Objt) := x.1; let n : ByteArray := x.2.1; .req (l.all objB = true ∧ l.length ≤ 1000) (.ret { val := .tup [(true, (SN.cells .given ((fnd l n).getD ⟨0, 0⟩)).map .c), (false, [.c (ci (cntS l n))]), (false, [.c (cb (fnd l n).isSome)])] }), det := true }
abbrev L_spec_l11Given : List (Nat × Con) := []
def G_spec_l11Given : Cfg := mkG (tyL tys_) L_spec_l11Given false
def an_spec_l11Given : PTL C_spec_l11Given.ps → Nat → Option Ann := fun x kk_ => let l : List (Objt) := x.1; let n : ByteArray := x.2.1; if kk_ = 5 then some (.all (Int) fun k => .all (Int) fun a => .all (Bool) fun f => .all (Given) fun g => .giv (0 ≤ k ∧ k ≤ l.length ∧ 0 ≤ a ∧ a ≤ 12 * k ∧ gvO n l 0 ⟨⟨0, 0⟩, 0, false⟩ = gvO n (l.drop k.toNat) k ⟨g, a, f⟩) (.mk [(7, aref 31), (8, ai a), (9, ab f), (10, ai k), (4, aref 30), (0, al (.st .obj) l), (1, ax n)] [(30, bx (ast .given ⟨0, 0⟩)), (31, bx (ast .given g))] ((l.length - k.toNat)))) else if kk_ = 2008 then some (.all (Int) fun k => .all (Int) fun j => .all (Int) fun a => .all (Bool) fun f => .all (Given) fun g => .giv (0 ≤ k ∧ k < l.length ∧ 0 ≤ j ∧ j ≤ (symsAt l k).length ∧ 0 ≤ a ∧ a ≤ 12 * k + j ∧ gvO n l 0 ⟨⟨0, 0⟩, 0, false⟩ = gvO n (l.drop (k + 1).toNat) (k + 1) (gvS n k ((symsAt l k).drop j.toNat) j ⟨g, a, f⟩)) (.mk [(7, aref 31), (8, ai a), (9, ab f), (10, ai k), (11, ai j), (4, aref 30), (0, al (.st .obj) l), (1, ax n)] [(30, bx (ast .given ⟨0, 0⟩)), (31, bx (ast .given g))] ((l.length - k.toNat) * 1000 + (100 - j).toNat))) else none
set_option maxRecDepth 200000 in
theorem vc_spec_l11Given (l : List (Objt)) (n : ByteArray) : (keeps Try.prog G_spec_l11Given (an_spec_l11Given (l, n, ())) (Try.f83.body.getD .skip) Try.f83.results.toList C_spec_l11Given (l, n, ())) = (((∃ (x_1 : Int), (∃ (x_2 : Int), (∃ (x_3 : Bool), (∃ (x_4 : Given), ((0 = x_2) ∧
 ((false = x_3) ∧
 ((0 = x_1) ∧
 ((@Eq (List Objt) l l) ∧
 ((@Eq ByteArray n n) ∧
 (((0 : Int) = (0 : Int)) ∧
 (((0 : Int) = (0 : Int)) ∧
 ((0 = (Given.in_ x_4)) ∧
 ((0 = (Given.at_ x_4)) ∧
 (((0 ≤ x_1) ∧
 ((x_1 ≤ (LN l)) ∧
 ((0 ≤ x_2) ∧
 ((x_2 ≤ (12 * x_1)) ∧
 (@Eq Gv (gvO n l (0 : Int) (Gv.mk (Given.mk (0 : Int) (0 : Int)) (0 : Int) false)) (gvO n (List.drop (Int.toNat x_1) l) x_1 (Gv.mk x_4 x_2 x_3))))))) ∧
 True)))))))))))))) ∧
 (∀ (x_5 : Int), (∀ (x_6 : Int), (∀ (x_7 : Bool), (∀ (x_8 : Given), (((0 ≤ x_5) ∧
 ((x_5 ≤ (LN l)) ∧
 ((0 ≤ x_6) ∧
 ((x_6 ≤ (12 * x_5)) ∧
 (@Eq Gv (gvO n l (0 : Int) (Gv.mk (Given.mk (0 : Int) (0 : Int)) (0 : Int) false)) (gvO n (List.drop (Int.toNat x_5) l) x_5 (Gv.mk x_8 x_6 x_7))))))) →
 (((List.length l) ≤ 9223372036854775807) →
 ((((decide (x_5 < (LN l))) = true) →
 (∃ (x_9 : Int), (∃ (x_10 : Int), (∃ (x_11 : Int), (∃ (x_12 : Bool), (∃ (x_13 : Given), ((x_6 = x_11) ∧
 ((x_7 = x_12) ∧
 ((x_5 = x_9) ∧
 ((0 = x_10) ∧
 ((@Eq (List Objt) l l) ∧
 ((@Eq ByteArray n n) ∧
 (((0 : Int) = (0 : Int)) ∧
 (((0 : Int) = (0 : Int)) ∧
 (((Given.in_ x_8) = (Given.in_ x_13)) ∧
 (((Given.at_ x_8) = (Given.at_ x_13)) ∧
 (((0 ≤ x_9) ∧
 ((x_9 < (LN l)) ∧
 ((0 ≤ x_10) ∧
 ((x_10 ≤ (LN (symsAt l x_9))) ∧
 ((0 ≤ x_11) ∧
 ((x_11 ≤ ((12 * x_9) + x_10)) ∧
 (@Eq Gv (gvO n l (0 : Int) (Gv.mk (Given.mk (0 : Int) (0 : Int)) (0 : Int) false)) (gvO n (List.drop (Int.toNat (x_9 + (1 : Int))) l) (x_9 + (1 : Int)) (gvS n x_9 (List.drop (Int.toNat x_10) (symsAt l x_9)) x_10 (Gv.mk x_13 x_11 x_12)))))))))) ∧
 (∀ (x_14 : Int), (∀ (x_15 : Int), (∀ (x_16 : Int), (∀ (x_17 : Bool), (∀ (x_18 : Given), (((0 ≤ x_14) ∧
 ((x_14 < (LN l)) ∧
 ((0 ≤ x_15) ∧
 ((x_15 ≤ (LN (symsAt l x_14))) ∧
 ((0 ≤ x_16) ∧
 ((x_16 ≤ ((12 * x_14) + x_15)) ∧
 (@Eq Gv (gvO n l (0 : Int) (Gv.mk (Given.mk (0 : Int) (0 : Int)) (0 : Int) false)) (gvO n (List.drop (Int.toNat (x_14 + (1 : Int))) l) (x_14 + (1 : Int)) (gvS n x_14 (List.drop (Int.toNat x_15) (symsAt l x_14)) x_15 (Gv.mk x_18 x_16 x_17)))))))))) →
 ((((((List.length l) - (Int.toNat x_14)) * 1000) + (Int.toNat (100 - x_15))) ≤ ((((List.length l) - (Int.toNat x_9)) * 1000) + (Int.toNat (100 - x_10)))) →
 (((0 ≤ x_14) ∧
 (x_14 < (LN l))) ∧
 (∀ (x_19 : Objt), ((@Eq (Option Objt) (l)[(Int.toNat x_14)]? (some x_19)) →
 ((Ok (Ty.st SN.obj) x_19) →
 (((List.length (Objt.syms x_19)) ≤ 9223372036854775807) →
 ((((decide (x_15 < (LN (Objt.syms x_19)))) = true) →
 (((0 ≤ x_14) ∧
 (x_14 < (LN l))) ∧
 (∀ (x_20 : Objt), ((@Eq (Option Objt) (l)[(Int.toNat x_14)]? (some x_20)) →
 ((Ok (Ty.st SN.obj) x_20) →
 (((0 ≤ x_15) ∧
 (x_15 < (LN (Objt.syms x_20)))) ∧
 (∀ (x_21 : Sym), ((@Eq (Option Sym) ((Objt.syms x_20))[(Int.toNat x_15)]? (some x_21)) →
 ((Ok (Ty.st SN.sym) x_21) →
 ((((decide ((Sym.name x_21) ≠ n)) = true) →
 ((i64 (x_15 + (1 : Int))) ∧
 (∃ (x_22 : Int), (∃ (x_23 : Int), (∃ (x_24 : Int), (∃ (x_25 : Bool), (∃ (x_26 : Given), ((x_16 = x_24) ∧
 ((x_17 = x_25) ∧
 ((x_14 = x_22) ∧
 (((x_15 + (1 : Int)) = x_23) ∧
 ((@Eq (List Objt) l l) ∧
 ((@Eq ByteArray n n) ∧
 (((0 : Int) = (0 : Int)) ∧
 (((0 : Int) = (0 : Int)) ∧
 (((Given.in_ x_18) = (Given.in_ x_26)) ∧
 (((Given.at_ x_18) = (Given.at_ x_26)) ∧
 (((0 ≤ x_22) ∧
 ((x_22 < (LN l)) ∧
 ((0 ≤ x_23) ∧
 ((x_23 ≤ (LN (symsAt l x_22))) ∧
 ((0 ≤ x_24) ∧
 ((x_24 ≤ ((12 * x_22) + x_23)) ∧
 (@Eq Gv (gvO n l (0 : Int) (Gv.mk (Given.mk (0 : Int) (0 : Int)) (0 : Int) false)) (gvO n (List.drop (Int.toNat (x_22 + (1 : Int))) l) (x_22 + (1 : Int)) (gvS n x_22 (List.drop (Int.toNat x_23) (symsAt l x_22)) x_23 (Gv.mk x_26 x_24 x_25)))))))))) ∧
 (((((List.length l) - (Int.toNat x_22)) * 1000) + (Int.toNat (100 - x_23))) < ((((List.length l) - (Int.toNat x_14)) * 1000) + (Int.toNat (100 - x_15)))))))))))))))))))))) ∧
 (((decide ((Sym.name x_21) ≠ n)) = false) →
 ((((decide ((Sym.bind x_21) = 0)) = true) →
 ((i64 (x_15 + (1 : Int))) ∧
 (∃ (x_27 : Int), (∃ (x_28 : Int), (∃ (x_29 : Int), (∃ (x_30 : Bool), (∃ (x_31 : Given), ((x_16 = x_29) ∧
 ((x_17 = x_30) ∧
 ((x_14 = x_27) ∧
 (((x_15 + (1 : Int)) = x_28) ∧
 ((@Eq (List Objt) l l) ∧
 ((@Eq ByteArray n n) ∧
 (((0 : Int) = (0 : Int)) ∧
 (((0 : Int) = (0 : Int)) ∧
 (((Given.in_ x_18) = (Given.in_ x_31)) ∧
 (((Given.at_ x_18) = (Given.at_ x_31)) ∧
 (((0 ≤ x_27) ∧
 ((x_27 < (LN l)) ∧
 ((0 ≤ x_28) ∧
 ((x_28 ≤ (LN (symsAt l x_27))) ∧
 ((0 ≤ x_29) ∧
 ((x_29 ≤ ((12 * x_27) + x_28)) ∧
 (@Eq Gv (gvO n l (0 : Int) (Gv.mk (Given.mk (0 : Int) (0 : Int)) (0 : Int) false)) (gvO n (List.drop (Int.toNat (x_27 + (1 : Int))) l) (x_27 + (1 : Int)) (gvS n x_27 (List.drop (Int.toNat x_28) (symsAt l x_27)) x_28 (Gv.mk x_31 x_29 x_30)))))))))) ∧
 (((((List.length l) - (Int.toNat x_27)) * 1000) + (Int.toNat (100 - x_28))) < ((((List.length l) - (Int.toNat x_14)) * 1000) + (Int.toNat (100 - x_15)))))))))))))))))))))) ∧
 (((decide ((Sym.bind x_21) = 0)) = false) →
 ((((decide ((Sym.wher x_21) = (- (1 : Int)))) = true) →
 ((i64 (x_15 + (1 : Int))) ∧
 (∃ (x_32 : Int), (∃ (x_33 : Int), (∃ (x_34 : Int), (∃ (x_35 : Bool), (∃ (x_36 : Given), ((x_16 = x_34) ∧
 ((x_17 = x_35) ∧
 ((x_14 = x_32) ∧
 (((x_15 + (1 : Int)) = x_33) ∧
 ((@Eq (List Objt) l l) ∧
 ((@Eq ByteArray n n) ∧
 (((0 : Int) = (0 : Int)) ∧
 (((0 : Int) = (0 : Int)) ∧
 (((Given.in_ x_18) = (Given.in_ x_36)) ∧
 (((Given.at_ x_18) = (Given.at_ x_36)) ∧
 (((0 ≤ x_32) ∧
 ((x_32 < (LN l)) ∧
 ((0 ≤ x_33) ∧
 ((x_33 ≤ (LN (symsAt l x_32))) ∧
 ((0 ≤ x_34) ∧
 ((x_34 ≤ ((12 * x_32) + x_33)) ∧
 (@Eq Gv (gvO n l (0 : Int) (Gv.mk (Given.mk (0 : Int) (0 : Int)) (0 : Int) false)) (gvO n (List.drop (Int.toNat (x_32 + (1 : Int))) l) (x_32 + (1 : Int)) (gvS n x_32 (List.drop (Int.toNat x_33) (symsAt l x_32)) x_33 (Gv.mk x_36 x_34 x_35)))))))))) ∧
 (((((List.length l) - (Int.toNat x_32)) * 1000) + (Int.toNat (100 - x_33))) < ((((List.length l) - (Int.toNat x_14)) * 1000) + (Int.toNat (100 - x_15)))))))))))))))))))))) ∧
 (((decide ((Sym.wher x_21) = (- (1 : Int)))) = false) →
 ((((decide ((Sym.bind x_21) = 1)) = true) →
 ((((decide (x_16 = (0 : Int))) = true) →
 ((((decide ((Sym.bind x_21) = 1)) = true) →
 ((i64 (x_16 + (1 : Int))) ∧
 ((i64 (x_15 + (1 : Int))) ∧
 (∃ (x_37 : Int), (∃ (x_38 : Int), (∃ (x_39 : Int), (∃ (x_40 : Bool), (∃ (x_41 : Given), (((x_16 + (1 : Int)) = x_39) ∧
 ((true = x_40) ∧
 ((x_14 = x_37) ∧
 (((x_15 + (1 : Int)) = x_38) ∧
 ((@Eq (List Objt) l l) ∧
 ((@Eq ByteArray n n) ∧
 (((0 : Int) = (0 : Int)) ∧
 (((0 : Int) = (0 : Int)) ∧
 ((x_14 = (Given.in_ x_41)) ∧
 ((x_15 = (Given.at_ x_41)) ∧
 (((0 ≤ x_37) ∧
 ((x_37 < (LN l)) ∧
 ((0 ≤ x_38) ∧
 ((x_38 ≤ (LN (symsAt l x_37))) ∧
 ((0 ≤ x_39) ∧
 ((x_39 ≤ ((12 * x_37) + x_38)) ∧
 (@Eq Gv (gvO n l (0 : Int) (Gv.mk (Given.mk (0 : Int) (0 : Int)) (0 : Int) false)) (gvO n (List.drop (Int.toNat (x_37 + (1 : Int))) l) (x_37 + (1 : Int)) (gvS n x_37 (List.drop (Int.toNat x_38) (symsAt l x_37)) x_38 (Gv.mk x_41 x_39 x_40)))))))))) ∧
 (((((List.length l) - (Int.toNat x_37)) * 1000) + (Int.toNat (100 - x_38))) < ((((List.length l) - (Int.toNat x_14)) * 1000) + (Int.toNat (100 - x_15))))))))))))))))))))))) ∧
 (((decide ((Sym.bind x_21) = 1)) = false) →
 ((i64 (x_15 + (1 : Int))) ∧
 (∃ (x_42 : Int), (∃ (x_43 : Int), (∃ (x_44 : Int), (∃ (x_45 : Bool), (∃ (x_46 : Given), ((x_16 = x_44) ∧
 ((true = x_45) ∧
 ((x_14 = x_42) ∧
 (((x_15 + (1 : Int)) = x_43) ∧
 ((@Eq (List Objt) l l) ∧
 ((@Eq ByteArray n n) ∧
 (((0 : Int) = (0 : Int)) ∧
 (((0 : Int) = (0 : Int)) ∧
 ((x_14 = (Given.in_ x_46)) ∧
 ((x_15 = (Given.at_ x_46)) ∧
 (((0 ≤ x_42) ∧
 ((x_42 < (LN l)) ∧
 ((0 ≤ x_43) ∧
 ((x_43 ≤ (LN (symsAt l x_42))) ∧
 ((0 ≤ x_44) ∧
 ((x_44 ≤ ((12 * x_42) + x_43)) ∧
 (@Eq Gv (gvO n l (0 : Int) (Gv.mk (Given.mk (0 : Int) (0 : Int)) (0 : Int) false)) (gvO n (List.drop (Int.toNat (x_42 + (1 : Int))) l) (x_42 + (1 : Int)) (gvS n x_42 (List.drop (Int.toNat x_43) (symsAt l x_42)) x_43 (Gv.mk x_46 x_44 x_45)))))))))) ∧
 (((((List.length l) - (Int.toNat x_42)) * 1000) + (Int.toNat (100 - x_43))) < ((((List.length l) - (Int.toNat x_14)) * 1000) + (Int.toNat (100 - x_15)))))))))))))))))))))))) ∧
 (((decide (x_16 = (0 : Int))) = false) →
 ((((Bool.not x_17) = true) →
 ((((decide ((Sym.bind x_21) = 1)) = true) →
 ((i64 (x_16 + (1 : Int))) ∧
 ((i64 (x_15 + (1 : Int))) ∧
 (∃ (x_47 : Int), (∃ (x_48 : Int), (∃ (x_49 : Int), (∃ (x_50 : Bool), (∃ (x_51 : Given), (((x_16 + (1 : Int)) = x_49) ∧
 ((true = x_50) ∧
 ((x_14 = x_47) ∧
 (((x_15 + (1 : Int)) = x_48) ∧
 ((@Eq (List Objt) l l) ∧
 ((@Eq ByteArray n n) ∧
 (((0 : Int) = (0 : Int)) ∧
 (((0 : Int) = (0 : Int)) ∧
 ((x_14 = (Given.in_ x_51)) ∧
 ((x_15 = (Given.at_ x_51)) ∧
 (((0 ≤ x_47) ∧
 ((x_47 < (LN l)) ∧
 ((0 ≤ x_48) ∧
 ((x_48 ≤ (LN (symsAt l x_47))) ∧
 ((0 ≤ x_49) ∧
 ((x_49 ≤ ((12 * x_47) + x_48)) ∧
 (@Eq Gv (gvO n l (0 : Int) (Gv.mk (Given.mk (0 : Int) (0 : Int)) (0 : Int) false)) (gvO n (List.drop (Int.toNat (x_47 + (1 : Int))) l) (x_47 + (1 : Int)) (gvS n x_47 (List.drop (Int.toNat x_48) (symsAt l x_47)) x_48 (Gv.mk x_51 x_49 x_50)))))))))) ∧
 (((((List.length l) - (Int.toNat x_47)) * 1000) + (Int.toNat (100 - x_48))) < ((((List.length l) - (Int.toNat x_14)) * 1000) + (Int.toNat (100 - x_15))))))))))))))))))))))) ∧
 (((decide ((Sym.bind x_21) = 1)) = false) →
 ((i64 (x_15 + (1 : Int))) ∧
 (∃ (x_52 : Int), (∃ (x_53 : Int), (∃ (x_54 : Int), (∃ (x_55 : Bool), (∃ (x_56 : Given), ((x_16 = x_54) ∧
 ((true = x_55) ∧
 ((x_14 = x_52) ∧
 (((x_15 + (1 : Int)) = x_53) ∧
 ((@Eq (List Objt) l l) ∧
 ((@Eq ByteArray n n) ∧
 (((0 : Int) = (0 : Int)) ∧
 (((0 : Int) = (0 : Int)) ∧
 ((x_14 = (Given.in_ x_56)) ∧
 ((x_15 = (Given.at_ x_56)) ∧
 (((0 ≤ x_52) ∧
 ((x_52 < (LN l)) ∧
 ((0 ≤ x_53) ∧
 ((x_53 ≤ (LN (symsAt l x_52))) ∧
 ((0 ≤ x_54) ∧
 ((x_54 ≤ ((12 * x_52) + x_53)) ∧
 (@Eq Gv (gvO n l (0 : Int) (Gv.mk (Given.mk (0 : Int) (0 : Int)) (0 : Int) false)) (gvO n (List.drop (Int.toNat (x_52 + (1 : Int))) l) (x_52 + (1 : Int)) (gvS n x_52 (List.drop (Int.toNat x_53) (symsAt l x_52)) x_53 (Gv.mk x_56 x_54 x_55)))))))))) ∧
 (((((List.length l) - (Int.toNat x_52)) * 1000) + (Int.toNat (100 - x_53))) < ((((List.length l) - (Int.toNat x_14)) * 1000) + (Int.toNat (100 - x_15)))))))))))))))))))))))) ∧
 (((Bool.not x_17) = false) →
 ((((decide ((Sym.bind x_21) = 1)) = true) →
 ((i64 (x_16 + (1 : Int))) ∧
 ((i64 (x_15 + (1 : Int))) ∧
 (∃ (x_57 : Int), (∃ (x_58 : Int), (∃ (x_59 : Int), (∃ (x_60 : Bool), (∃ (x_61 : Given), (((x_16 + (1 : Int)) = x_59) ∧
 ((true = x_60) ∧
 ((x_14 = x_57) ∧
 (((x_15 + (1 : Int)) = x_58) ∧
 ((@Eq (List Objt) l l) ∧
 ((@Eq ByteArray n n) ∧
 (((0 : Int) = (0 : Int)) ∧
 (((0 : Int) = (0 : Int)) ∧
 (((Given.in_ x_18) = (Given.in_ x_61)) ∧
 (((Given.at_ x_18) = (Given.at_ x_61)) ∧
 (((0 ≤ x_57) ∧
 ((x_57 < (LN l)) ∧
 ((0 ≤ x_58) ∧
 ((x_58 ≤ (LN (symsAt l x_57))) ∧
 ((0 ≤ x_59) ∧
 ((x_59 ≤ ((12 * x_57) + x_58)) ∧
 (@Eq Gv (gvO n l (0 : Int) (Gv.mk (Given.mk (0 : Int) (0 : Int)) (0 : Int) false)) (gvO n (List.drop (Int.toNat (x_57 + (1 : Int))) l) (x_57 + (1 : Int)) (gvS n x_57 (List.drop (Int.toNat x_58) (symsAt l x_57)) x_58 (Gv.mk x_61 x_59 x_60)))))))))) ∧
 (((((List.length l) - (Int.toNat x_57)) * 1000) + (Int.toNat (100 - x_58))) < ((((List.length l) - (Int.toNat x_14)) * 1000) + (Int.toNat (100 - x_15))))))))))))))))))))))) ∧
 (((decide ((Sym.bind x_21) = 1)) = false) →
 ((i64 (x_15 + (1 : Int))) ∧
 (∃ (x_62 : Int), (∃ (x_63 : Int), (∃ (x_64 : Int), (∃ (x_65 : Bool), (∃ (x_66 : Given), ((x_16 = x_64) ∧
 ((true = x_65) ∧
 ((x_14 = x_62) ∧
 (((x_15 + (1 : Int)) = x_63) ∧
 ((@Eq (List Objt) l l) ∧
 ((@Eq ByteArray n n) ∧
 (((0 : Int) = (0 : Int)) ∧
 (((0 : Int) = (0 : Int)) ∧
 (((Given.in_ x_18) = (Given.in_ x_66)) ∧
 (((Given.at_ x_18) = (Given.at_ x_66)) ∧
 (((0 ≤ x_62) ∧
 ((x_62 < (LN l)) ∧
 ((0 ≤ x_63) ∧
 ((x_63 ≤ (LN (symsAt l x_62))) ∧
 ((0 ≤ x_64) ∧
 ((x_64 ≤ ((12 * x_62) + x_63)) ∧
 (@Eq Gv (gvO n l (0 : Int) (Gv.mk (Given.mk (0 : Int) (0 : Int)) (0 : Int) false)) (gvO n (List.drop (Int.toNat (x_62 + (1 : Int))) l) (x_62 + (1 : Int)) (gvS n x_62 (List.drop (Int.toNat x_63) (symsAt l x_62)) x_63 (Gv.mk x_66 x_64 x_65)))))))))) ∧
 (((((List.length l) - (Int.toNat x_62)) * 1000) + (Int.toNat (100 - x_63))) < ((((List.length l) - (Int.toNat x_14)) * 1000) + (Int.toNat (100 - x_15)))))))))))))))))))))))))))) ∧
 (((decide ((Sym.bind x_21) = 1)) = false) →
 ((((Bool.not x_17) = true) →
 ((((decide ((Sym.bind x_21) = 1)) = true) →
 ((i64 (x_16 + (1 : Int))) ∧
 ((i64 (x_15 + (1 : Int))) ∧
 (∃ (x_67 : Int), (∃ (x_68 : Int), (∃ (x_69 : Int), (∃ (x_70 : Bool), (∃ (x_71 : Given), (((x_16 + (1 : Int)) = x_69) ∧
 ((true = x_70) ∧
 ((x_14 = x_67) ∧
 (((x_15 + (1 : Int)) = x_68) ∧
 ((@Eq (List Objt) l l) ∧
 ((@Eq ByteArray n n) ∧
 (((0 : Int) = (0 : Int)) ∧
 (((0 : Int) = (0 : Int)) ∧
 ((x_14 = (Given.in_ x_71)) ∧
 ((x_15 = (Given.at_ x_71)) ∧
 (((0 ≤ x_67) ∧
 ((x_67 < (LN l)) ∧
 ((0 ≤ x_68) ∧
 ((x_68 ≤ (LN (symsAt l x_67))) ∧
 ((0 ≤ x_69) ∧
 ((x_69 ≤ ((12 * x_67) + x_68)) ∧
 (@Eq Gv (gvO n l (0 : Int) (Gv.mk (Given.mk (0 : Int) (0 : Int)) (0 : Int) false)) (gvO n (List.drop (Int.toNat (x_67 + (1 : Int))) l) (x_67 + (1 : Int)) (gvS n x_67 (List.drop (Int.toNat x_68) (symsAt l x_67)) x_68 (Gv.mk x_71 x_69 x_70)))))))))) ∧
 (((((List.length l) - (Int.toNat x_67)) * 1000) + (Int.toNat (100 - x_68))) < ((((List.length l) - (Int.toNat x_14)) * 1000) + (Int.toNat (100 - x_15))))))))))))))))))))))) ∧
 (((decide ((Sym.bind x_21) = 1)) = false) →
 ((i64 (x_15 + (1 : Int))) ∧
 (∃ (x_72 : Int), (∃ (x_73 : Int), (∃ (x_74 : Int), (∃ (x_75 : Bool), (∃ (x_76 : Given), ((x_16 = x_74) ∧
 ((true = x_75) ∧
 ((x_14 = x_72) ∧
 (((x_15 + (1 : Int)) = x_73) ∧
 ((@Eq (List Objt) l l) ∧
 ((@Eq ByteArray n n) ∧
 (((0 : Int) = (0 : Int)) ∧
 (((0 : Int) = (0 : Int)) ∧
 ((x_14 = (Given.in_ x_76)) ∧
 ((x_15 = (Given.at_ x_76)) ∧
 (((0 ≤ x_72) ∧
 ((x_72 < (LN l)) ∧
 ((0 ≤ x_73) ∧
 ((x_73 ≤ (LN (symsAt l x_72))) ∧
 ((0 ≤ x_74) ∧
 ((x_74 ≤ ((12 * x_72) + x_73)) ∧
 (@Eq Gv (gvO n l (0 : Int) (Gv.mk (Given.mk (0 : Int) (0 : Int)) (0 : Int) false)) (gvO n (List.drop (Int.toNat (x_72 + (1 : Int))) l) (x_72 + (1 : Int)) (gvS n x_72 (List.drop (Int.toNat x_73) (symsAt l x_72)) x_73 (Gv.mk x_76 x_74 x_75)))))))))) ∧
 (((((List.length l) - (Int.toNat x_72)) * 1000) + (Int.toNat (100 - x_73))) < ((((List.length l) - (Int.toNat x_14)) * 1000) + (Int.toNat (100 - x_15)))))))))))))))))))))))) ∧
 (((Bool.not x_17) = false) →
 ((((decide ((Sym.bind x_21) = 1)) = true) →
 ((i64 (x_16 + (1 : Int))) ∧
 ((i64 (x_15 + (1 : Int))) ∧
 (∃ (x_77 : Int), (∃ (x_78 : Int), (∃ (x_79 : Int), (∃ (x_80 : Bool), (∃ (x_81 : Given), (((x_16 + (1 : Int)) = x_79) ∧
 ((true = x_80) ∧
 ((x_14 = x_77) ∧
 (((x_15 + (1 : Int)) = x_78) ∧
 ((@Eq (List Objt) l l) ∧
 ((@Eq ByteArray n n) ∧
 (((0 : Int) = (0 : Int)) ∧
 (((0 : Int) = (0 : Int)) ∧
 (((Given.in_ x_18) = (Given.in_ x_81)) ∧
 (((Given.at_ x_18) = (Given.at_ x_81)) ∧
 (((0 ≤ x_77) ∧
 ((x_77 < (LN l)) ∧
 ((0 ≤ x_78) ∧
 ((x_78 ≤ (LN (symsAt l x_77))) ∧
 ((0 ≤ x_79) ∧
 ((x_79 ≤ ((12 * x_77) + x_78)) ∧
 (@Eq Gv (gvO n l (0 : Int) (Gv.mk (Given.mk (0 : Int) (0 : Int)) (0 : Int) false)) (gvO n (List.drop (Int.toNat (x_77 + (1 : Int))) l) (x_77 + (1 : Int)) (gvS n x_77 (List.drop (Int.toNat x_78) (symsAt l x_77)) x_78 (Gv.mk x_81 x_79 x_80)))))))))) ∧
 (((((List.length l) - (Int.toNat x_77)) * 1000) + (Int.toNat (100 - x_78))) < ((((List.length l) - (Int.toNat x_14)) * 1000) + (Int.toNat (100 - x_15))))))))))))))))))))))) ∧
 (((decide ((Sym.bind x_21) = 1)) = false) →
 ((i64 (x_15 + (1 : Int))) ∧
 (∃ (x_82 : Int), (∃ (x_83 : Int), (∃ (x_84 : Int), (∃ (x_85 : Bool), (∃ (x_86 : Given), ((x_16 = x_84) ∧
 ((true = x_85) ∧
 ((x_14 = x_82) ∧
 (((x_15 + (1 : Int)) = x_83) ∧
 ((@Eq (List Objt) l l) ∧
 ((@Eq ByteArray n n) ∧
 (((0 : Int) = (0 : Int)) ∧
 (((0 : Int) = (0 : Int)) ∧
 (((Given.in_ x_18) = (Given.in_ x_86)) ∧
 (((Given.at_ x_18) = (Given.at_ x_86)) ∧
 (((0 ≤ x_82) ∧
 ((x_82 < (LN l)) ∧
 ((0 ≤ x_83) ∧
 ((x_83 ≤ (LN (symsAt l x_82))) ∧
 ((0 ≤ x_84) ∧
 ((x_84 ≤ ((12 * x_82) + x_83)) ∧
 (@Eq Gv (gvO n l (0 : Int) (Gv.mk (Given.mk (0 : Int) (0 : Int)) (0 : Int) false)) (gvO n (List.drop (Int.toNat (x_82 + (1 : Int))) l) (x_82 + (1 : Int)) (gvS n x_82 (List.drop (Int.toNat x_83) (symsAt l x_82)) x_83 (Gv.mk x_86 x_84 x_85)))))))))) ∧
 (((((List.length l) - (Int.toNat x_82)) * 1000) + (Int.toNat (100 - x_83))) < ((((List.length l) - (Int.toNat x_14)) * 1000) + (Int.toNat (100 - x_15)))))))))))))))))))))))))))))))))))))))))) ∧
 (((decide (x_15 < (LN (Objt.syms x_19)))) = false) →
 ((i64 (x_14 + (1 : Int))) ∧
 (∃ (x_87 : Int), (∃ (x_88 : Int), (∃ (x_89 : Bool), (∃ (x_90 : Given), ((x_16 = x_88) ∧
 ((x_17 = x_89) ∧
 (((x_14 + (1 : Int)) = x_87) ∧
 ((@Eq (List Objt) l l) ∧
 ((@Eq ByteArray n n) ∧
 (((0 : Int) = (0 : Int)) ∧
 (((0 : Int) = (0 : Int)) ∧
 (((Given.in_ x_18) = (Given.in_ x_90)) ∧
 (((Given.at_ x_18) = (Given.at_ x_90)) ∧
 (((0 ≤ x_87) ∧
 ((x_87 ≤ (LN l)) ∧
 ((0 ≤ x_88) ∧
 ((x_88 ≤ (12 * x_87)) ∧
 (@Eq Gv (gvO n l (0 : Int) (Gv.mk (Given.mk (0 : Int) (0 : Int)) (0 : Int) false)) (gvO n (List.drop (Int.toNat x_87) l) x_87 (Gv.mk x_90 x_88 x_89))))))) ∧
 (((List.length l) - (Int.toNat x_87)) < ((List.length l) - (Int.toNat x_5))))))))))))))))))))))))))))))))))))))))))))))))) ∧
 (((decide (x_5 < (LN l))) = false) →
 (((Given.in_ x_8) = (Given.in_ (@Option.getD Given (fnd l n) (Given.mk (0 : Int) (0 : Int))))) ∧
 (((Given.at_ x_8) = (Given.at_ (@Option.getD Given (fnd l n) (Given.mk (0 : Int) (0 : Int))))) ∧
 ((x_6 = (cntS l n)) ∧
 ((x_7 = (@Option.isSome Given (fnd l n))) ∧
 True)))))))))))))) := by kernel_rfl
theorem det_spec_l11Given : C_spec_l11Given.det = true → ∀ x, (C_spec_l11Given.out x).Det := fun _ x => by simp only [C_spec_l11Given]; repeat (first | exact Det.ret _ | exact Det.vc' | apply Det.req | apply Det.giv | apply Det.fork | apply Det.bif' | intro _)
set_option maxRecDepth 200000 in
set_option maxHeartbeats 4000000 in
theorem ok_spec_l11Given : ConOK Try.prog 83 C_spec_l11Given := by
  refine con_mk (wr := false) (ty := tyL tys_) (l := L_spec_l11Given) trivial Try.checked.mixed (fn := Try.f83) (body := Try.f83.body.getD .skip) Try.func83 rfl (by decide) (by kernel_rfl) rfl an_spec_l11Given fun x ho hx => ?_
  obtain ⟨l, n, ⟨⟩⟩ := x
  refine Keeps.of (vc_spec_l11Given l n) ?_
  revert l n ho hx
  show ∀ (l : List (Objt)) (n : ByteArray), _
  intro l n ho hx
  dsimp only [C_spec_l11Given, okPTL, okPT, Ok, Ty.cells, SN.cells, OkL, OkC, okI, ci, cb, cs, cl] at ho
  dsimp only [C_spec_l11Given, vc, v1, decB, SR.pre] at hx
  have hs := @symsAt_eq l
  have hy := @symsAt_len l hx.1.1
  have h0 := @gv_all n l hx.1.1
  have h1 := @gvO_step' n l
  have h2 := @gvO_end n l
  have h3 := fun k j => @gvS_at n k (symsAt l k) j
  have h4 := fun k j => @gvS_end n k (symsAt l k) j
  (try delta i64 LN); simp only [VBt]; (repeat' first | intro _ | apply And.intro); all_goals (try omega)
  all_goals (try grind)
end Go.Proofs.Ytignicccfjdiiaa
