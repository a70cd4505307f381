/- Names that are given twice, names that are missing: both packages keep the same contracts. -/
import Derived.Test.YthkefakjihafeaaRes
set_option linter.unusedVariables false
set_option linter.unusedSimpArgs false
namespace Go.Proofs.Ythkefakjihafeaa
open Go Go.RowKit


/-- Is a name in a list. -/
def inB (l : List ByteArray) (x : ByteArray) : Bool := decide (x ∈ l)
theorem inB_iff {l : List ByteArray} {x : ByteArray} : inB l x = true ↔ x ∈ l := by simp [inB]
theorem inB_any {l : List ByteArray} {x : ByteArray} : decide (0 ≤ ixF (fun y => decide (x = y)) l 0) = inB l x := by
  rw [Bool.eq_iff_iff, decide_eq_true_iff, ixF_any (by omega), List.any_eq_true, inB_iff]; simp
/-- The names of those symbols that fulfil something, up to a symbol of an object. -/
def pA (p : Sym → Bool) (l : List Objt) (k j : Int) : List ByteArray := flt p (l.take k.toNat) ++ symP p ((symsAt l k).take j.toNat)
theorem pA_zero {p : Sym → Bool} {l : List Objt} {k : Int} : pA p l k 0 = flt p (l.take k.toNat) := by simp [pA, symP]
theorem pA_end {p : Sym → Bool} {l : List Objt} {k j : Int} (hk : 0 ≤ k) (hl : k < l.length) (h : ((symsAt l k).length : Int) ≤ j) : pA p l k j = flt p (l.take (k + 1).toNat) := by
  have h' := List.getElem?_eq_getElem (l := l) (i := k.toNat) (by omega)
  rw [flt_next hk h', pA, List.take_of_length_le (l := symsAt l k) (by omega), symsAt_eq h']
theorem pA_hit {p : Sym → Bool} {l : List Objt} {k j : Int} {s : Sym} (hj : 0 ≤ j) (h : (symsAt l k)[j.toNat]? = some s) (hp : p s = true) : pA p l k j ++ [s.name] = pA p l k (j + 1) := by
  rw [pA, pA, symP_next hj h, if_pos hp, List.append_assoc]
theorem pA_miss {p : Sym → Bool} {l : List Objt} {k j : Int} {s : Sym} (hj : 0 ≤ j) (h : (symsAt l k)[j.toNat]? = some s) (hp : p s = false) : pA p l k j = pA p l k (j + 1) := by
  rw [pA, pA, symP_next hj h, if_neg (by simp [hp]), List.append_nil]
theorem pA_len {p : Sym → Bool} {l : List Objt} (h : l.all objB = true) (k j : Int) : (pA p l k j).length ≤ 12 * l.length + 12 := by
  have h1 := flt_tlen (p := p) h k.toNat
  have h2 := symP_tlen (p := p) (l := symsAt l k) (k := j.toNat)
  have h3 := symsAt_len h k
  rw [pA, List.length_append]; omega
theorem flt_len12 {p : Sym → Bool} {l : List Objt} (h : l.all objB = true) (k : Int) : (flt p (l.take k.toNat)).length ≤ 12 * l.length := flt_tlen h _
theorem flt_zero {p : Sym → Bool} {l : List Objt} : flt p (l.take (Int.toNat 0)) = [] := rfl
theorem du_hit {p : Sym → Bool} {l : List Objt} {k j : Int} {s : Sym} (hj : 0 ≤ j) (h : (symsAt l k)[j.toNat]? = some s) (hp : p s = true) (hm : inB (pA p l k j) s.name = true) : dups [] (pA p l k j) ++ [s.name] = dups [] (pA p l k (j + 1)) := by
  rw [← pA_hit hj h hp, dups_snoc, if_pos (inB_iff.1 hm)]
theorem du_new {p : Sym → Bool} {l : List Objt} {k j : Int} {s : Sym} (hj : 0 ≤ j) (h : (symsAt l k)[j.toNat]? = some s) (hp : p s = true) (hm : inB (pA p l k j) s.name = false) : dups [] (pA p l k j) = dups [] (pA p l k (j + 1)) := by
  rw [← pA_hit hj h hp, dups_snoc, if_neg (fun hc => by rw [inB_iff.2 hc] at hm; cases hm), List.append_nil]
theorem du_len {p : Sym → Bool} {l : List Objt} (h : l.all objB = true) (k j : Int) : (dups [] (pA p l k j)).length ≤ 12 * l.length + 12 := Nat.le_trans (dups_len _ _) (pA_len h k j)
theorem du_flt {p : Sym → Bool} {l : List Objt} (h : l.all objB = true) (k : Int) : (dups [] (flt p (l.take k.toNat))).length ≤ 12 * l.length := Nat.le_trans (dups_len _ _) (flt_tlen h _)
/-- The names that an object gives, by its number. -/
def givAt (l : List Objt) (k : Int) : List ByteArray := match l[k.toNat]? with | some o => namesG o | none => []
theorem givAt_eq {l : List Objt} {k : Int} {o : Objt} (h : l[k.toNat]? = some o) : givAt l k = namesG o := by simp [givAt, h]
theorem namesG_12 (o : Objt) : (namesG o).length ≤ 12 := by
  unfold namesG
  split
  · rename_i h
    have h1 := (sortU_len (symP giveS o.syms)).1
    have h2 := symP_len (p := giveS) (l := o.syms)
    have h3 := (objB_lens h).2
    omega
  · simp
theorem givAt_12 (l : List Objt) (k : Int) : (givAt l k).length ≤ 12 := by
  unfold givAt
  split
  · exact namesG_12 _
  · simp
/-- The names that are given twice, up to a name of an object. -/
def tA (l : List Objt) (k j : Int) : List ByteArray := ((l.take k.toNat).flatMap namesG).filter (twP l) ++ ((givAt l k).take j.toNat).filter (twP l)
def tO (l : List Objt) (k : Int) : List ByteArray := ((l.take k.toNat).flatMap namesG).filter (twP l)
theorem tA_zero {l : List Objt} {k : Int} : tA l k 0 = tO l k := by simp [tA, tO]
theorem tO_zero {l : List Objt} : tO l 0 = [] := rfl
theorem tA_end {l : List Objt} {k j : Int} (hk : 0 ≤ k) (hl : k < l.length) (h : ((givAt l k).length : Int) ≤ j) : tA l k j = tO l (k + 1) := by
  have h' := List.getElem?_eq_getElem (l := l) (i := k.toNat) (by omega)
  rw [tA, tO, toNat_succ hk, take_snoc h', List.flatMap_append, List.filter_append, List.take_of_length_le (l := givAt l k) (by omega), givAt_eq h']
  simp
theorem tA_next {l : List Objt} {k j : Int} {n : ByteArray} (hj : 0 ≤ j) (h : (givAt l k)[j.toNat]? = some n) : tA l k (j + 1) = tA l k j ++ (if twP l n = true then [n] else []) := by
  rw [tA, tA, toNat_succ hj, take_snoc h, List.filter_append, List.append_assoc]
  congr 2
  cases hp : twP l n <;> simp [hp]
theorem tS_hit {l : List Objt} {k j : Int} {n : ByteArray} (hj : 0 ≤ j) (h : (givAt l k)[j.toNat]? = some n) (ht : 1 < cntS l n) : insU (sortU (tA l k j)) n = sortU (tA l k (j + 1)) := by
  rw [tA_next hj h, if_pos (by simp [twP, ht]), sortU_snoc]
theorem tS_miss {l : List Objt} {k j : Int} {n : ByteArray} (hj : 0 ≤ j) (h : (givAt l k)[j.toNat]? = some n) (ht : ¬ 1 < cntS l n) : sortU (tA l k j) = sortU (tA l k (j + 1)) := by
  rw [tA_next hj h, if_neg (by simp [twP, ht]), List.append_nil]
theorem tO_len {l : List Objt} (k : Int) : (tO l k).length ≤ 12 * l.length := by
  have h1 : ∀ m : List Objt, (m.flatMap namesG).length ≤ 12 * m.length := fun m => by
    induction m with
    | nil => simp
    | cons o m ih => have := namesG_12 o; simp only [List.flatMap_cons, List.length_append, List.length_cons]; omega
  have h2 := h1 (l.take k.toNat)
  have h3 := List.length_filter_le (twP l) ((l.take k.toNat).flatMap namesG)
  rw [List.length_take] at h2
  unfold tO
  omega
theorem tA_len {l : List Objt} (k j : Int) : (tA l k j).length ≤ 12 * l.length + 12 := by
  have h1 := tO_len (l := l) k
  have h2 := givAt_12 l k
  have h3 := List.length_filter_le (twP l) ((givAt l k).take j.toNat)
  rw [List.length_take] at h3
  unfold tO at h1
  rw [tA, List.length_append]; omega
theorem sortU_le (l : List ByteArray) (n : Nat) (h : l.length ≤ n) : (sortU l).length ≤ n := Nat.le_trans (sortU_len l).1 h
theorem tS_len {l : List Objt} (k j : Int) : (sortU (tA l k j)).length ≤ 12 * l.length + 12 := sortU_le _ _ (tA_len k j)
theorem tSO_len {l : List Objt} (k : Int) : (sortU (tO l k)).length ≤ 12 * l.length := sortU_le _ _ (tO_len k)
theorem pS_len {p : Sym → Bool} {l : List Objt} (h : l.all objB = true) (k j : Int) : (sortU (pA p l k j)).length ≤ 12 * l.length + 12 := sortU_le _ _ (pA_len h k j)
theorem pSO_len {p : Sym → Bool} {l : List Objt} (h : l.all objB = true) (k : Int) : (sortU (flt p (l.take k.toNat))).length ≤ 12 * l.length := sortU_le _ _ (flt_tlen h _)
theorem pS_hit {p : Sym → Bool} {l : List Objt} {k j : Int} {s : Sym} (hj : 0 ≤ j) (h : (symsAt l k)[j.toNat]? = some s) (hp : p s = true) : insU (sortU (pA p l k j)) s.name = sortU (pA p l k (j + 1)) := by
  rw [← pA_hit hj h hp, sortU_snoc]
theorem pS_miss {p : Sym → Bool} {l : List Objt} {k j : Int} {s : Sym} (hj : 0 ≤ j) (h : (symsAt l k)[j.toNat]? = some s) (hp : p s = false) : sortU (pA p l k j) = sortU (pA p l k (j + 1)) := by rw [pA_miss hj h hp]
theorem namesT_end {l : List Objt} {k : Int} (h0 : 0 ≤ k) (h : 0 < k → objsB l = true) (h' : objsB l = false ∨ (l.length : Int) ≤ k) : sortU (tO l k) = namesT l := by
  unfold namesT
  cases ho : objsB l with
  | true =>
    rw [if_pos rfl, nTw_spec (objsB_all ho).1, tO, List.take_of_length_le]
    rcases h' with h' | h'
    · rw [h'] at ho; cases ho
    · omega
  | false =>
    have : k = 0 := by by_cases hk : 0 < k; rw [h hk] at ho; cases ho; omega
    subst this
    rfl
theorem namesM_end {l : List Objt} {k : Int} (h0 : 0 ≤ k) (h : 0 < k → objsB l = true) (h' : objsB l = false ∨ (l.length : Int) ≤ k) : sortU (flt (missS l) (l.take k.toNat)) = namesM l := by
  unfold namesM
  cases ho : objsB l with
  | true =>
    rw [if_pos rfl, nMs, flt_all]
    rcases h' with h' | h'
    · rw [h'] at ho; cases ho
    · exact h'
  | false =>
    have : k = 0 := by by_cases hk : 0 < k; rw [h hk] at ho; cases ho; omega
    subst this
    rfl
theorem nTw_end {l : List Objt} {k : Int} (h : (l.length : Int) ≤ k) : sortU (dups [] (flt strongS (l.take k.toNat))) = nTw l := by rw [nTw, flt_all h]
theorem nMs_end {l : List Objt} {k : Int} (h : (l.length : Int) ≤ k) : sortU (flt (missS l) (l.take k.toNat)) = nMs l := by rw [nMs, flt_all h]
theorem strongS_of {s : Sym} (h : s.bind = 1) (h' : s.wher ≠ -1) : strongS s = true := by simp [strongS, h, h']
theorem strongS_no {s : Sym} (h : s.bind ≠ 1 ∨ s.wher = -1) : strongS s = false := by simp only [strongS, decide_eq_false_iff_not]; rintro ⟨h1, h2⟩; rcases h with h | h <;> contradiction
theorem missS_of {l : List Objt} {s : Sym} (h : s.bind = 1) (h' : s.wher = -1) (hf : (fnd l s.name).isSome = false) : missS l s = true := by
  cases hg : fnd l s.name with
  | some g => rw [hg] at hf; cases hf
  | none => simp [missS, h, h', hg]
theorem missS_no {l : List Objt} {s : Sym} (h : s.bind ≠ 1 ∨ s.wher ≠ -1 ∨ (fnd l s.name).isSome = true) : missS l s = false := by
  unfold missS
  cases hg : fnd l s.name with
  | some g => simp
  | none => rw [hg] at h; simp at h ⊢; intro h1; rcases h with h | h; exact absurd h1 h; exact h
def C_slices_Index_string_string : Con := { ps := [.ro (.list .str), .ro .str], out := fun x => let l : List (ByteArray) := x.1; let v : ByteArray := x.2.1; vc .i (ixF (fun y => decide (v = y)) l 0), det := true }
abbrev L_slices_Index_string_string : List (Nat × Con) := []
def G_slices_Index_string_string : Cfg := mkG (tyL tys_) L_slices_Index_string_string false
def an_slices_Index_string_string : PTL C_slices_Index_string_string.ps → Nat → Option Ann := fun x kk_ => let l : List (ByteArray) := x.1; let v : ByteArray := x.2.1; if kk_ = 2 then some (.all (Int) fun i => .giv (0 ≤ i ∧ i ≤ l.length ∧ ixF (fun y => decide (v = y)) l 0 = ixF (fun y => decide (v = y)) (l.drop i.toNat) i) (.mk [(8, ai i), (0, al .str l), (1, ax v), (7, ai (List.length l))] [] ((l.length - i.toNat)))) else none
set_option maxRecDepth 200000 in
theorem vc_slices_Index_string_string (l : List (ByteArray)) (v : ByteArray) : (keeps Try.prog G_slices_Index_string_string (an_slices_Index_string_string (l, v, ())) (Try.f109.body.getD .skip) Try.f109.results.toList C_slices_Index_string_string (l, v, ())) = ((l.length ≤ 9223372036854775807 →
 (∃ (x_1 : Int), 0 = x_1 ∧ @Eq (List ByteArray) l l ∧ @Eq ByteArray v v ∧ LN l = LN l ∧ (0 ≤ x_1 ∧ x_1 ≤ LN l ∧ @ixF ByteArray (fun (y_2 : ByteArray) => decide (@Eq ByteArray v y_2)) l (0 : Int) = @ixF ByteArray (fun (y_3 : ByteArray) => decide (@Eq ByteArray v y_3)) (l.drop x_1.toNat) x_1) ∧ True) ∧ (∀ (x_4 : Int), 0 ≤ x_4 ∧ x_4 ≤ LN l ∧ @ixF ByteArray (fun (y_5 : ByteArray) => decide (@Eq ByteArray v y_5)) l (0 : Int) = @ixF ByteArray (fun (y_6 : ByteArray) => decide (@Eq ByteArray v y_6)) (l.drop x_4.toNat) x_4 →
 (decide (x_4 < LN l) = true →
 (0 ≤ x_4 ∧ x_4 < LN l) ∧ (∀ (x_7 : ByteArray), l[x_4.toNat]? = some x_7 →
 Ok Ty.str x_7 →
 (decide (@Eq ByteArray v x_7) = true →
 x_4 = @ixF ByteArray (fun (y_8 : ByteArray) => decide (@Eq ByteArray v y_8)) l (0 : Int) ∧ True) ∧ (decide (@Eq ByteArray v x_7) = false →
 i64 (x_4 + 1) ∧ (∃ (x_9 : Int), x_4 + 1 = x_9 ∧ @Eq (List ByteArray) l l ∧ @Eq ByteArray v v ∧ LN l = LN l ∧ (0 ≤ x_9 ∧ x_9 ≤ LN l ∧ @ixF ByteArray (fun (y_10 : ByteArray) => decide (@Eq ByteArray v y_10)) l (0 : Int) = @ixF ByteArray (fun (y_11 : ByteArray) => decide (@Eq ByteArray v y_11)) (l.drop x_9.toNat) x_9) ∧ l.length - x_9.toNat < l.length - x_4.toNat)))) ∧ (decide (x_4 < LN l) = false →
 (- (1 : Int)) = @ixF ByteArray (fun (y_12 : ByteArray) => decide (@Eq ByteArray v y_12)) l (0 : Int) ∧ True)))) := by kernel_rfl
theorem det_slices_Index_string_string : C_slices_Index_string_string.det = true → ∀ x, (C_slices_Index_string_string.out x).Det := fun _ _ => Det.vc'
set_option maxRecDepth 200000 in
set_option maxHeartbeats 4000000 in
theorem ok_slices_Index_string_string : ConOK Try.prog 109 C_slices_Index_string_string := by
  refine con_mk (wr := false) (ty := tyL tys_) (l := L_slices_Index_string_string) trivial Try.checked.mixed (fn := Try.f109) (body := Try.f109.body.getD .skip) Try.func109 rfl (by decide) (by kernel_rfl) rfl an_slices_Index_string_string fun x ho hx => ?_
  obtain ⟨l, v, ⟨⟩⟩ := x
  refine Keeps.of (vc_slices_Index_string_string l v) ?_
  revert l v ho hx
  show ∀ (l : List (ByteArray)) (v : ByteArray), _
  intro l v ho hx
  dsimp only [C_slices_Index_string_string, okPTL, okPT, Ok, Ty.cells, SN.cells, OkL, OkC, okI, ci, cb, cs, cl] at ho
  dsimp only [C_slices_Index_string_string, vc, v1, decB, SR.pre] at hx
  (try delta i64 LN); simp only [VBt]; (repeat' first | intro _ | apply And.intro); all_goals (try omega); all_goals (try have hdr := drop_get' (l := l) (by assumption) (by assumption)); all_goals grind [ixF, drop_end]
def C_slices_Contains_string_string : Con := { ps := [.ro (.list .str), .ro .str], out := fun x => let l : List (ByteArray) := x.1; let v : ByteArray := x.2.1; vc .bool (inB l v), det := true }
abbrev L_slices_Contains_string_string : List (Nat × Con) := [(109, C_slices_Index_string_string)]
def G_slices_Contains_string_string : Cfg := mkG (tyL tys_) L_slices_Contains_string_string false
def an_slices_Contains_string_string : PTL C_slices_Contains_string_string.ps → Nat → Option Ann := fun _ _ => none
set_option maxRecDepth 200000 in
theorem vc_slices_Contains_string_string (l : List (ByteArray)) (v : ByteArray) : (keeps Try.prog G_slices_Contains_string_string (an_slices_Contains_string_string (l, v, ())) (Try.f76.body.getD .skip) Try.f76.results.toList C_slices_Contains_string_string (l, v, ())) = ((decide (0 ≤ @ixF ByteArray (fun (y_1 : ByteArray) => decide (@Eq ByteArray v y_1)) l (0 : Int)) = inB l v ∧ True)) := by kernel_rfl
theorem det_slices_Contains_string_string : C_slices_Contains_string_string.det = true → ∀ x, (C_slices_Contains_string_string.out x).Det := fun _ _ => Det.vc'
set_option maxRecDepth 200000 in
set_option maxHeartbeats 4000000 in
theorem ok_slices_Contains_string_string : ConOK Try.prog 76 C_slices_Contains_string_string := by
  refine con_mk (wr := false) (ty := tyL tys_) (l := L_slices_Contains_string_string) ⟨⟨ok_slices_Index_string_string, det_slices_Index_string_string⟩, trivial⟩ Try.checked.mixed (fn := Try.f76) (body := Try.f76.body.getD .skip) Try.func76 rfl (by decide) (by kernel_rfl) rfl an_slices_Contains_string_string fun x ho hx => ?_
  obtain ⟨l, v, ⟨⟩⟩ := x
  refine Keeps.of (vc_slices_Contains_string_string l v) ?_
  revert l v ho hx
  show ∀ (l : List (ByteArray)) (v : ByteArray), _
  intro l v ho hx
  dsimp only [C_slices_Contains_string_string, okPTL, okPT, Ok, Ty.cells, SN.cells, OkL, OkC, okI, ci, cb, cs, cl] at ho
  dsimp only [C_slices_Contains_string_string, vc, v1, decB, SR.pre] at hx
  have h := @inB_any l v
  (try delta i64 LN); simp only [VBt]; (repeat' first | intro _ | apply And.intro); all_goals (try omega); all_goals grind
def C_impl_namesTwice : Con := { ps := [.ro (.list (.st .obj))], out := fun x => let l : List (Objt) := x.1; .req (l.all objB = true ∧ l.length ≤ 1000) (newL .str (nTw l)), det := true }
abbrev L_impl_namesTwice : List (Nat × Con) := [(76, C_slices_Contains_string_string), (68, C_impl_sorted)]
def G_impl_namesTwice : Cfg := mkG (tyL tys_) L_impl_namesTwice false
def an_impl_namesTwice : PTL C_impl_namesTwice.ps → Nat → Option Ann := fun x kk_ => let l : List (Objt) := x.1; if kk_ = 3 then some (.all (Int) fun k => .giv (0 ≤ k ∧ k ≤ l.length) (.mk [(13, ai k), (3, asl 20), (4, asl 21), (11, al (.st .obj) l), (12, ai (List.length l))] [(20, .row (some 9) .str (dups [] (flt strongS (l.take k.toNat))) true), (21, .row (some 9) .str (flt strongS (l.take k.toNat)) true)] ((l.length - k.toNat)))) else if kk_ = 2006 then some (.all (Int) fun k => .all (Int) fun j => .giv (0 ≤ k ∧ k < l.length ∧ 0 ≤ j ∧ j ≤ (symsAt l k).length) (.mk [(13, ai k), (20, ai j), (18, al (.st .sym) (symsAt l k)), (19, ai (symsAt l k).length), (3, asl 20), (4, asl 21), (11, al (.st .obj) l), (12, ai (List.length l))] [(20, .row (some 9) .str (dups [] (pA strongS l k j)) true), (21, .row (some 9) .str (pA strongS l k j) true)] ((l.length - k.toNat) * 1000 + (100 - j).toNat))) else none
set_option maxRecDepth 200000 in
theorem vc_impl_namesTwice (l : List (Objt)) : (keeps Try.prog G_impl_namesTwice (an_impl_namesTwice (l, ())) (Try.f45.body.getD .skip) Try.f45.results.toList C_impl_namesTwice (l, ())) = ((l.length ≤ 9223372036854775807 →
 (∃ (x_1 : Int), 0 = x_1 ∧ @Eq (List Objt) l l ∧ LN l = LN l ∧ @Eq (List ByteArray) ([] : List ByteArray) (dups ([] : List ByteArray) (flt strongS (l.take x_1.toNat))) ∧ @Eq (List ByteArray) ([] : List ByteArray) (flt strongS (l.take x_1.toNat)) ∧ (0 ≤ x_1 ∧ x_1 ≤ LN l) ∧ True) ∧ (∀ (x_2 : Int), 0 ≤ x_2 ∧ x_2 ≤ LN l →
 (decide (x_2 < LN l) = true →
 (0 ≤ x_2 ∧ x_2 < LN l) ∧ (∀ (x_3 : Objt), l[x_2.toNat]? = some x_3 →
 Ok (Ty.st SN.obj) x_3 →
 (Objt.syms x_3).length ≤ 9223372036854775807 →
 (∃ (x_4 : Int), (∃ (x_5 : Int), x_2 = x_4 ∧ 0 = x_5 ∧ @Eq (List Sym) (Objt.syms x_3) (symsAt l x_4) ∧ LN (Objt.syms x_3) = LN (symsAt l x_4) ∧ @Eq (List Objt) l l ∧ LN l = LN l ∧ @Eq (List ByteArray) (dups ([] : List ByteArray) (flt strongS (l.take x_2.toNat))) (dups ([] : List ByteArray) (pA strongS l x_4 x_5)) ∧ @Eq (List ByteArray) (flt strongS (l.take x_2.toNat)) (pA strongS l x_4 x_5) ∧ (0 ≤ x_4 ∧ x_4 < LN l ∧ 0 ≤ x_5 ∧ x_5 ≤ LN (symsAt l x_4)) ∧ (∀ (x_6 : Int), (∀ (x_7 : Int), 0 ≤ x_6 ∧ x_6 < LN l ∧ 0 ≤ x_7 ∧ x_7 ≤ LN (symsAt l x_6) →
 (l.length - x_6.toNat) * 1000 + (100 - x_7).toNat ≤ (l.length - x_4.toNat) * 1000 + (100 - x_5).toNat →
 (decide (x_7 < LN (symsAt l x_6)) = true →
 (0 ≤ x_7 ∧ x_7 < LN (symsAt l x_6)) ∧ (∀ (x_8 : Sym), (symsAt l x_6)[x_7.toNat]? = some x_8 →
 Ok (Ty.st SN.sym) x_8 →
 (decide (Sym.bind x_8 ≠ 1) = true →
 i64 (x_7 + 1) ∧ (∃ (x_9 : Int), (∃ (x_10 : Int), x_6 = x_9 ∧ x_7 + 1 = x_10 ∧ @Eq (List Sym) (symsAt l x_6) (symsAt l x_9) ∧ LN (symsAt l x_6) = LN (symsAt l x_9) ∧ @Eq (List Objt) l l ∧ LN l = LN l ∧ @Eq (List ByteArray) (dups ([] : List ByteArray) (pA strongS l x_6 x_7)) (dups ([] : List ByteArray) (pA strongS l x_9 x_10)) ∧ @Eq (List ByteArray) (pA strongS l x_6 x_7) (pA strongS l x_9 x_10) ∧ (0 ≤ x_9 ∧ x_9 < LN l ∧ 0 ≤ x_10 ∧ x_10 ≤ LN (symsAt l x_9)) ∧ (l.length - x_9.toNat) * 1000 + (100 - x_10).toNat < (l.length - x_6.toNat) * 1000 + (100 - x_7).toNat))) ∧ (decide (Sym.bind x_8 ≠ 1) = false →
 (decide (Sym.wher x_8 = (- (1 : Int))) = true →
 i64 (x_7 + 1) ∧ (∃ (x_11 : Int), (∃ (x_12 : Int), x_6 = x_11 ∧ x_7 + 1 = x_12 ∧ @Eq (List Sym) (symsAt l x_6) (symsAt l x_11) ∧ LN (symsAt l x_6) = LN (symsAt l x_11) ∧ @Eq (List Objt) l l ∧ LN l = LN l ∧ @Eq (List ByteArray) (dups ([] : List ByteArray) (pA strongS l x_6 x_7)) (dups ([] : List ByteArray) (pA strongS l x_11 x_12)) ∧ @Eq (List ByteArray) (pA strongS l x_6 x_7) (pA strongS l x_11 x_12) ∧ (0 ≤ x_11 ∧ x_11 < LN l ∧ 0 ≤ x_12 ∧ x_12 ≤ LN (symsAt l x_11)) ∧ (l.length - x_11.toNat) * 1000 + (100 - x_12).toNat < (l.length - x_6.toNat) * 1000 + (100 - x_7).toNat))) ∧ (decide (Sym.wher x_8 = (- (1 : Int))) = false →
 (inB (pA strongS l x_6 x_7) (Sym.name x_8) = true →
 (((dups ([] : List ByteArray) (pA strongS l x_6 x_7)).length + [Sym.name x_8].length) * 16 ≤ 140737488355328 ∧ (dups ([] : List ByteArray) (pA strongS l x_6 x_7)).length + [Sym.name x_8].length ≤ 1000000000000) ∧ (((pA strongS l x_6 x_7).length + [Sym.name x_8].length) * 16 ≤ 140737488355328 ∧ (pA strongS l x_6 x_7).length + [Sym.name x_8].length ≤ 1000000000000) ∧ i64 (x_7 + 1) ∧ (∃ (x_13 : Int), (∃ (x_14 : Int), x_6 = x_13 ∧ x_7 + 1 = x_14 ∧ @Eq (List Sym) (symsAt l x_6) (symsAt l x_13) ∧ LN (symsAt l x_6) = LN (symsAt l x_13) ∧ @Eq (List Objt) l l ∧ LN l = LN l ∧ @Eq (List ByteArray) (dups ([] : List ByteArray) (pA strongS l x_6 x_7) ++ [Sym.name x_8]) (dups ([] : List ByteArray) (pA strongS l x_13 x_14)) ∧ @Eq (List ByteArray) (pA strongS l x_6 x_7 ++ [Sym.name x_8]) (pA strongS l x_13 x_14) ∧ (0 ≤ x_13 ∧ x_13 < LN l ∧ 0 ≤ x_14 ∧ x_14 ≤ LN (symsAt l x_13)) ∧ (l.length - x_13.toNat) * 1000 + (100 - x_14).toNat < (l.length - x_6.toNat) * 1000 + (100 - x_7).toNat))) ∧ (inB (pA strongS l x_6 x_7) (Sym.name x_8) = false →
 (((pA strongS l x_6 x_7).length + [Sym.name x_8].length) * 16 ≤ 140737488355328 ∧ (pA strongS l x_6 x_7).length + [Sym.name x_8].length ≤ 1000000000000) ∧ i64 (x_7 + 1) ∧ (∃ (x_15 : Int), (∃ (x_16 : Int), x_6 = x_15 ∧ x_7 + 1 = x_16 ∧ @Eq (List Sym) (symsAt l x_6) (symsAt l x_15) ∧ LN (symsAt l x_6) = LN (symsAt l x_15) ∧ @Eq (List Objt) l l ∧ LN l = LN l ∧ @Eq (List ByteArray) (dups ([] : List ByteArray) (pA strongS l x_6 x_7)) (dups ([] : List ByteArray) (pA strongS l x_15 x_16)) ∧ @Eq (List ByteArray) (pA strongS l x_6 x_7 ++ [Sym.name x_8]) (pA strongS l x_15 x_16) ∧ (0 ≤ x_15 ∧ x_15 < LN l ∧ 0 ≤ x_16 ∧ x_16 ≤ LN (symsAt l x_15)) ∧ (l.length - x_15.toNat) * 1000 + (100 - x_16).toNat < (l.length - x_6.toNat) * 1000 + (100 - x_7).toNat))))))) ∧ (decide (x_7 < LN (symsAt l x_6)) = false →
 i64 (x_6 + 1) ∧ (∃ (x_17 : Int), x_6 + 1 = x_17 ∧ @Eq (List Objt) l l ∧ LN l = LN l ∧ @Eq (List ByteArray) (dups ([] : List ByteArray) (pA strongS l x_6 x_7)) (dups ([] : List ByteArray) (flt strongS (l.take x_17.toNat))) ∧ @Eq (List ByteArray) (pA strongS l x_6 x_7) (flt strongS (l.take x_17.toNat)) ∧ (0 ≤ x_17 ∧ x_17 ≤ LN l) ∧ l.length - x_17.toNat < l.length - x_2.toNat)))))))) ∧ (decide (x_2 < LN l) = false →
 (dups ([] : List ByteArray) (flt strongS (l.take x_2.toNat))).length ≤ 1048576 ∧ @Eq (List ByteArray) (sortU (dups ([] : List ByteArray) (flt strongS (l.take x_2.toNat)))) (nTw l) ∧ True)))) := by kernel_rfl
theorem det_impl_namesTwice : C_impl_namesTwice.det = true → ∀ x, (C_impl_namesTwice.out x).Det := fun _ x => by simp only [C_impl_namesTwice]; repeat (first | exact Det.ret _ | exact Det.vc' | apply Det.req | apply Det.giv | apply Det.fork | apply Det.bif' | intro _)
set_option maxRecDepth 200000 in
set_option maxHeartbeats 4000000 in
theorem ok_impl_namesTwice : ConOK Try.prog 45 C_impl_namesTwice := by
  refine con_mk (wr := false) (ty := tyL tys_) (l := L_impl_namesTwice) ⟨⟨ok_slices_Contains_string_string, det_slices_Contains_string_string⟩, ⟨⟨ok_impl_sorted, det_impl_sorted⟩, trivial⟩⟩ Try.checked.mixed (fn := Try.f45) (body := Try.f45.body.getD .skip) Try.func45 rfl (by decide) (by kernel_rfl) rfl an_impl_namesTwice fun x ho hx => ?_
  obtain ⟨l, ⟨⟩⟩ := x
  refine Keeps.of (vc_impl_namesTwice l) ?_
  revert l ho hx
  show ∀ (l : List (Objt)), _
  intro l ho hx
  dsimp only [C_impl_namesTwice, okPTL, okPT, Ok, Ty.cells, SN.cells, OkL, OkC, okI, ci, cb, cs, cl] at ho
  dsimp only [C_impl_namesTwice, vc, v1, decB, SR.pre] at hx
  have hs := @symsAt_eq l
  have hy := @symsAt_len l hx.1.1
  have a1 := @du_len strongS l hx.1.1
  have a2 := @du_flt strongS l hx.1.1
  have a3 := @pA_len strongS l hx.1.1
  have a4 := @flt_len12 strongS l hx.1.1
  (try delta i64 LN); simp only [VBt]; (repeat' first | intro _ | apply And.intro); all_goals (try omega)
  all_goals first | omega | rfl | exact Eq.symm (by assumption) | exact symsAt_eq (by assumption) | exact (symsAt_eq (by assumption)).symm | (rw [symsAt_eq (by assumption)]; done) | exact pA_zero | exact pA_zero.symm | (rw [pA_zero]) | exact du_hit (by assumption) (by assumption) (strongS_of (by assumption) (by assumption)) (by assumption) | exact du_new (by assumption) (by assumption) (strongS_of (by assumption) (by assumption)) (by assumption) | exact pA_hit (by assumption) (by assumption) (strongS_of (by assumption) (by assumption)) | exact pA_miss (by assumption) (by assumption) (strongS_no (by first | exact .inl (by assumption) | exact .inr (by assumption))) | exact nTw_end (by assumption)  | exact (nTw_end (by assumption)).symm | exact pA_hit (by assumption) (by assumption) (missS_of (by assumption) (by assumption) (by assumption)) | exact pA_miss (by assumption) (by assumption) (missS_no (by first | exact .inl (by assumption) | exact .inr (.inl (by assumption)) | exact .inr (.inr (by assumption)))) | exact nMs_end (by assumption) | exact (nMs_end (by assumption)).symm | skip
  all_goals (try grind [pA_zero, pA_end, du_hit, du_new, pA_hit, pA_miss, nTw_end, strongS_of, strongS_no, symsAt_eq])
def C_impl_NamesTwice : Con := { ps := [.ro (.list (.st .obj))], out := fun x => let l : List (Objt) := x.1; newL .str (namesT l), det := true }
abbrev L_impl_NamesTwice : List (Nat × Con) := [(41, C_impl_ObjectsValid), (45, C_impl_namesTwice)]
def G_impl_NamesTwice : Cfg := mkG (tyL tys_) L_impl_NamesTwice false
def an_impl_NamesTwice : PTL C_impl_NamesTwice.ps → Nat → Option Ann := fun _ _ => none
set_option maxRecDepth 200000 in
theorem vc_impl_NamesTwice (l : List (Objt)) : (keeps Try.prog G_impl_NamesTwice (an_impl_NamesTwice (l, ())) (Try.f17.body.getD .skip) Try.f17.results.toList C_impl_NamesTwice (l, ())) = (((Bool.not (objsB l) = true →
 @Eq (List ByteArray) ([] : List ByteArray) (namesT l) ∧ True) ∧ (Bool.not (objsB l) = false →
 (@List.all Objt l objB = true ∧ l.length ≤ 1000) ∧ @Eq (List ByteArray) (nTw l) (namesT l) ∧ True))) := by kernel_rfl
theorem det_impl_NamesTwice : C_impl_NamesTwice.det = true → ∀ x, (C_impl_NamesTwice.out x).Det := fun _ x => by simp only [C_impl_NamesTwice]; repeat (first | exact Det.ret _ | exact Det.vc' | apply Det.req)
set_option maxRecDepth 200000 in
set_option maxHeartbeats 4000000 in
theorem ok_impl_NamesTwice : ConOK Try.prog 17 C_impl_NamesTwice := by
  refine con_mk (wr := false) (ty := tyL tys_) (l := L_impl_NamesTwice) ⟨⟨ok_impl_ObjectsValid, det_impl_ObjectsValid⟩, ⟨⟨ok_impl_namesTwice, det_impl_namesTwice⟩, trivial⟩⟩ Try.checked.mixed (fn := Try.f17) (body := Try.f17.body.getD .skip) Try.func17 rfl (by decide) (by kernel_rfl) rfl an_impl_NamesTwice fun x ho hx => ?_
  obtain ⟨l, ⟨⟩⟩ := x
  refine Keeps.of (vc_impl_NamesTwice l) ?_
  revert l ho hx
  show ∀ (l : List (Objt)), _
  intro l ho hx
  dsimp only [C_impl_NamesTwice, okPTL, okPT, Ok, Ty.cells, SN.cells, OkL, OkC, okI, ci, cb, cs, cl] at ho
  dsimp only [C_impl_NamesTwice, vc, v1, decB, SR.pre] at hx
  have h := @objsB_all l
  (try delta i64 LN); simp only [VBt]; (repeat' first | intro _ | apply And.intro); all_goals (try omega); all_goals grind [namesT]
def C_spec_NamesTwice : Con := { ps := [.ro (.list (.st .obj))], out := fun x => let l : List (Objt) := x.1; newL .str (namesT l), det := true }
abbrev L_spec_NamesTwice : List (Nat × Con) := [(46, C_spec_ObjectsValid), (13, C_spec_NamesGiven), (47, C_spec_l11Given), (40, C_spec_l2Insert)]
def G_spec_NamesTwice : Cfg := mkG (tyL tys_) L_spec_NamesTwice false
def an_spec_NamesTwice : PTL C_spec_NamesTwice.ps → Nat → Option Ann := fun x kk_ => let l : List (Objt) := x.1; if kk_ = 3 then some (.all (Int) fun k => .giv (0 ≤ k ∧ k ≤ l.length ∧ (0 < k → objsB l = true)) (.mk [(4, ai k), (3, asl 20), (0, al (.st .obj) l)] [(20, .row none .str (sortU (tO l k)) true)] ((l.length - k.toNat)))) else if kk_ = 2007 then some (.all (Int) fun k => .all (Int) fun j => .giv (objsB l = true ∧ 0 ≤ k ∧ k < l.length ∧ 0 ≤ j ∧ j ≤ (givAt l k).length) (.mk [(4, ai k), (6, ai j), (3, asl 20), (5, al .str (givAt l k)), (0, al (.st .obj) l)] [(20, .row none .str (sortU (tA l k j)) true)] ((l.length - k.toNat) * 1000 + (100 - j).toNat))) else none
set_option maxRecDepth 200000 in
theorem vc_spec_NamesTwice (l : List (Objt)) : (keeps Try.prog G_spec_NamesTwice (an_spec_NamesTwice (l, ())) (Try.f18.body.getD .skip) Try.f18.results.toList C_spec_NamesTwice (l, ())) = (((∃ (x_1 : Int), 0 = x_1 ∧ @Eq (List Objt) l l ∧ @Eq (List ByteArray) ([] : List ByteArray) (sortU (tO l x_1)) ∧ (0 ≤ x_1 ∧ x_1 ≤ LN l ∧ (0 < x_1 →
 objsB l = true)) ∧ True) ∧ (∀ (x_2 : Int), 0 ≤ x_2 ∧ x_2 ≤ LN l ∧ (0 < x_2 →
 objsB l = true) →
 l.length ≤ 9223372036854775807 →
 (decide (x_2 < LN l) = true →
 (objsB l = true →
 (0 ≤ x_2 ∧ x_2 < LN l) ∧ (∀ (x_3 : Objt), l[x_2.toNat]? = some x_3 →
 Ok (Ty.st SN.obj) x_3 →
 (∃ (x_4 : Int), (∃ (x_5 : Int), x_2 = x_4 ∧ 0 = x_5 ∧ @Eq (List ByteArray) (namesG x_3) (givAt l x_4) ∧ @Eq (List Objt) l l ∧ @Eq (List ByteArray) (sortU (tO l x_2)) (sortU (tA l x_4 x_5)) ∧ (objsB l = true ∧ 0 ≤ x_4 ∧ x_4 < LN l ∧ 0 ≤ x_5 ∧ x_5 ≤ LN (givAt l x_4)) ∧ (∀ (x_6 : Int), (∀ (x_7 : Int), objsB l = true ∧ 0 ≤ x_6 ∧ x_6 < LN l ∧ 0 ≤ x_7 ∧ x_7 ≤ LN (givAt l x_6) →
 (l.length - x_6.toNat) * 1000 + (100 - x_7).toNat ≤ (l.length - x_4.toNat) * 1000 + (100 - x_5).toNat →
 (givAt l x_6).length ≤ 9223372036854775807 →
 (decide (x_7 < LN (givAt l x_6)) = true →
 (0 ≤ x_7 ∧ x_7 < LN (givAt l x_6)) ∧ (∀ (x_8 : ByteArray), (givAt l x_6)[x_7.toNat]? = some x_8 →
 Ok Ty.str x_8 →
 (@List.all Objt l objB = true ∧ l.length ≤ 1000) ∧ (decide (1 < cntS l x_8) = true →
 (0 ≤ x_7 ∧ x_7 < LN (givAt l x_6)) ∧ (∀ (x_9 : ByteArray), (givAt l x_6)[x_7.toNat]? = some x_9 →
 Ok Ty.str x_9 →
 (sortU (tA l x_6 x_7)).length ≤ 1000000 ∧ (decide (@Eq (List ByteArray) (insU (sortU (tA l x_6 x_7)) x_9) (sortU (tA l x_6 x_7))) = true →
 i64 (x_7 + 1) ∧ (∃ (x_10 : Int), (∃ (x_11 : Int), x_6 = x_10 ∧ x_7 + 1 = x_11 ∧ @Eq (List ByteArray) (givAt l x_6) (givAt l x_10) ∧ @Eq (List Objt) l l ∧ @Eq (List ByteArray) (sortU (tA l x_6 x_7)) (sortU (tA l x_10 x_11)) ∧ (objsB l = true ∧ 0 ≤ x_10 ∧ x_10 < LN l ∧ 0 ≤ x_11 ∧ x_11 ≤ LN (givAt l x_10)) ∧ (l.length - x_10.toNat) * 1000 + (100 - x_11).toNat < (l.length - x_6.toNat) * 1000 + (100 - x_7).toNat))) ∧ (decide (@Eq (List ByteArray) (insU (sortU (tA l x_6 x_7)) x_9) (sortU (tA l x_6 x_7))) = false →
 i64 (x_7 + 1) ∧ (∃ (x_12 : Int), (∃ (x_13 : Int), x_6 = x_12 ∧ x_7 + 1 = x_13 ∧ @Eq (List ByteArray) (givAt l x_6) (givAt l x_12) ∧ @Eq (List Objt) l l ∧ @Eq (List ByteArray) (insU (sortU (tA l x_6 x_7)) x_9) (sortU (tA l x_12 x_13)) ∧ (objsB l = true ∧ 0 ≤ x_12 ∧ x_12 < LN l ∧ 0 ≤ x_13 ∧ x_13 ≤ LN (givAt l x_12)) ∧ (l.length - x_12.toNat) * 1000 + (100 - x_13).toNat < (l.length - x_6.toNat) * 1000 + (100 - x_7).toNat))))) ∧ (decide (1 < cntS l x_8) = false →
 i64 (x_7 + 1) ∧ (∃ (x_14 : Int), (∃ (x_15 : Int), x_6 = x_14 ∧ x_7 + 1 = x_15 ∧ @Eq (List ByteArray) (givAt l x_6) (givAt l x_14) ∧ @Eq (List Objt) l l ∧ @Eq (List ByteArray) (sortU (tA l x_6 x_7)) (sortU (tA l x_14 x_15)) ∧ (objsB l = true ∧ 0 ≤ x_14 ∧ x_14 < LN l ∧ 0 ≤ x_15 ∧ x_15 ≤ LN (givAt l x_14)) ∧ (l.length - x_14.toNat) * 1000 + (100 - x_15).toNat < (l.length - x_6.toNat) * 1000 + (100 - x_7).toNat))))) ∧ (decide (x_7 < LN (givAt l x_6)) = false →
 i64 (x_6 + 1) ∧ (∃ (x_16 : Int), x_6 + 1 = x_16 ∧ @Eq (List Objt) l l ∧ @Eq (List ByteArray) (sortU (tA l x_6 x_7)) (sortU (tO l x_16)) ∧ (0 ≤ x_16 ∧ x_16 ≤ LN l ∧ (0 < x_16 →
 objsB l = true)) ∧ l.length - x_16.toNat < l.length - x_2.toNat)))))))) ∧ (objsB l = false →
 @Eq (List ByteArray) (sortU (tO l x_2)) (namesT l) ∧ True)) ∧ (decide (x_2 < LN l) = false →
 @Eq (List ByteArray) (sortU (tO l x_2)) (namesT l) ∧ True)))) := by kernel_rfl
theorem det_spec_NamesTwice : C_spec_NamesTwice.det = true → ∀ x, (C_spec_NamesTwice.out x).Det := fun _ x => by simp only [C_spec_NamesTwice]; repeat (first | exact Det.ret _ | exact Det.vc' | apply Det.req)
set_option maxRecDepth 200000 in
set_option maxHeartbeats 4000000 in
theorem ok_spec_NamesTwice : ConOK Try.prog 18 C_spec_NamesTwice := by
  refine con_mk (wr := false) (ty := tyL tys_) (l := L_spec_NamesTwice) ⟨⟨ok_spec_ObjectsValid, det_spec_ObjectsValid⟩, ⟨⟨ok_spec_NamesGiven, det_spec_NamesGiven⟩, ⟨⟨ok_spec_l11Given, det_spec_l11Given⟩, ⟨⟨ok_spec_l2Insert, det_spec_l2Insert⟩, trivial⟩⟩⟩⟩ Try.checked.mixed (fn := Try.f18) (body := Try.f18.body.getD .skip) Try.func18 rfl (by decide) (by kernel_rfl) rfl an_spec_NamesTwice fun x ho hx => ?_
  obtain ⟨l, ⟨⟩⟩ := x
  refine Keeps.of (vc_spec_NamesTwice l) ?_
  revert l ho hx
  show ∀ (l : List (Objt)), _
  intro l ho hx
  dsimp only [C_spec_NamesTwice, okPTL, okPT, Ok, Ty.cells, SN.cells, OkL, OkC, okI, ci, cb, cs, cl] at ho
  dsimp only [C_spec_NamesTwice, vc, v1, decB, SR.pre] at hx
  have h := @objsB_all l
  have h0 := givAt_12 l
  have h1 := @tS_hit l
  have h2 := @tS_miss l
  have h3 := @namesT_end l
  have h4 := @tS_len l
  have h5 := @tSO_len l
  have h6 := @tA_end l
  have h7 := @tA_zero l
  have h8 := @givAt_eq l
  (try delta i64 LN); simp only [VBt]; (repeat' first | intro _ | apply And.intro); all_goals (try omega)
  all_goals (try grind [tO_zero, sortU])
def C_impl_namesMissing : Con := { ps := [.ro (.list (.st .obj))], out := fun x => let l : List (Objt) := x.1; .req (l.all objB = true ∧ l.length ≤ 1000) (newL .str (nMs l)), det := true }
abbrev L_impl_namesMissing : List (Nat × Con) := [(42, C_impl_findName), (68, C_impl_sorted)]
def G_impl_namesMissing : Cfg := mkG (tyL tys_) L_impl_namesMissing false
def an_impl_namesMissing : PTL C_impl_namesMissing.ps → Nat → Option Ann := fun x kk_ => let l : List (Objt) := x.1; if kk_ = 3 then some (.all (Int) fun k => .giv (0 ≤ k ∧ k ≤ l.length) (.mk [(13, ai k), (3, asl 20), (0, al (.st .obj) l), (11, al (.st .obj) l), (12, ai (List.length l))] [(20, .row (some 9) .str (flt (missS l) (l.take k.toNat)) true)] ((l.length - k.toNat)))) else if kk_ = 2006 then some (.all (Int) fun k => .all (Int) fun j => .giv (0 ≤ k ∧ k < l.length ∧ 0 ≤ j ∧ j ≤ (symsAt l k).length) (.mk [(13, ai k), (20, ai j), (18, al (.st .sym) (symsAt l k)), (19, ai (symsAt l k).length), (3, asl 20), (0, al (.st .obj) l), (11, al (.st .obj) l), (12, ai (List.length l))] [(20, .row (some 9) .str (pA (missS l) l k j) true)] ((l.length - k.toNat) * 1000 + (100 - j).toNat))) else none
set_option maxRecDepth 200000 in
theorem vc_impl_namesMissing (l : List (Objt)) : (keeps Try.prog G_impl_namesMissing (an_impl_namesMissing (l, ())) (Try.f48.body.getD .skip) Try.f48.results.toList C_impl_namesMissing (l, ())) = ((l.length ≤ 9223372036854775807 →
 (∃ (x_1 : Int), 0 = x_1 ∧ @Eq (List Objt) l l ∧ @Eq (List Objt) l l ∧ LN l = LN l ∧ @Eq (List ByteArray) ([] : List ByteArray) (flt (missS l) (l.take x_1.toNat)) ∧ (0 ≤ x_1 ∧ x_1 ≤ LN l) ∧ True) ∧ (∀ (x_2 : Int), 0 ≤ x_2 ∧ x_2 ≤ LN l →
 (decide (x_2 < LN l) = true →
 (0 ≤ x_2 ∧ x_2 < LN l) ∧ (∀ (x_3 : Objt), l[x_2.toNat]? = some x_3 →
 Ok (Ty.st SN.obj) x_3 →
 (Objt.syms x_3).length ≤ 9223372036854775807 →
 (∃ (x_4 : Int), (∃ (x_5 : Int), x_2 = x_4 ∧ 0 = x_5 ∧ @Eq (List Sym) (Objt.syms x_3) (symsAt l x_4) ∧ LN (Objt.syms x_3) = LN (symsAt l x_4) ∧ @Eq (List Objt) l l ∧ @Eq (List Objt) l l ∧ LN l = LN l ∧ @Eq (List ByteArray) (flt (missS l) (l.take x_2.toNat)) (pA (missS l) l x_4 x_5) ∧ (0 ≤ x_4 ∧ x_4 < LN l ∧ 0 ≤ x_5 ∧ x_5 ≤ LN (symsAt l x_4)) ∧ (∀ (x_6 : Int), (∀ (x_7 : Int), 0 ≤ x_6 ∧ x_6 < LN l ∧ 0 ≤ x_7 ∧ x_7 ≤ LN (symsAt l x_6) →
 (l.length - x_6.toNat) * 1000 + (100 - x_7).toNat ≤ (l.length - x_4.toNat) * 1000 + (100 - x_5).toNat →
 (decide (x_7 < LN (symsAt l x_6)) = true →
 (0 ≤ x_7 ∧ x_7 < LN (symsAt l x_6)) ∧ (∀ (x_8 : Sym), (symsAt l x_6)[x_7.toNat]? = some x_8 →
 Ok (Ty.st SN.sym) x_8 →
 @List.all Objt l objB = true ∧ (decide (Sym.bind x_8 = 1) = true →
 (decide (Sym.wher x_8 = (- (1 : Int))) = true →
 (Bool.not (@Option.isSome Given (fnd l (Sym.name x_8))) = true →
 (((pA (missS l) l x_6 x_7).length + [Sym.name x_8].length) * 16 ≤ 140737488355328 ∧ (pA (missS l) l x_6 x_7).length + [Sym.name x_8].length ≤ 1000000000000) ∧ i64 (x_7 + 1) ∧ (∃ (x_9 : Int), (∃ (x_10 : Int), x_6 = x_9 ∧ x_7 + 1 = x_10 ∧ @Eq (List Sym) (symsAt l x_6) (symsAt l x_9) ∧ LN (symsAt l x_6) = LN (symsAt l x_9) ∧ @Eq (List Objt) l l ∧ @Eq (List Objt) l l ∧ LN l = LN l ∧ @Eq (List ByteArray) (pA (missS l) l x_6 x_7 ++ [Sym.name x_8]) (pA (missS l) l x_9 x_10) ∧ (0 ≤ x_9 ∧ x_9 < LN l ∧ 0 ≤ x_10 ∧ x_10 ≤ LN (symsAt l x_9)) ∧ (l.length - x_9.toNat) * 1000 + (100 - x_10).toNat < (l.length - x_6.toNat) * 1000 + (100 - x_7).toNat))) ∧ (Bool.not (@Option.isSome Given (fnd l (Sym.name x_8))) = false →
 i64 (x_7 + 1) ∧ (∃ (x_11 : Int), (∃ (x_12 : Int), x_6 = x_11 ∧ x_7 + 1 = x_12 ∧ @Eq (List Sym) (symsAt l x_6) (symsAt l x_11) ∧ LN (symsAt l x_6) = LN (symsAt l x_11) ∧ @Eq (List Objt) l l ∧ @Eq (List Objt) l l ∧ LN l = LN l ∧ @Eq (List ByteArray) (pA (missS l) l x_6 x_7) (pA (missS l) l x_11 x_12) ∧ (0 ≤ x_11 ∧ x_11 < LN l ∧ 0 ≤ x_12 ∧ x_12 ≤ LN (symsAt l x_11)) ∧ (l.length - x_11.toNat) * 1000 + (100 - x_12).toNat < (l.length - x_6.toNat) * 1000 + (100 - x_7).toNat)))) ∧ (decide (Sym.wher x_8 = (- (1 : Int))) = false →
 i64 (x_7 + 1) ∧ (∃ (x_13 : Int), (∃ (x_14 : Int), x_6 = x_13 ∧ x_7 + 1 = x_14 ∧ @Eq (List Sym) (symsAt l x_6) (symsAt l x_13) ∧ LN (symsAt l x_6) = LN (symsAt l x_13) ∧ @Eq (List Objt) l l ∧ @Eq (List Objt) l l ∧ LN l = LN l ∧ @Eq (List ByteArray) (pA (missS l) l x_6 x_7) (pA (missS l) l x_13 x_14) ∧ (0 ≤ x_13 ∧ x_13 < LN l ∧ 0 ≤ x_14 ∧ x_14 ≤ LN (symsAt l x_13)) ∧ (l.length - x_13.toNat) * 1000 + (100 - x_14).toNat < (l.length - x_6.toNat) * 1000 + (100 - x_7).toNat)))) ∧ (decide (Sym.bind x_8 = 1) = false →
 i64 (x_7 + 1) ∧ (∃ (x_15 : Int), (∃ (x_16 : Int), x_6 = x_15 ∧ x_7 + 1 = x_16 ∧ @Eq (List Sym) (symsAt l x_6) (symsAt l x_15) ∧ LN (symsAt l x_6) = LN (symsAt l x_15) ∧ @Eq (List Objt) l l ∧ @Eq (List Objt) l l ∧ LN l = LN l ∧ @Eq (List ByteArray) (pA (missS l) l x_6 x_7) (pA (missS l) l x_15 x_16) ∧ (0 ≤ x_15 ∧ x_15 < LN l ∧ 0 ≤ x_16 ∧ x_16 ≤ LN (symsAt l x_15)) ∧ (l.length - x_15.toNat) * 1000 + (100 - x_16).toNat < (l.length - x_6.toNat) * 1000 + (100 - x_7).toNat))))) ∧ (decide (x_7 < LN (symsAt l x_6)) = false →
 i64 (x_6 + 1) ∧ (∃ (x_17 : Int), x_6 + 1 = x_17 ∧ @Eq (List Objt) l l ∧ @Eq (List Objt) l l ∧ LN l = LN l ∧ @Eq (List ByteArray) (pA (missS l) l x_6 x_7) (flt (missS l) (l.take x_17.toNat)) ∧ (0 ≤ x_17 ∧ x_17 ≤ LN l) ∧ l.length - x_17.toNat < l.length - x_2.toNat)))))))) ∧ (decide (x_2 < LN l) = false →
 (flt (missS l) (l.take x_2.toNat)).length ≤ 1048576 ∧ @Eq (List ByteArray) (sortU (flt (missS l) (l.take x_2.toNat))) (nMs l) ∧ True)))) := by kernel_rfl
theorem det_impl_namesMissing : C_impl_namesMissing.det = true → ∀ x, (C_impl_namesMissing.out x).Det := fun _ x => by simp only [C_impl_namesMissing]; repeat (first | exact Det.ret _ | exact Det.vc' | apply Det.req | apply Det.giv | apply Det.fork | apply Det.bif' | intro _)
set_option maxRecDepth 200000 in
set_option maxHeartbeats 4000000 in
theorem ok_impl_namesMissing : ConOK Try.prog 48 C_impl_namesMissing := by
  refine con_mk (wr := false) (ty := tyL tys_) (l := L_impl_namesMissing) ⟨⟨ok_impl_findName, det_impl_findName⟩, ⟨⟨ok_impl_sorted, det_impl_sorted⟩, trivial⟩⟩ Try.checked.mixed (fn := Try.f48) (body := Try.f48.body.getD .skip) Try.func48 rfl (by decide) (by kernel_rfl) rfl an_impl_namesMissing fun x ho hx => ?_
  obtain ⟨l, ⟨⟩⟩ := x
  refine Keeps.of (vc_impl_namesMissing l) ?_
  revert l ho hx
  show ∀ (l : List (Objt)), _
  intro l ho hx
  dsimp only [C_impl_namesMissing, okPTL, okPT, Ok, Ty.cells, SN.cells, OkL, OkC, okI, ci, cb, cs, cl] at ho
  dsimp only [C_impl_namesMissing, vc, v1, decB, SR.pre] at hx
  have hs := @symsAt_eq l
  have hy := @symsAt_len l hx.1.1
  have a1 := @du_len (missS l) l hx.1.1
  have a2 := @du_flt (missS l) l hx.1.1
  have a3 := @pA_len (missS l) l hx.1.1
  have a4 := @flt_len12 (missS l) l hx.1.1
  (try delta i64 LN); simp only [VBt]; (repeat' first | intro _ | apply And.intro); all_goals (try omega)
  all_goals first | omega | rfl | exact Eq.symm (by assumption) | exact symsAt_eq (by assumption) | exact (symsAt_eq (by assumption)).symm | (rw [symsAt_eq (by assumption)]; done) | exact pA_zero | exact pA_zero.symm | (rw [pA_zero]) | exact du_hit (by assumption) (by assumption) (strongS_of (by assumption) (by assumption)) (by assumption) | exact du_new (by assumption) (by assumption) (strongS_of (by assumption) (by assumption)) (by assumption) | exact pA_hit (by assumption) (by assumption) (strongS_of (by assumption) (by assumption)) | exact pA_miss (by assumption) (by assumption) (strongS_no (by first | exact .inl (by assumption) | exact .inr (by assumption))) | exact nTw_end (by assumption)  | exact (nTw_end (by assumption)).symm | exact pA_hit (by assumption) (by assumption) (missS_of (by assumption) (by assumption) (by assumption)) | exact pA_miss (by assumption) (by assumption) (missS_no (by first | exact .inl (by assumption) | exact .inr (.inl (by assumption)) | exact .inr (.inr (by assumption)))) | exact nMs_end (by assumption) | exact (nMs_end (by assumption)).symm | skip
  all_goals (try grind [pA_zero, pA_end, pA_hit, pA_miss, nMs_end, missS_of, missS_no, symsAt_eq])
def C_impl_NamesMissing : Con := { ps := [.ro (.list (.st .obj))], out := fun x => let l : List (Objt) := x.1; newL .str (namesM l), det := true }
abbrev L_impl_NamesMissing : List (Nat × Con) := [(41, C_impl_ObjectsValid), (48, C_impl_namesMissing)]
def G_impl_NamesMissing : Cfg := mkG (tyL tys_) L_impl_NamesMissing false
def an_impl_NamesMissing : PTL C_impl_NamesMissing.ps → Nat → Option Ann := fun _ _ => none
set_option maxRecDepth 200000 in
theorem vc_impl_NamesMissing (l : List (Objt)) : (keeps Try.prog G_impl_NamesMissing (an_impl_NamesMissing (l, ())) (Try.f20.body.getD .skip) Try.f20.results.toList C_impl_NamesMissing (l, ())) = (((Bool.not (objsB l) = true →
 @Eq (List ByteArray) ([] : List ByteArray) (namesM l) ∧ True) ∧ (Bool.not (objsB l) = false →
 (@List.all Objt l objB = true ∧ l.length ≤ 1000) ∧ @Eq (List ByteArray) (nMs l) (namesM l) ∧ True))) := by kernel_rfl
theorem det_impl_NamesMissing : C_impl_NamesMissing.det = true → ∀ x, (C_impl_NamesMissing.out x).Det := fun _ x => by simp only [C_impl_NamesMissing]; repeat (first | exact Det.ret _ | exact Det.vc' | apply Det.req)
set_option maxRecDepth 200000 in
set_option maxHeartbeats 4000000 in
theorem ok_impl_NamesMissing : ConOK Try.prog 20 C_impl_NamesMissing := by
  refine con_mk (wr := false) (ty := tyL tys_) (l := L_impl_NamesMissing) ⟨⟨ok_impl_ObjectsValid, det_impl_ObjectsValid⟩, ⟨⟨ok_impl_namesMissing, det_impl_namesMissing⟩, trivial⟩⟩ Try.checked.mixed (fn := Try.f20) (body := Try.f20.body.getD .skip) Try.func20 rfl (by decide) (by kernel_rfl) rfl an_impl_NamesMissing fun x ho hx => ?_
  obtain ⟨l, ⟨⟩⟩ := x
  refine Keeps.of (vc_impl_NamesMissing l) ?_
  revert l ho hx
  show ∀ (l : List (Objt)), _
  intro l ho hx
  dsimp only [C_impl_NamesMissing, okPTL, okPT, Ok, Ty.cells, SN.cells, OkL, OkC, okI, ci, cb, cs, cl] at ho
  dsimp only [C_impl_NamesMissing, vc, v1, decB, SR.pre] at hx
  have h := @objsB_all l
  (try delta i64 LN); simp only [VBt]; (repeat' first | intro _ | apply And.intro); all_goals (try omega); all_goals grind [namesM]
def C_spec_NamesMissing : Con := { ps := [.ro (.list (.st .obj))], out := fun x => let l : List (Objt) := x.1; newL .str (namesM l), det := true }
abbrev L_spec_NamesMissing : List (Nat × Con) := [(46, C_spec_ObjectsValid), (47, C_spec_l11Given), (40, C_spec_l2Insert)]
def G_spec_NamesMissing : Cfg := mkG (tyL tys_) L_spec_NamesMissing false
def an_spec_NamesMissing : PTL C_spec_NamesMissing.ps → Nat → Option Ann := fun x kk_ => let l : List (Objt) := x.1; if kk_ = 3 then some (.all (Int) fun k => .giv (0 ≤ k ∧ k ≤ l.length ∧ (0 < k → objsB l = true)) (.mk [(4, ai k), (3, asl 20), (0, al (.st .obj) l)] [(20, .row none .str (sortU (flt (missS l) (l.take k.toNat))) true)] ((l.length - k.toNat)))) else if kk_ = 2006 then some (.all (Int) fun k => .all (Int) fun j => .giv (objsB l = true ∧ 0 ≤ k ∧ k < l.length ∧ 0 ≤ j ∧ j ≤ (symsAt l k).length) (.mk [(4, ai k), (5, ai j), (3, asl 20), (0, al (.st .obj) l)] [(20, .row none .str (sortU (pA (missS l) l k j)) true)] ((l.length - k.toNat) * 1000 + (100 - j).toNat))) else none
set_option maxRecDepth 200000 in
theorem vc_spec_NamesMissing (l : List (Objt)) : (keeps Try.prog G_spec_NamesMissing (an_spec_NamesMissing (l, ())) (Try.f21.body.getD .skip) Try.f21.results.toList C_spec_NamesMissing (l, ())) = (((∃ (x_1 : Int), 0 = x_1 ∧ @Eq (List Objt) l l ∧ @Eq (List ByteArray) ([] : List ByteArray) (sortU (flt (missS l) (l.take x_1.toNat))) ∧ (0 ≤ x_1 ∧ x_1 ≤ LN l ∧ (0 < x_1 →
 objsB l = true)) ∧ True) ∧ (∀ (x_2 : Int), 0 ≤ x_2 ∧ x_2 ≤ LN l ∧ (0 < x_2 →
 objsB l = true) →
 l.length ≤ 9223372036854775807 →
 (decide (x_2 < LN l) = true →
 (objsB l = true →
 (∃ (x_3 : Int), (∃ (x_4 : Int), x_2 = x_3 ∧ 0 = x_4 ∧ @Eq (List Objt) l l ∧ @Eq (List ByteArray) (sortU (flt (missS l) (l.take x_2.toNat))) (sortU (pA (missS l) l x_3 x_4)) ∧ (objsB l = true ∧ 0 ≤ x_3 ∧ x_3 < LN l ∧ 0 ≤ x_4 ∧ x_4 ≤ LN (symsAt l x_3)) ∧ (∀ (x_5 : Int), (∀ (x_6 : Int), objsB l = true ∧ 0 ≤ x_5 ∧ x_5 < LN l ∧ 0 ≤ x_6 ∧ x_6 ≤ LN (symsAt l x_5) →
 (l.length - x_5.toNat) * 1000 + (100 - x_6).toNat ≤ (l.length - x_3.toNat) * 1000 + (100 - x_4).toNat →
 (0 ≤ x_5 ∧ x_5 < LN l) ∧ (∀ (x_7 : Objt), l[x_5.toNat]? = some x_7 →
 Ok (Ty.st SN.obj) x_7 →
 (Objt.syms x_7).length ≤ 9223372036854775807 →
 (decide (x_6 < LN (Objt.syms x_7)) = true →
 (0 ≤ x_5 ∧ x_5 < LN l) ∧ (∀ (x_8 : Objt), l[x_5.toNat]? = some x_8 →
 Ok (Ty.st SN.obj) x_8 →
 (0 ≤ x_6 ∧ x_6 < LN (Objt.syms x_8)) ∧ (∀ (x_9 : Sym), (Objt.syms x_8)[x_6.toNat]? = some x_9 →
 Ok (Ty.st SN.sym) x_9 →
 (@List.all Objt l objB = true ∧ l.length ≤ 1000) ∧ (decide (Sym.wher x_9 = (- (1 : Int))) = true →
 (decide (Sym.bind x_9 = 1) = true →
 (Bool.not (@Option.isSome Given (fnd l (Sym.name x_9))) = true →
 (sortU (pA (missS l) l x_5 x_6)).length ≤ 1000000 ∧ (decide (@Eq (List ByteArray) (insU (sortU (pA (missS l) l x_5 x_6)) (Sym.name x_9)) (sortU (pA (missS l) l x_5 x_6))) = true →
 i64 (x_6 + 1) ∧ (∃ (x_10 : Int), (∃ (x_11 : Int), x_5 = x_10 ∧ x_6 + 1 = x_11 ∧ @Eq (List Objt) l l ∧ @Eq (List ByteArray) (sortU (pA (missS l) l x_5 x_6)) (sortU (pA (missS l) l x_10 x_11)) ∧ (objsB l = true ∧ 0 ≤ x_10 ∧ x_10 < LN l ∧ 0 ≤ x_11 ∧ x_11 ≤ LN (symsAt l x_10)) ∧ (l.length - x_10.toNat) * 1000 + (100 - x_11).toNat < (l.length - x_5.toNat) * 1000 + (100 - x_6).toNat))) ∧ (decide (@Eq (List ByteArray) (insU (sortU (pA (missS l) l x_5 x_6)) (Sym.name x_9)) (sortU (pA (missS l) l x_5 x_6))) = false →
 i64 (x_6 + 1) ∧ (∃ (x_12 : Int), (∃ (x_13 : Int), x_5 = x_12 ∧ x_6 + 1 = x_13 ∧ @Eq (List Objt) l l ∧ @Eq (List ByteArray) (insU (sortU (pA (missS l) l x_5 x_6)) (Sym.name x_9)) (sortU (pA (missS l) l x_12 x_13)) ∧ (objsB l = true ∧ 0 ≤ x_12 ∧ x_12 < LN l ∧ 0 ≤ x_13 ∧ x_13 ≤ LN (symsAt l x_12)) ∧ (l.length - x_12.toNat) * 1000 + (100 - x_13).toNat < (l.length - x_5.toNat) * 1000 + (100 - x_6).toNat)))) ∧ (Bool.not (@Option.isSome Given (fnd l (Sym.name x_9))) = false →
 i64 (x_6 + 1) ∧ (∃ (x_14 : Int), (∃ (x_15 : Int), x_5 = x_14 ∧ x_6 + 1 = x_15 ∧ @Eq (List Objt) l l ∧ @Eq (List ByteArray) (sortU (pA (missS l) l x_5 x_6)) (sortU (pA (missS l) l x_14 x_15)) ∧ (objsB l = true ∧ 0 ≤ x_14 ∧ x_14 < LN l ∧ 0 ≤ x_15 ∧ x_15 ≤ LN (symsAt l x_14)) ∧ (l.length - x_14.toNat) * 1000 + (100 - x_15).toNat < (l.length - x_5.toNat) * 1000 + (100 - x_6).toNat)))) ∧ (decide (Sym.bind x_9 = 1) = false →
 i64 (x_6 + 1) ∧ (∃ (x_16 : Int), (∃ (x_17 : Int), x_5 = x_16 ∧ x_6 + 1 = x_17 ∧ @Eq (List Objt) l l ∧ @Eq (List ByteArray) (sortU (pA (missS l) l x_5 x_6)) (sortU (pA (missS l) l x_16 x_17)) ∧ (objsB l = true ∧ 0 ≤ x_16 ∧ x_16 < LN l ∧ 0 ≤ x_17 ∧ x_17 ≤ LN (symsAt l x_16)) ∧ (l.length - x_16.toNat) * 1000 + (100 - x_17).toNat < (l.length - x_5.toNat) * 1000 + (100 - x_6).toNat)))) ∧ (decide (Sym.wher x_9 = (- (1 : Int))) = false →
 i64 (x_6 + 1) ∧ (∃ (x_18 : Int), (∃ (x_19 : Int), x_5 = x_18 ∧ x_6 + 1 = x_19 ∧ @Eq (List Objt) l l ∧ @Eq (List ByteArray) (sortU (pA (missS l) l x_5 x_6)) (sortU (pA (missS l) l x_18 x_19)) ∧ (objsB l = true ∧ 0 ≤ x_18 ∧ x_18 < LN l ∧ 0 ≤ x_19 ∧ x_19 ≤ LN (symsAt l x_18)) ∧ (l.length - x_18.toNat) * 1000 + (100 - x_19).toNat < (l.length - x_5.toNat) * 1000 + (100 - x_6).toNat)))))) ∧ (decide (x_6 < LN (Objt.syms x_7)) = false →
 i64 (x_5 + 1) ∧ (∃ (x_20 : Int), x_5 + 1 = x_20 ∧ @Eq (List Objt) l l ∧ @Eq (List ByteArray) (sortU (pA (missS l) l x_5 x_6)) (sortU (flt (missS l) (l.take x_20.toNat))) ∧ (0 ≤ x_20 ∧ x_20 ≤ LN l ∧ (0 < x_20 →
 objsB l = true)) ∧ l.length - x_20.toNat < l.length - x_2.toNat)))))))) ∧ (objsB l = false →
 @Eq (List ByteArray) (sortU (flt (missS l) (l.take x_2.toNat))) (namesM l) ∧ True)) ∧ (decide (x_2 < LN l) = false →
 @Eq (List ByteArray) (sortU (flt (missS l) (l.take x_2.toNat))) (namesM l) ∧ True)))) := by kernel_rfl
theorem det_spec_NamesMissing : C_spec_NamesMissing.det = true → ∀ x, (C_spec_NamesMissing.out x).Det := fun _ x => by simp only [C_spec_NamesMissing]; repeat (first | exact Det.ret _ | exact Det.vc' | apply Det.req)
set_option maxRecDepth 200000 in
set_option maxHeartbeats 4000000 in
theorem ok_spec_NamesMissing : ConOK Try.prog 21 C_spec_NamesMissing := by
  refine con_mk (wr := false) (ty := tyL tys_) (l := L_spec_NamesMissing) ⟨⟨ok_spec_ObjectsValid, det_spec_ObjectsValid⟩, ⟨⟨ok_spec_l11Given, det_spec_l11Given⟩, ⟨⟨ok_spec_l2Insert, det_spec_l2Insert⟩, trivial⟩⟩⟩ Try.checked.mixed (fn := Try.f21) (body := Try.f21.body.getD .skip) Try.func21 rfl (by decide) (by kernel_rfl) rfl an_spec_NamesMissing fun x ho hx => ?_
  obtain ⟨l, ⟨⟩⟩ := x
  refine Keeps.of (vc_spec_NamesMissing l) ?_
  revert l ho hx
  show ∀ (l : List (Objt)), _
  intro l ho hx
  dsimp only [C_spec_NamesMissing, okPTL, okPT, Ok, Ty.cells, SN.cells, OkL, OkC, okI, ci, cb, cs, cl] at ho
  dsimp only [C_spec_NamesMissing, vc, v1, decB, SR.pre] at hx
  have h := @objsB_all l
  have h0 := @symsAt_len l
  have h1 := @pS_hit (missS l) l
  have h2 := @pS_miss (missS l) l
  have h3 := @namesM_end l
  have h4 := @pS_len (missS l) l
  have h5 := @pSO_len (missS l) l
  have h6 := @pA_end (missS l) l
  have h7 := @pA_zero (missS l) l
  have h8 := @symsAt_eq l
  have h9 := @missS_of l
  have ha := @missS_no l
  (try delta i64 LN); simp only [VBt]; (repeat' first | intro _ | apply And.intro); all_goals (try omega)
  all_goals (try grind [flt_zero, sortU])
def C_spec_l17Open : Con := { ps := [.ro (.list (.st .obj))], out := fun x => let l : List (Objt) := x.1; .req (l.all objB = true ∧ l.length ≤ 1000) (newL .str (nMs l)), det := true }
abbrev L_spec_l17Open : List (Nat × Con) := [(47, C_spec_l11Given), (40, C_spec_l2Insert)]
def G_spec_l17Open : Cfg := mkG (tyL tys_) L_spec_l17Open false
def an_spec_l17Open : PTL C_spec_l17Open.ps → Nat → Option Ann := fun x kk_ => let l : List (Objt) := x.1; if kk_ = 3 then some (.all (Int) fun k => .giv (0 ≤ k ∧ k ≤ l.length) (.mk [(4, ai k), (3, asl 20), (0, al (.st .obj) l)] [(20, .row none .str (sortU (flt (missS l) (l.take k.toNat))) true)] ((l.length - k.toNat)))) else if kk_ = 2006 then some (.all (Int) fun k => .all (Int) fun j => .giv (0 ≤ k ∧ k < l.length ∧ 0 ≤ j ∧ j ≤ (symsAt l k).length) (.mk [(4, ai k), (5, ai j), (3, asl 20), (0, al (.st .obj) l)] [(20, .row none .str (sortU (pA (missS l) l k j)) true)] ((l.length - k.toNat) * 1000 + (100 - j).toNat))) else none
set_option maxRecDepth 200000 in
theorem vc_spec_l17Open (l : List (Objt)) : (keeps Try.prog G_spec_l17Open (an_spec_l17Open (l, ())) (Try.f54.body.getD .skip) Try.f54.results.toList C_spec_l17Open (l, ())) = (((∃ (x_1 : Int), 0 = x_1 ∧ @Eq (List Objt) l l ∧ @Eq (List ByteArray) ([] : List ByteArray) (sortU (flt (missS l) (l.take x_1.toNat))) ∧ (0 ≤ x_1 ∧ x_1 ≤ LN l) ∧ True) ∧ (∀ (x_2 : Int), 0 ≤ x_2 ∧ x_2 ≤ LN l →
 l.length ≤ 9223372036854775807 →
 (decide (x_2 < LN l) = true →
 (∃ (x_3 : Int), (∃ (x_4 : Int), x_2 = x_3 ∧ 0 = x_4 ∧ @Eq (List Objt) l l ∧ @Eq (List ByteArray) (sortU (flt (missS l) (l.take x_2.toNat))) (sortU (pA (missS l) l x_3 x_4)) ∧ (0 ≤ x_3 ∧ x_3 < LN l ∧ 0 ≤ x_4 ∧ x_4 ≤ LN (symsAt l x_3)) ∧ (∀ (x_5 : Int), (∀ (x_6 : Int), 0 ≤ x_5 ∧ x_5 < LN l ∧ 0 ≤ x_6 ∧ x_6 ≤ LN (symsAt l x_5) →
 (l.length - x_5.toNat) * 1000 + (100 - x_6).toNat ≤ (l.length - x_3.toNat) * 1000 + (100 - x_4).toNat →
 (0 ≤ x_5 ∧ x_5 < LN l) ∧ (∀ (x_7 : Objt), l[x_5.toNat]? = some x_7 →
 Ok (Ty.st SN.obj) x_7 →
 (Objt.syms x_7).length ≤ 9223372036854775807 →
 (decide (x_6 < LN (Objt.syms x_7)) = true →
 (0 ≤ x_5 ∧ x_5 < LN l) ∧ (∀ (x_8 : Objt), l[x_5.toNat]? = some x_8 →
 Ok (Ty.st SN.obj) x_8 →
 (0 ≤ x_6 ∧ x_6 < LN (Objt.syms x_8)) ∧ (∀ (x_9 : Sym), (Objt.syms x_8)[x_6.toNat]? = some x_9 →
 Ok (Ty.st SN.sym) x_9 →
 (@List.all Objt l objB = true ∧ l.length ≤ 1000) ∧ (decide (Sym.wher x_9 = (- (1 : Int))) = true →
 (decide (Sym.bind x_9 = 1) = true →
 (Bool.not (@Option.isSome Given (fnd l (Sym.name x_9))) = true →
 (sortU (pA (missS l) l x_5 x_6)).length ≤ 1000000 ∧ (decide (@Eq (List ByteArray) (insU (sortU (pA (missS l) l x_5 x_6)) (Sym.name x_9)) (sortU (pA (missS l) l x_5 x_6))) = true →
 i64 (x_6 + 1) ∧ (∃ (x_10 : Int), (∃ (x_11 : Int), x_5 = x_10 ∧ x_6 + 1 = x_11 ∧ @Eq (List Objt) l l ∧ @Eq (List ByteArray) (sortU (pA (missS l) l x_5 x_6)) (sortU (pA (missS l) l x_10 x_11)) ∧ (0 ≤ x_10 ∧ x_10 < LN l ∧ 0 ≤ x_11 ∧ x_11 ≤ LN (symsAt l x_10)) ∧ (l.length - x_10.toNat) * 1000 + (100 - x_11).toNat < (l.length - x_5.toNat) * 1000 + (100 - x_6).toNat))) ∧ (decide (@Eq (List ByteArray) (insU (sortU (pA (missS l) l x_5 x_6)) (Sym.name x_9)) (sortU (pA (missS l) l x_5 x_6))) = false →
 i64 (x_6 + 1) ∧ (∃ (x_12 : Int), (∃ (x_13 : Int), x_5 = x_12 ∧ x_6 + 1 = x_13 ∧ @Eq (List Objt) l l ∧ @Eq (List ByteArray) (insU (sortU (pA (missS l) l x_5 x_6)) (Sym.name x_9)) (sortU (pA (missS l) l x_12 x_13)) ∧ (0 ≤ x_12 ∧ x_12 < LN l ∧ 0 ≤ x_13 ∧ x_13 ≤ LN (symsAt l x_12)) ∧ (l.length - x_12.toNat) * 1000 + (100 - x_13).toNat < (l.length - x_5.toNat) * 1000 + (100 - x_6).toNat)))) ∧ (Bool.not (@Option.isSome Given (fnd l (Sym.name x_9))) = false →
 i64 (x_6 + 1) ∧ (∃ (x_14 : Int), (∃ (x_15 : Int), x_5 = x_14 ∧ x_6 + 1 = x_15 ∧ @Eq (List Objt) l l ∧ @Eq (List ByteArray) (sortU (pA (missS l) l x_5 x_6)) (sortU (pA (missS l) l x_14 x_15)) ∧ (0 ≤ x_14 ∧ x_14 < LN l ∧ 0 ≤ x_15 ∧ x_15 ≤ LN (symsAt l x_14)) ∧ (l.length - x_14.toNat) * 1000 + (100 - x_15).toNat < (l.length - x_5.toNat) * 1000 + (100 - x_6).toNat)))) ∧ (decide (Sym.bind x_9 = 1) = false →
 i64 (x_6 + 1) ∧ (∃ (x_16 : Int), (∃ (x_17 : Int), x_5 = x_16 ∧ x_6 + 1 = x_17 ∧ @Eq (List Objt) l l ∧ @Eq (List ByteArray) (sortU (pA (missS l) l x_5 x_6)) (sortU (pA (missS l) l x_16 x_17)) ∧ (0 ≤ x_16 ∧ x_16 < LN l ∧ 0 ≤ x_17 ∧ x_17 ≤ LN (symsAt l x_16)) ∧ (l.length - x_16.toNat) * 1000 + (100 - x_17).toNat < (l.length - x_5.toNat) * 1000 + (100 - x_6).toNat)))) ∧ (decide (Sym.wher x_9 = (- (1 : Int))) = false →
 i64 (x_6 + 1) ∧ (∃ (x_18 : Int), (∃ (x_19 : Int), x_5 = x_18 ∧ x_6 + 1 = x_19 ∧ @Eq (List Objt) l l ∧ @Eq (List ByteArray) (sortU (pA (missS l) l x_5 x_6)) (sortU (pA (missS l) l x_18 x_19)) ∧ (0 ≤ x_18 ∧ x_18 < LN l ∧ 0 ≤ x_19 ∧ x_19 ≤ LN (symsAt l x_18)) ∧ (l.length - x_18.toNat) * 1000 + (100 - x_19).toNat < (l.length - x_5.toNat) * 1000 + (100 - x_6).toNat)))))) ∧ (decide (x_6 < LN (Objt.syms x_7)) = false →
 i64 (x_5 + 1) ∧ (∃ (x_20 : Int), x_5 + 1 = x_20 ∧ @Eq (List Objt) l l ∧ @Eq (List ByteArray) (sortU (pA (missS l) l x_5 x_6)) (sortU (flt (missS l) (l.take x_20.toNat))) ∧ (0 ≤ x_20 ∧ x_20 ≤ LN l) ∧ l.length - x_20.toNat < l.length - x_2.toNat)))))))) ∧ (decide (x_2 < LN l) = false →
 @Eq (List ByteArray) (sortU (flt (missS l) (l.take x_2.toNat))) (nMs l) ∧ True)))) := by kernel_rfl
theorem det_spec_l17Open : C_spec_l17Open.det = true → ∀ x, (C_spec_l17Open.out x).Det := fun _ x => by simp only [C_spec_l17Open]; repeat (first | exact Det.ret _ | exact Det.vc' | apply Det.req | apply Det.giv | apply Det.fork | apply Det.bif' | intro _)
set_option maxRecDepth 200000 in
set_option maxHeartbeats 4000000 in
theorem ok_spec_l17Open : ConOK Try.prog 54 C_spec_l17Open := by
  refine con_mk (wr := false) (ty := tyL tys_) (l := L_spec_l17Open) ⟨⟨ok_spec_l11Given, det_spec_l11Given⟩, ⟨⟨ok_spec_l2Insert, det_spec_l2Insert⟩, trivial⟩⟩ Try.checked.mixed (fn := Try.f54) (body := Try.f54.body.getD .skip) Try.func54 rfl (by decide) (by kernel_rfl) rfl an_spec_l17Open fun x ho hx => ?_
  obtain ⟨l, ⟨⟩⟩ := x
  refine Keeps.of (vc_spec_l17Open l) ?_
  revert l ho hx
  show ∀ (l : List (Objt)), _
  intro l ho hx
  dsimp only [C_spec_l17Open, okPTL, okPT, Ok, Ty.cells, SN.cells, OkL, OkC, okI, ci, cb, cs, cl] at ho
  dsimp only [C_spec_l17Open, vc, v1, decB, SR.pre] at hx
  have h0 := @symsAt_len l hx.1.1
  have h1 := @pS_hit (missS l) l
  have h2 := @pS_miss (missS l) l
  have h3 := @nMs_end l
  have h4 := @pS_len (missS l) l hx.1.1
  have h5 := @pSO_len (missS l) l hx.1.1
  have h6 := @pA_end (missS l) l
  have h7 := @pA_zero (missS l) l
  have h8 := @symsAt_eq l
  have h9 := @missS_of l
  have ha := @missS_no l
  (try delta i64 LN); simp only [VBt]; (repeat' first | intro _ | apply And.intro); all_goals (try omega)
  all_goals (try grind [flt_zero, sortU])
end Go.Proofs.Ythkefakjihafeaa
