/- Names that are given twice, names that are missing: both packages keep the same contracts. -/
import Derived.Test.YtpgglbnagphgoaaGreatResQ
set_option linter.unusedVariables false
set_option linter.unusedSimpArgs false
set_option maxRecDepth 200000
set_option maxHeartbeats 4000000
namespace Go.Proofs.YtpgglbnagphgoaaGreat
open Go Go.RowKit


def inB (l : List ByteArray) (x : ByteArray) : Bool := decide (x ∈ l)
theorem inB_iff {l : List ByteArray} {x : ByteArray} : inB l x = true ↔ x ∈ l := by simp [inB]
theorem inB_any {l : List ByteArray} {x : ByteArray} : decide (0 ≤ ixF (fun y => decide (x = y)) l 0) = inB l x := by
 rw [Bool.eq_iff_iff, decide_eq_true_iff, ixF_any (by omega), List.any_eq_true, inB_iff]; simp
def pA (p : Sym → Bool) (l : List Objt) (k j : Int) : List ByteArray := flt p (l.take k.toNat) ++ symP p ((symsAt l k).take j.toNat)
theorem pA_zero {p : Sym → Bool} {l : List Objt} {k : Int} : pA p l k 0 = flt p (l.take k.toNat) := by simp [pA, symP]
theorem pA_end {p : Sym → Bool} {l : List Objt} {k j : Int} (hk : 0 ≤ k) (hl : k < l.length) (h : ((symsAt l k).length : Int) ≤ j) : pA p l k j = flt p (l.take (k + 1).toNat) := by
 have h' := List.getElem?_eq_getElem (l := l) (i := k.toNat) (by omega)
 rw [flt_next hk h', pA, List.take_of_length_le (l := symsAt l k) (by omega), symsAt_eq h']
theorem pA_hit {p : Sym → Bool} {l : List Objt} {k j : Int} {s : Sym} (hj : 0 ≤ j) (h : (symsAt l k)[j.toNat]? = some s) (hp : p s = true) : pA p l k j ++ [s.name] = pA p l k (j + 1) := by
 rw [pA, pA, symP_next hj h, if_pos hp, List.append_assoc]
theorem pA_miss {p : Sym → Bool} {l : List Objt} {k j : Int} {s : Sym} (hj : 0 ≤ j) (h : (symsAt l k)[j.toNat]? = some s) (hp : p s = false) : pA p l k j = pA p l k (j + 1) := by
 rw [pA, pA, symP_next hj h, if_neg (by simp [hp]), List.append_nil]
theorem pA_len {p : Sym → Bool} {l : List Objt} (h : l.all objB = true) (k j : Int) : (pA p l k j).length ≤ 12 * l.length + 12 := by
 have h1 := flt_tlen (p := p) h k.toNat
 have h2 := symP_tlen (p := p) (l := symsAt l k) (k := j.toNat)
 have h3 := symsAt_len h k
 rw [pA, List.length_append]; omega
theorem flt_len12 {p : Sym → Bool} {l : List Objt} (h : l.all objB = true) (k : Int) : (flt p (l.take k.toNat)).length ≤ 12 * l.length := flt_tlen h _
theorem du_hit {p : Sym → Bool} {l : List Objt} {k j : Int} {s : Sym} (hj : 0 ≤ j) (h : (symsAt l k)[j.toNat]? = some s) (hp : p s = true) (hm : inB (pA p l k j) s.name = true) : dups [] (pA p l k j) ++ [s.name] = dups [] (pA p l k (j + 1)) := by
 rw [← pA_hit hj h hp, dups_snoc, if_pos (inB_iff.1 hm)]
theorem du_new {p : Sym → Bool} {l : List Objt} {k j : Int} {s : Sym} (hj : 0 ≤ j) (h : (symsAt l k)[j.toNat]? = some s) (hp : p s = true) (hm : inB (pA p l k j) s.name = false) : dups [] (pA p l k j) = dups [] (pA p l k (j + 1)) := by
 rw [← pA_hit hj h hp, dups_snoc, if_neg (fun hc => by rw [inB_iff.2 hc] at hm; cases hm), List.append_nil]
theorem du_len {p : Sym → Bool} {l : List Objt} (h : l.all objB = true) (k j : Int) : (dups [] (pA p l k j)).length ≤ 12 * l.length + 12 := Nat.le_trans (dups_len _ _) (pA_len h k j)
theorem du_flt {p : Sym → Bool} {l : List Objt} (h : l.all objB = true) (k : Int) : (dups [] (flt p (l.take k.toNat))).length ≤ 12 * l.length := Nat.le_trans (dups_len _ _) (flt_tlen h _)
def givAt (l : List Objt) (k : Int) : List ByteArray := match l[k.toNat]? with | some o => namesG o | none => []
theorem givAt_eq {l : List Objt} {k : Int} {o : Objt} (h : l[k.toNat]? = some o) : givAt l k = namesG o := by simp [givAt, h]
theorem namesG_12 (o : Objt) : (namesG o).length ≤ 12 := by
 unfold namesG
 split
 ·rename_i h
  have h1 := (sortU_len (symP giveS o.syms)).1
  have h2 := symP_len (p := giveS) (l := o.syms)
  have h3 := (objB_lens h).2
  omega
 ·simp
theorem givAt_12 (l : List Objt) (k : Int) : (givAt l k).length ≤ 12 := by
 unfold givAt
 split
 ·exact namesG_12 _
 ·simp
def tA (l : List Objt) (k j : Int) : List ByteArray := ((l.take k.toNat).flatMap namesG).filter (twP l) ++ ((givAt l k).take j.toNat).filter (twP l)
def tO (l : List Objt) (k : Int) : List ByteArray := ((l.take k.toNat).flatMap namesG).filter (twP l)
theorem tA_zero {l : List Objt} {k : Int} : tA l k 0 = tO l k := by simp [tA, tO]
theorem tO_zero {l : List Objt} : tO l 0 = [] := rfl
theorem tA_end {l : List Objt} {k j : Int} (hk : 0 ≤ k) (hl : k < l.length) (h : ((givAt l k).length : Int) ≤ j) : tA l k j = tO l (k + 1) := by
 have h' := List.getElem?_eq_getElem (l := l) (i := k.toNat) (by omega)
 rw [tA, tO, toNat_succ hk, take_snoc h', List.flatMap_append, List.filter_append, List.take_of_length_le (l := givAt l k) (by omega), givAt_eq h']
 simp
theorem tA_next {l : List Objt} {k j : Int} {n : ByteArray} (hj : 0 ≤ j) (h : (givAt l k)[j.toNat]? = some n) : tA l k (j + 1) = tA l k j ++ (if twP l n = true then [n] else []) := by
 rw [tA, tA, toNat_succ hj, take_snoc h, List.filter_append, List.append_assoc]
 congr 2
 cases hp : twP l n <;> simp [hp]
theorem tS_hit {l : List Objt} {k j : Int} {n : ByteArray} (hj : 0 ≤ j) (h : (givAt l k)[j.toNat]? = some n) (ht : 1 < cntS l n) : insU (sortU (tA l k j)) n = sortU (tA l k (j + 1)) := by
 rw [tA_next hj h, if_pos (by simp [twP, ht]), sortU_snoc]
theorem tS_miss {l : List Objt} {k j : Int} {n : ByteArray} (hj : 0 ≤ j) (h : (givAt l k)[j.toNat]? = some n) (ht : ¬ 1 < cntS l n) : sortU (tA l k j) = sortU (tA l k (j + 1)) := by
 rw [tA_next hj h, if_neg (by simp [twP, ht]), List.append_nil]
theorem tO_len {l : List Objt} (k : Int) : (tO l k).length ≤ 12 * l.length := by
 have h1 : ∀ m : List Objt, (m.flatMap namesG).length ≤ 12 * m.length := fun m => by
  induction m with
  | nil => simp
  | cons o m ih => have := namesG_12 o; simp only [List.flatMap_cons, List.length_append, List.length_cons]; omega
 have h2 := h1 (l.take k.toNat)
 have h3 := List.length_filter_le (twP l) ((l.take k.toNat).flatMap namesG)
 rw [List.length_take] at h2
 unfold tO
 omega
theorem tA_len {l : List Objt} (k j : Int) : (tA l k j).length ≤ 12 * l.length + 12 := by
 have h1 := tO_len (l := l) k
 have h2 := givAt_12 l k
 have h3 := List.length_filter_le (twP l) ((givAt l k).take j.toNat)
 rw [List.length_take] at h3
 unfold tO at h1
 rw [tA, List.length_append]; omega
theorem sortU_le (l : List ByteArray) (n : Nat) (h : l.length ≤ n) : (sortU l).length ≤ n := Nat.le_trans (sortU_len l).1 h
theorem tS_len {l : List Objt} (k j : Int) : (sortU (tA l k j)).length ≤ 12 * l.length + 12 := sortU_le _ _ (tA_len k j)
theorem tSO_len {l : List Objt} (k : Int) : (sortU (tO l k)).length ≤ 12 * l.length := sortU_le _ _ (tO_len k)
theorem namesT_end {l : List Objt} {k : Int} (h0 : 0 ≤ k) (h : 0 < k → objsB l = true) (h' : objsB l = false ∨ (l.length : Int) ≤ k) : sortU (tO l k) = namesT l := by
 unfold namesT
 cases ho : objsB l with
 | true =>
  rw [if_pos rfl, nTw_spec (objsB_all ho).1, tO, List.take_of_length_le]
  rcases h' with h' | h'
  ·rw [h'] at ho; cases ho
  ·omega
 | false =>
  have : k = 0 := by by_cases hk : 0 < k; rw [h hk] at ho; cases ho; omega
  subst this
  rfl
theorem nTw_end {l : List Objt} {k : Int} (h : (l.length : Int) ≤ k) : sortU (dups [] (flt strongS (l.take k.toNat))) = nTw l := by rw [nTw, flt_all h]
theorem nMs_end {l : List Objt} {k : Int} (h : (l.length : Int) ≤ k) : sortU (flt (missS l) (l.take k.toNat)) = nMs l := by rw [nMs, flt_all h]
theorem strongS_of {s : Sym} (h : s.bind = 1) (h' : s.wher ≠ -1) : strongS s = true := by simp [strongS, h, h']
theorem strongS_no {s : Sym} (h : s.bind ≠ 1 ∨ s.wher = -1) : strongS s = false := by simp only [strongS, decide_eq_false_iff_not]; rintro ⟨h1, h2⟩; rcases h with h | h <;> contradiction
theorem missS_of {l : List Objt} {s : Sym} (h : s.bind = 1) (h' : s.wher = -1) (hf : (fnd l s.name).isSome = false) : missS l s = true := by
 cases hg : fnd l s.name with
 | some g => rw [hg] at hf; cases hf
 | none => simp [missS, h, h', hg]
theorem missS_no {l : List Objt} {s : Sym} (h : s.bind ≠ 1 ∨ s.wher ≠ -1 ∨ (fnd l s.name).isSome = true) : missS l s = false := by
 unfold missS
 cases hg : fnd l s.name with
 | some g => simp
 | none => rw [hg] at h; simp at h ⊢; intro h1; rcases h with h | h; exact absurd h1 h; exact h
def C_slices_Index_string_string : Con := { ps := [.ro (.list .str), .ro .str], out := fun x => let l : List (ByteArray) := x.1; let v : ByteArray := x.2.1; vc .i (ixF (fun y => decide (v = y)) l 0), det := true }
abbrev L_slices_Index_string_string : List (Nat × Con) := []
def G_slices_Index_string_string : Cfg := GK L_slices_Index_string_string
def an_slices_Index_string_string : PTL C_slices_Index_string_string.ps → Nat → Option Ann := fun x kk_ => let l : List (ByteArray) := x.1; let v : ByteArray := x.2.1; if kk_ = 2 then some (.all (Int) fun i => .giv (0 ≤ i ∧ i ≤ l.length ∧ ixF (fun y => decide (v = y)) l 0 = ixF (fun y => decide (v = y)) (l.drop i.toNat) i) (.mk [(8, ai i), (0, al .str l), (1, ax v), (7, ai (List.length l))] [] ((l.length - i.toNat)))) else none
theorem vc_slices_Index_string_string (l : List (ByteArray)) (v : ByteArray) : (KP Tryz.f105 G_slices_Index_string_string C_slices_Index_string_string an_slices_Index_string_string (l, v, ())) = (l.length ≤ 9223372036854775807 →
 (∃ (a : Int), 0 = a ∧ l = l ∧ v = v ∧ LN l = LN l ∧ (0 ≤ a ∧ a ≤ LN l ∧ @ixF ByteArray (fun (b : ByteArray) => decide (v = b)) l (0 : Int) = @ixF ByteArray (fun (c : ByteArray) => decide (v = c)) (l.drop a.toNat) a) ∧ True) ∧ (∀ (d : Int), 0 ≤ d ∧ d ≤ LN l ∧ @ixF ByteArray (fun (e : ByteArray) => decide (v = e)) l (0 : Int) = @ixF ByteArray (fun (f : ByteArray) => decide (v = f)) (l.drop d.toNat) d →
 (decide (d < LN l) = true →
 (0 ≤ d ∧ d < LN l) ∧ (∀ (g : ByteArray), l[d.toNat]? = some g →
 Ok Ty.str g →
 (decide (v = g) = true →
 d = @ixF ByteArray (fun (h : ByteArray) => decide (v = h)) l (0 : Int) ∧ True) ∧ (decide (v = g) = false →
 i64 (d + 1) ∧ (∃ (i : Int), d + 1 = i ∧ l = l ∧ v = v ∧ LN l = LN l ∧ (0 ≤ i ∧ i ≤ LN l ∧ @ixF ByteArray (fun (j : ByteArray) => decide (v = j)) l (0 : Int) = @ixF ByteArray (fun (k : ByteArray) => decide (v = k)) (l.drop i.toNat) i) ∧ l.length - i.toNat < l.length - d.toNat)))) ∧ (decide (d < LN l) = false →
 (- (1 : Int)) = @ixF ByteArray (fun (m : ByteArray) => decide (v = m)) l (0 : Int) ∧ True))) := by kernel_rfl
theorem det_slices_Index_string_string : C_slices_Index_string_string.det = true → ∀ x, (C_slices_Index_string_string.out x).Det := fun _ _ => Det.vc'
theorem ok_slices_Index_string_string : ConOK Tryz.prog 105 C_slices_Index_string_string := by
 refine con_q (l := L_slices_Index_string_string) trivial Tryz.func105 rfl (by decide) (by kernel_rfl) rfl an_slices_Index_string_string fun x ho hx => ?_
 obtain ⟨l, v, ⟨⟩⟩ := x
 refine Keeps.of (vc_slices_Index_string_string l v) ?_
 revert l v ho hx
 show ∀ (l : List (ByteArray)) (v : ByteArray), _
 intro l v ho hx
 dsimp only [C_slices_Index_string_string, okPTL, okPT, Ok, Ty.cells, SN.cells, OkL, OkC, okI, ci, cb, cs, cl] at ho
 dsimp only [C_slices_Index_string_string, vc, v1, decB, SR.pre] at hx
 (try delta i64 LN); simp only [VBt]; (repeat' first | intro _ | apply And.intro); all_goals (try omega); all_goals (try have hdr := drop_get' (l := l) (by assumption) (by assumption)); all_goals grind [ixF, drop_end]
def C_slices_Contains_string_string : Con := { ps := [.ro (.list .str), .ro .str], out := fun x => let l : List (ByteArray) := x.1; let v : ByteArray := x.2.1; vc .bool (inB l v), det := true }
abbrev L_slices_Contains_string_string : List (Nat × Con) := [(105, C_slices_Index_string_string)]
def G_slices_Contains_string_string : Cfg := GK L_slices_Contains_string_string
def an_slices_Contains_string_string : PTL C_slices_Contains_string_string.ps → Nat → Option Ann := fun _ _ => none
theorem vc_slices_Contains_string_string (l : List (ByteArray)) (v : ByteArray) : (KP Tryz.f66 G_slices_Contains_string_string C_slices_Contains_string_string an_slices_Contains_string_string (l, v, ())) = (decide (0 ≤ @ixF ByteArray (fun (a : ByteArray) => decide (v = a)) l (0 : Int)) = inB l v ∧ True) := by kernel_rfl
theorem det_slices_Contains_string_string : C_slices_Contains_string_string.det = true → ∀ x, (C_slices_Contains_string_string.out x).Det := fun _ _ => Det.vc'
theorem ok_slices_Contains_string_string : ConOK Tryz.prog 66 C_slices_Contains_string_string := by
 refine con_q (l := L_slices_Contains_string_string) ⟨⟨ok_slices_Index_string_string, det_slices_Index_string_string⟩, trivial⟩ Tryz.func66 rfl (by decide) (by kernel_rfl) rfl an_slices_Contains_string_string fun x ho hx => ?_
 obtain ⟨l, v, ⟨⟩⟩ := x
 refine Keeps.of (vc_slices_Contains_string_string l v) ?_
 revert l v ho hx
 show ∀ (l : List (ByteArray)) (v : ByteArray), _
 intro l v ho hx
 dsimp only [C_slices_Contains_string_string, okPTL, okPT, Ok, Ty.cells, SN.cells, OkL, OkC, okI, ci, cb, cs, cl] at ho
 dsimp only [C_slices_Contains_string_string, vc, v1, decB, SR.pre] at hx
 have h := @inB_any l v
 (try delta i64 LN); simp only [VBt]; (repeat' first | intro _ | apply And.intro); all_goals (try omega); all_goals grind
def C_impl_namesTwice : Con := { ps := [.ro (.list (.st .obj))], out := fun x => let l : List (Objt) := x.1; .req (l.all objB = true ∧ l.length ≤ 1000) (newL .str (nTw l)), det := true }
abbrev L_impl_namesTwice : List (Nat × Con) := [(66, C_slices_Contains_string_string), (67, C_impl_sorted)]
def G_impl_namesTwice : Cfg := GK L_impl_namesTwice
def an_impl_namesTwice : PTL C_impl_namesTwice.ps → Nat → Option Ann := fun x kk_ => let l : List (Objt) := x.1; if kk_ = 3 then some (.all (Int) fun k => .giv (0 ≤ k ∧ k ≤ l.length) (.mk [(13, ai k), (3, asl 20), (4, asl 21), (11, al (.st .obj) l), (12, ai (List.length l))] [(20, .row (some 9) .str (dups [] (flt strongS (l.take k.toNat))) true), (21, .row (some 9) .str (flt strongS (l.take k.toNat)) true)] ((l.length - k.toNat)))) else if kk_ = 2006 then some (.all (Int) fun k => .all (Int) fun j => .giv (0 ≤ k ∧ k < l.length ∧ 0 ≤ j ∧ j ≤ (symsAt l k).length) (.mk [(13, ai k), (20, ai j), (18, al (.st .sym) (symsAt l k)), (19, ai (symsAt l k).length), (3, asl 20), (4, asl 21), (11, al (.st .obj) l), (12, ai (List.length l))] [(20, .row (some 9) .str (dups [] (pA strongS l k j)) true), (21, .row (some 9) .str (pA strongS l k j) true)] ((l.length - k.toNat) * 1000 + (100 - j).toNat))) else none
theorem vc_impl_namesTwice (l : List (Objt)) : (KP Tryz.f29 G_impl_namesTwice C_impl_namesTwice an_impl_namesTwice (l, ())) = (l.length ≤ 9223372036854775807 →
 (∃ (a : Int), 0 = a ∧ l = l ∧ LN l = LN l ∧ ([] : List ByteArray) = dups ([] : List ByteArray) (flt strongS (l.take a.toNat)) ∧ ([] : List ByteArray) = flt strongS (l.take a.toNat) ∧ (0 ≤ a ∧ a ≤ LN l) ∧ True) ∧ (∀ (b : Int), 0 ≤ b ∧ b ≤ LN l →
 (decide (b < LN l) = true →
 (0 ≤ b ∧ b < LN l) ∧ (∀ (c : Objt), l[b.toNat]? = some c →
 Ok (Ty.st SN.obj) c →
 c.syms.length ≤ 9223372036854775807 →
 (∃ (d : Int), (∃ (e : Int), b = d ∧ 0 = e ∧ c.syms = symsAt l d ∧ LN c.syms = LN (symsAt l d) ∧ l = l ∧ LN l = LN l ∧ dups ([] : List ByteArray) (flt strongS (l.take b.toNat)) = dups ([] : List ByteArray) (pA strongS l d e) ∧ flt strongS (l.take b.toNat) = pA strongS l d e ∧ (0 ≤ d ∧ d < LN l ∧ 0 ≤ e ∧ e ≤ LN (symsAt l d)) ∧ (∀ (f : Int), (∀ (g : Int), 0 ≤ f ∧ f < LN l ∧ 0 ≤ g ∧ g ≤ LN (symsAt l f) →
 (l.length - f.toNat) * 1000 + (100 - g).toNat ≤ (l.length - d.toNat) * 1000 + (100 - e).toNat →
 (decide (g < LN (symsAt l f)) = true →
 (0 ≤ g ∧ g < LN (symsAt l f)) ∧ (∀ (h : Sym), (symsAt l f)[g.toNat]? = some h →
 Ok (Ty.st SN.sym) h →
 (decide (h.bind ≠ 1) = true →
 i64 (g + 1) ∧ (∃ (i : Int), (∃ (j : Int), f = i ∧ g + 1 = j ∧ symsAt l f = symsAt l i ∧ LN (symsAt l f) = LN (symsAt l i) ∧ l = l ∧ LN l = LN l ∧ dups ([] : List ByteArray) (pA strongS l f g) = dups ([] : List ByteArray) (pA strongS l i j) ∧ pA strongS l f g = pA strongS l i j ∧ (0 ≤ i ∧ i < LN l ∧ 0 ≤ j ∧ j ≤ LN (symsAt l i)) ∧ (l.length - i.toNat) * 1000 + (100 - j).toNat < (l.length - f.toNat) * 1000 + (100 - g).toNat))) ∧ (decide (h.bind ≠ 1) = false →
 (decide (h.wher = (- (1 : Int))) = true →
 i64 (g + 1) ∧ (∃ (k : Int), (∃ (m : Int), f = k ∧ g + 1 = m ∧ symsAt l f = symsAt l k ∧ LN (symsAt l f) = LN (symsAt l k) ∧ l = l ∧ LN l = LN l ∧ dups ([] : List ByteArray) (pA strongS l f g) = dups ([] : List ByteArray) (pA strongS l k m) ∧ pA strongS l f g = pA strongS l k m ∧ (0 ≤ k ∧ k < LN l ∧ 0 ≤ m ∧ m ≤ LN (symsAt l k)) ∧ (l.length - k.toNat) * 1000 + (100 - m).toNat < (l.length - f.toNat) * 1000 + (100 - g).toNat))) ∧ (decide (h.wher = (- (1 : Int))) = false →
 (inB (pA strongS l f g) h.name = true →
 (((dups ([] : List ByteArray) (pA strongS l f g)).length + [h.name].length) * 16 ≤ 140737488355328 ∧ (dups ([] : List ByteArray) (pA strongS l f g)).length + [h.name].length ≤ 1000000000000) ∧ (((pA strongS l f g).length + [h.name].length) * 16 ≤ 140737488355328 ∧ (pA strongS l f g).length + [h.name].length ≤ 1000000000000) ∧ i64 (g + 1) ∧ (∃ (n : Int), (∃ (o : Int), f = n ∧ g + 1 = o ∧ symsAt l f = symsAt l n ∧ LN (symsAt l f) = LN (symsAt l n) ∧ l = l ∧ LN l = LN l ∧ dups ([] : List ByteArray) (pA strongS l f g) ++ [h.name] = dups ([] : List ByteArray) (pA strongS l n o) ∧ pA strongS l f g ++ [h.name] = pA strongS l n o ∧ (0 ≤ n ∧ n < LN l ∧ 0 ≤ o ∧ o ≤ LN (symsAt l n)) ∧ (l.length - n.toNat) * 1000 + (100 - o).toNat < (l.length - f.toNat) * 1000 + (100 - g).toNat))) ∧ (inB (pA strongS l f g) h.name = false →
 (((pA strongS l f g).length + [h.name].length) * 16 ≤ 140737488355328 ∧ (pA strongS l f g).length + [h.name].length ≤ 1000000000000) ∧ i64 (g + 1) ∧ (∃ (p : Int), (∃ (q : Int), f = p ∧ g + 1 = q ∧ symsAt l f = symsAt l p ∧ LN (symsAt l f) = LN (symsAt l p) ∧ l = l ∧ LN l = LN l ∧ dups ([] : List ByteArray) (pA strongS l f g) = dups ([] : List ByteArray) (pA strongS l p q) ∧ pA strongS l f g ++ [h.name] = pA strongS l p q ∧ (0 ≤ p ∧ p < LN l ∧ 0 ≤ q ∧ q ≤ LN (symsAt l p)) ∧ (l.length - p.toNat) * 1000 + (100 - q).toNat < (l.length - f.toNat) * 1000 + (100 - g).toNat))))))) ∧ (decide (g < LN (symsAt l f)) = false →
 i64 (f + 1) ∧ (∃ (r : Int), f + 1 = r ∧ l = l ∧ LN l = LN l ∧ dups ([] : List ByteArray) (pA strongS l f g) = dups ([] : List ByteArray) (flt strongS (l.take r.toNat)) ∧ pA strongS l f g = flt strongS (l.take r.toNat) ∧ (0 ≤ r ∧ r ≤ LN l) ∧ l.length - r.toNat < l.length - b.toNat)))))))) ∧ (decide (b < LN l) = false →
 (dups ([] : List ByteArray) (flt strongS (l.take b.toNat))).length ≤ 1048576 ∧ sortU (dups ([] : List ByteArray) (flt strongS (l.take b.toNat))) = nTw l ∧ True))) := by kernel_rfl
theorem det_impl_namesTwice : C_impl_namesTwice.det = true → ∀ x, (C_impl_namesTwice.out x).Det := fun _ x => by simp only [C_impl_namesTwice]; repeat (first | exact Det.ret _ | exact Det.vc' | apply Det.req | apply Det.giv | apply Det.fork | apply Det.bif' | intro _)
theorem ok_impl_namesTwice : ConOK Tryz.prog 29 C_impl_namesTwice := by
 refine con_q (l := L_impl_namesTwice) ⟨⟨ok_slices_Contains_string_string, det_slices_Contains_string_string⟩, ⟨⟨ok_impl_sorted, det_impl_sorted⟩, trivial⟩⟩ Tryz.func29 rfl (by decide) (by kernel_rfl) rfl an_impl_namesTwice fun x ho hx => ?_
 obtain ⟨l, ⟨⟩⟩ := x
 refine Keeps.of (vc_impl_namesTwice l) ?_
 revert l ho hx
 show ∀ (l : List (Objt)), _
 intro l ho hx
 dsimp only [C_impl_namesTwice, okPTL, okPT, Ok, Ty.cells, SN.cells, OkL, OkC, okI, ci, cb, cs, cl] at ho
 dsimp only [C_impl_namesTwice, vc, v1, decB, SR.pre] at hx
 have hs := @symsAt_eq l
 have hy := @symsAt_len l hx.1.1
 have a1 := @du_len strongS l hx.1.1
 have a2 := @du_flt strongS l hx.1.1
 have a3 := @pA_len strongS l hx.1.1
 have a4 := @flt_len12 strongS l hx.1.1
 (try delta i64 LN); simp only [VBt]; (repeat' first | intro _ | apply And.intro); all_goals (try omega)
 all_goals first | omega | rfl | exact Eq.symm (by assumption) | exact symsAt_eq (by assumption) | exact (symsAt_eq (by assumption)).symm | (rw [symsAt_eq (by assumption)]; done) | exact pA_zero | exact pA_zero.symm | (rw [pA_zero]) | exact du_hit (by assumption) (by assumption) (strongS_of (by assumption) (by assumption)) (by assumption) | exact du_new (by assumption) (by assumption) (strongS_of (by assumption) (by assumption)) (by assumption) | exact pA_hit (by assumption) (by assumption) (strongS_of (by assumption) (by assumption)) | exact pA_miss (by assumption) (by assumption) (strongS_no (by first | exact .inl (by assumption) | exact .inr (by assumption))) | exact nTw_end (by assumption)  | exact (nTw_end (by assumption)).symm | exact pA_hit (by assumption) (by assumption) (missS_of (by assumption) (by assumption) (by assumption)) | exact pA_miss (by assumption) (by assumption) (missS_no (by first | exact .inl (by assumption) | exact .inr (.inl (by assumption)) | exact .inr (.inr (by assumption)))) | exact nMs_end (by assumption) | exact (nMs_end (by assumption)).symm | skip
 all_goals (try grind [pA_zero, pA_end, du_hit, du_new, pA_hit, pA_miss, nTw_end, strongS_of, strongS_no, symsAt_eq])
def C_spec_NamesTwice : Con := { ps := [.ro (.list (.st .obj))], out := fun x => let l : List (Objt) := x.1; newL .str (namesT l), det := true }
abbrev L_spec_NamesTwice : List (Nat × Con) := [(52, C_spec_ObjectsValid), (62, C_spec_NamesGiven), (75, C_spec_l11Given), (76, C_spec_l2Insert)]
def G_spec_NamesTwice : Cfg := GK L_spec_NamesTwice
def an_spec_NamesTwice : PTL C_spec_NamesTwice.ps → Nat → Option Ann := fun x kk_ => let l : List (Objt) := x.1; if kk_ = 3 then some (.all (Int) fun k => .giv (0 ≤ k ∧ k ≤ l.length ∧ (0 < k → objsB l = true)) (.mk [(4, ai k), (3, asl 20), (0, al (.st .obj) l)] [(20, .row none .str (sortU (tO l k)) true)] ((l.length - k.toNat)))) else if kk_ = 2007 then some (.all (Int) fun k => .all (Int) fun j => .giv (objsB l = true ∧ 0 ≤ k ∧ k < l.length ∧ 0 ≤ j ∧ j ≤ (givAt l k).length) (.mk [(4, ai k), (6, ai j), (3, asl 20), (5, al .str (givAt l k)), (0, al (.st .obj) l)] [(20, .row none .str (sortU (tA l k j)) true)] ((l.length - k.toNat) * 1000 + (100 - j).toNat))) else none
theorem vc_spec_NamesTwice (l : List (Objt)) : (KP Tryz.f34 G_spec_NamesTwice C_spec_NamesTwice an_spec_NamesTwice (l, ())) = ((∃ (a : Int), 0 = a ∧ l = l ∧ ([] : List ByteArray) = sortU (tO l a) ∧ (0 ≤ a ∧ a ≤ LN l ∧ (0 < a →
 objsB l = true)) ∧ True) ∧ (∀ (b : Int), 0 ≤ b ∧ b ≤ LN l ∧ (0 < b →
 objsB l = true) →
 l.length ≤ 9223372036854775807 →
 (decide (b < LN l) = true →
 (objsB l = true →
 (0 ≤ b ∧ b < LN l) ∧ (∀ (c : Objt), l[b.toNat]? = some c →
 Ok (Ty.st SN.obj) c →
 (∃ (d : Int), (∃ (e : Int), b = d ∧ 0 = e ∧ namesG c = givAt l d ∧ l = l ∧ sortU (tO l b) = sortU (tA l d e) ∧ (objsB l = true ∧ 0 ≤ d ∧ d < LN l ∧ 0 ≤ e ∧ e ≤ LN (givAt l d)) ∧ (∀ (f : Int), (∀ (g : Int), objsB l = true ∧ 0 ≤ f ∧ f < LN l ∧ 0 ≤ g ∧ g ≤ LN (givAt l f) →
 (l.length - f.toNat) * 1000 + (100 - g).toNat ≤ (l.length - d.toNat) * 1000 + (100 - e).toNat →
 (givAt l f).length ≤ 9223372036854775807 →
 (decide (g < LN (givAt l f)) = true →
 (0 ≤ g ∧ g < LN (givAt l f)) ∧ (∀ (h : ByteArray), (givAt l f)[g.toNat]? = some h →
 Ok Ty.str h →
 (@List.all Objt l objB = true ∧ l.length ≤ 1000) ∧ (decide (1 < cntS l h) = true →
 (0 ≤ g ∧ g < LN (givAt l f)) ∧ (∀ (i : ByteArray), (givAt l f)[g.toNat]? = some i →
 Ok Ty.str i →
 (sortU (tA l f g)).length ≤ 1000000 ∧ (decide (insU (sortU (tA l f g)) i = sortU (tA l f g)) = true →
 i64 (g + 1) ∧ (∃ (j : Int), (∃ (k : Int), f = j ∧ g + 1 = k ∧ givAt l f = givAt l j ∧ l = l ∧ sortU (tA l f g) = sortU (tA l j k) ∧ (objsB l = true ∧ 0 ≤ j ∧ j < LN l ∧ 0 ≤ k ∧ k ≤ LN (givAt l j)) ∧ (l.length - j.toNat) * 1000 + (100 - k).toNat < (l.length - f.toNat) * 1000 + (100 - g).toNat))) ∧ (decide (insU (sortU (tA l f g)) i = sortU (tA l f g)) = false →
 i64 (g + 1) ∧ (∃ (m : Int), (∃ (n : Int), f = m ∧ g + 1 = n ∧ givAt l f = givAt l m ∧ l = l ∧ insU (sortU (tA l f g)) i = sortU (tA l m n) ∧ (objsB l = true ∧ 0 ≤ m ∧ m < LN l ∧ 0 ≤ n ∧ n ≤ LN (givAt l m)) ∧ (l.length - m.toNat) * 1000 + (100 - n).toNat < (l.length - f.toNat) * 1000 + (100 - g).toNat))))) ∧ (decide (1 < cntS l h) = false →
 i64 (g + 1) ∧ (∃ (o : Int), (∃ (p : Int), f = o ∧ g + 1 = p ∧ givAt l f = givAt l o ∧ l = l ∧ sortU (tA l f g) = sortU (tA l o p) ∧ (objsB l = true ∧ 0 ≤ o ∧ o < LN l ∧ 0 ≤ p ∧ p ≤ LN (givAt l o)) ∧ (l.length - o.toNat) * 1000 + (100 - p).toNat < (l.length - f.toNat) * 1000 + (100 - g).toNat))))) ∧ (decide (g < LN (givAt l f)) = false →
 i64 (f + 1) ∧ (∃ (q : Int), f + 1 = q ∧ l = l ∧ sortU (tA l f g) = sortU (tO l q) ∧ (0 ≤ q ∧ q ≤ LN l ∧ (0 < q →
 objsB l = true)) ∧ l.length - q.toNat < l.length - b.toNat)))))))) ∧ (objsB l = false →
 sortU (tO l b) = namesT l ∧ True)) ∧ (decide (b < LN l) = false →
 sortU (tO l b) = namesT l ∧ True))) := by kernel_rfl
theorem det_spec_NamesTwice : C_spec_NamesTwice.det = true → ∀ x, (C_spec_NamesTwice.out x).Det := fun _ _ => Det.ret _
theorem ok_spec_NamesTwice : ConOK Tryz.prog 34 C_spec_NamesTwice := by
 refine con_q (l := L_spec_NamesTwice) ⟨⟨ok_spec_ObjectsValid, det_spec_ObjectsValid⟩, ⟨⟨ok_spec_NamesGiven, det_spec_NamesGiven⟩, ⟨⟨ok_spec_l11Given, det_spec_l11Given⟩, ⟨⟨ok_spec_l2Insert, det_spec_l2Insert⟩, trivial⟩⟩⟩⟩ Tryz.func34 rfl (by decide) (by kernel_rfl) rfl an_spec_NamesTwice fun x ho hx => ?_
 obtain ⟨l, ⟨⟩⟩ := x
 refine Keeps.of (vc_spec_NamesTwice l) ?_
 revert l ho hx
 show ∀ (l : List (Objt)), _
 intro l ho hx
 dsimp only [C_spec_NamesTwice, okPTL, okPT, Ok, Ty.cells, SN.cells, OkL, OkC, okI, ci, cb, cs, cl] at ho
 dsimp only [C_spec_NamesTwice, vc, v1, decB, SR.pre] at hx
 have h := @objsB_all l
 have h0 := givAt_12 l
 have h1 := @tS_hit l
 have h2 := @tS_miss l
 have h3 := @namesT_end l
 have h4 := @tS_len l
 have h5 := @tSO_len l
 have h6 := @tA_end l
 have h7 := @tA_zero l
 have h8 := @givAt_eq l
 (try delta i64 LN); simp only [VBt]; (repeat' first | intro _ | apply And.intro); all_goals (try omega)
 all_goals (try grind [tO_zero, sortU])
end Go.Proofs.YtpgglbnagphgoaaGreat
