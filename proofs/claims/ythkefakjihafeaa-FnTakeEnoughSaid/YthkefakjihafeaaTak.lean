/- Objects that are taken out of an archive: both packages keep the same contracts. -/
import Derived.Test.YthkefakjihafeaaArc
import Derived.Test.YthkefakjihafeaaResT
set_option linter.unusedVariables false
set_option linter.unusedSimpArgs false
namespace Go.Proofs.Ythkefakjihafeaa
open Go Go.RowKit


def shL (t : Ty) (l : List t.den) : SR := .ret { val := .one (.sl 100 []), ins := [(100, .row none t l false)] }
def tkR (st : Tk) : SR := .ret { val := .tup [(false, [.sl 100 []]), (false, [.c (cl (.st .obj) st.all)])], ins := [(100, .row none .i st.out true)] }
def takV (l : List Objt) (arch : List Member) : List Int := if objsB l && archB arch then (taken l arch).out else []
def tkI (l : List Objt) (arch : List Member) (i : Int) : Tk := tkN arch i.toNat ⟨[], l⟩
theorem tkI_zero {l : List Objt} {arch : List Member} : tkI l arch 0 = ⟨[], l⟩ := rfl
theorem tkI_next {l : List Objt} {arch : List Member} {i : Int} (hi : 0 ≤ i) : tkI l arch (i + 1) = tkStep arch (tkI l arch i) := by
  rw [tkI, toNat_succ hi, tkN_succ]; rfl
theorem tkI_end {l : List Objt} {arch : List Member} {i : Int} (h : (arch.length : Int) = i) : tkI l arch i = taken l arch := by rw [tkI, taken, ← h, Int.toNat_natCast]
theorem tkI_ok (l : List Objt) (arch : List Member) (i : Int) : TkOk l arch (tkI l arch i) := tkN_ok ⟨fun k hk => by simp at hk, List.nodup_nil, by simp, fun k hk => by simp at hk⟩
theorem nodup_len : ∀ {n : Nat} {l : List Int}, l.Nodup → (∀ k ∈ l, 0 ≤ k ∧ k < n) → l.length ≤ n := by
  intro n
  induction n with
  | zero => intro l _ h; cases l with
    | nil => simp
    | cons a l => have := h a (by simp); omega
  | succ n ih =>
    intro l hn h
    by_cases hm : (n : Int) ∈ l
    · have h1 := List.Nodup.erase (n : Int) hn
      have h2 := ih h1 fun k hk => by
        have h3 := h k (List.mem_of_mem_erase hk)
        have h4 : k ≠ n := (List.Nodup.mem_erase_iff hn).1 hk |>.1
        omega
      rw [List.length_erase_of_mem hm] at h2
      omega
    · have := ih hn fun k hk => by
        have h3 := h k hk
        have h4 : k ≠ n := fun e => hm (e ▸ hk)
        omega
      omega
theorem tkI_len {l : List Objt} {arch : List Member} {i : Int} : (tkI l arch i).out.length ≤ arch.length ∧ (tkI l arch i).all.length ≤ l.length + arch.length := by
  have h := tkI_ok l arch i
  have h1 := nodup_len h.nod h.rng
  refine ⟨h1, ?_⟩
  rw [h.all, List.length_append]
  have : ∀ m : List Int, (m.flatMap fun k => ((arch[k.toNat]?).map Member.what).toList).length ≤ m.length := fun m => by
    induction m with
    | nil => simp
    | cons k m ih =>
      simp only [List.flatMap_cons, List.length_append, List.length_cons]
      have : (((arch[k.toNat]?).map Member.what).toList).length ≤ 1 := by cases arch[k.toNat]? <;> simp
      omega
  have := this (tkI l arch i).out
  omega
theorem archB_all {arch : List Member} (h : archB arch = true) : arch.all memOk = true ∧ arch.length ≤ 4 := by
  simp only [archB, Bool.and_eq_true, decide_eq_true_eq] at h
  exact ⟨h.2, by omega⟩
theorem tkI_val {l : List Objt} {arch : List Member} {i : Int} (h : l.all objB = true) (ha : archB arch = true) : (tkI l arch i).all.all objB = true := (tkI_ok l arch i).valid h (archB_all ha).1
def nxM (st : Tk) (arch : List Member) (k : Int) : Int := nextM st.all st.out (arch.drop k.toNat) k
theorem nxM_zero {st : Tk} {arch : List Member} : nxM st arch 0 = nextM st.all st.out arch 0 := rfl
theorem nxM_at {st : Tk} {arch : List Member} {k : Int} {m : Member} (hk : 0 ≤ k) (h : arch[k.toNat]? = some m) : nxM st arch k = if ¬ k ∈ st.out ∧ hasM st.all m = true then k else nxM st arch (k + 1) := by
  unfold nxM
  rw [drop_get' h hk]; rfl
theorem nxM_end {st : Tk} {arch : List Member} {k : Int} (h : (arch.length : Int) ≤ k) : nxM st arch k = -1 := by unfold nxM; rw [drop_end h]; rfl
theorem tk_hit {l : List Objt} {arch : List Member} {i k : Int} {m : Member} (hi : 0 ≤ i) (hk : 0 ≤ k) (h : nxM (tkI l arch i) arch 0 = k) (hm : arch[k.toNat]? = some m) : tkI l arch (i + 1) = ⟨(tkI l arch i).out ++ [k], (tkI l arch i).all ++ [m.what]⟩ := by
  rw [tkI_next hi, tkStep, ← nxM_zero, h, if_neg (by omega), hm]; rfl
theorem tk_miss {l : List Objt} {arch : List Member} {i : Int} (hi : 0 ≤ i) (h : nxM (tkI l arch i) arch 0 < 0) : tkI l arch (i + 1) = tkI l arch i := by
  rw [tkI_next hi, tkStep, ← nxM_zero, if_pos h]
theorem tkN_add {arch : List Member} : ∀ {n m : Nat} {st : Tk}, tkN arch (n + m) st = tkN arch m (tkN arch n st) := by
  intro n
  induction n with
  | zero => intro m st; rw [Nat.zero_add]; rfl
  | succ n ih => intro m st; rw [Nat.succ_add]; exact ih
theorem tk_done {l : List Objt} {arch : List Member} {i : Int} (h : nxM (tkI l arch i) arch 0 < 0) : tkI l arch i = taken l arch := by
  rw [nxM_zero] at h
  unfold tkI taken at *
  by_cases hn : i.toNat ≤ arch.length
  · have : arch.length = i.toNat + (arch.length - i.toNat) := by omega
    rw [this, tkN_add, tk_none h]
  · have : i.toNat = arch.length + (i.toNat - arch.length) := by omega
    rw [this, tkN_add]
    exact tk_none (taken_end l arch) _
theorem tk_free {l : List Objt} {arch : List Member} {i : Int} (hi : 0 ≤ i) (h : ¬ nxM (tkI l arch i) arch 0 < 0) : freeN arch (tkI l arch (i + 1)).out < freeN arch (tkI l arch i).out := by
  rw [tkI_next hi]
  exact tkStep_free h
/-- Is a number in a list. -/
def inI (l : List Int) (k : Int) : Bool := decide (k ∈ l)
theorem inI_iff {l : List Int} {k : Int} : inI l k = true ↔ k ∈ l := by simp [inI]
theorem inI_any {l : List Int} {k : Int} : decide (0 ≤ ixF (fun y => decide (k = y)) l 0) = inI l k := by
  rw [Bool.eq_iff_iff, decide_eq_true_iff, ixF_any (by omega), List.any_eq_true, inI_iff]; simp
theorem mem_dec {n : ByteArray} {l : List ByteArray} : l.any (fun y => decide (n = y)) = decide (n ∈ l) := by rw [Bool.eq_iff_iff, List.any_eq_true]; simp
theorem memI_dec {n : Int} {l : List Int} : l.any (fun y => decide (n = y)) = decide (n ∈ l) := by rw [Bool.eq_iff_iff, List.any_eq_true]; simp
def C_slices_Clone_impl_Object_impl_Object : Con := { ps := [.ro (.list (.st .obj))], out := fun x => let a : List (Objt) := x.1; .req (a.length ≤ 1048576) (shL (.st .obj) a), det := true }
abbrev L_slices_Clone_impl_Object_impl_Object : List (Nat × Con) := []
def G_slices_Clone_impl_Object_impl_Object : Cfg := mkG (tyL tys_) L_slices_Clone_impl_Object_impl_Object false
def an_slices_Clone_impl_Object_impl_Object : PTL C_slices_Clone_impl_Object_impl_Object.ps → Nat → Option Ann := fun _ _ => none
set_option maxRecDepth 200000 in
theorem vc_slices_Clone_impl_Object_impl_Object (a : List (Objt)) : (keeps Try.prog G_slices_Clone_impl_Object_impl_Object (an_slices_Clone_impl_Object_impl_Object (a, ())) (Try.f81.body.getD .skip) Try.f81.results.toList C_slices_Clone_impl_Object_impl_Object (a, ())) = (((∀ (x_1 : Bool), (x_1 = true →
 @Eq (List Objt) a ([] : List Objt)) →
 (x_1 = true →
 @Eq (List Objt) ([] : List Objt) a ∧ True) ∧ (x_1 = false →
 ((0 + a.length) * 48 ≤ 140737488355328 ∧ 0 + a.length ≤ 1000000000000) ∧ @Eq (List Objt) a a ∧ True)))) := by kernel_rfl
theorem det_slices_Clone_impl_Object_impl_Object : C_slices_Clone_impl_Object_impl_Object.det = true → ∀ x, (C_slices_Clone_impl_Object_impl_Object.out x).Det := fun _ x => by simp only [C_slices_Clone_impl_Object_impl_Object]; repeat (first | exact Det.ret _ | exact Det.vc' | apply Det.req)
set_option maxRecDepth 200000 in
set_option maxHeartbeats 4000000 in
theorem ok_slices_Clone_impl_Object_impl_Object : ConOK Try.prog 81 C_slices_Clone_impl_Object_impl_Object := by
  refine con_mk (wr := false) (ty := tyL tys_) (l := L_slices_Clone_impl_Object_impl_Object) trivial Try.checked.mixed (fn := Try.f81) (body := Try.f81.body.getD .skip) Try.func81 rfl (by decide) (by kernel_rfl) rfl an_slices_Clone_impl_Object_impl_Object fun x ho hx => ?_
  obtain ⟨a, ⟨⟩⟩ := x
  refine Keeps.of (vc_slices_Clone_impl_Object_impl_Object a) ?_
  revert a ho hx
  show ∀ (a : List (Objt)), _
  intro a ho hx
  dsimp only [C_slices_Clone_impl_Object_impl_Object, okPTL, okPT, Ok, Ty.cells, SN.cells, OkL, OkC, okI, ci, cb, cs, cl] at ho
  dsimp only [C_slices_Clone_impl_Object_impl_Object, vc, v1, decB, SR.pre] at hx
  (try delta i64 LN); simp only [VBt]; (repeat' first | intro _ | apply And.intro); all_goals (try omega); all_goals grind
def C_slices_Index_int_int : Con := { ps := [.ro (.list .i), .ro .i], out := fun x => let l : List (Int) := x.1; let v : Int := x.2.1; vc .i (ixF (fun y => decide (v = y)) l 0), det := true }
abbrev L_slices_Index_int_int : List (Nat × Con) := []
def G_slices_Index_int_int : Cfg := mkG (tyL tys_) L_slices_Index_int_int false
def an_slices_Index_int_int : PTL C_slices_Index_int_int.ps → Nat → Option Ann := fun x kk_ => let l : List (Int) := x.1; let v : Int := x.2.1; if kk_ = 2 then some (.all (Int) fun i => .giv (0 ≤ i ∧ i ≤ l.length ∧ ixF (fun y => decide (v = y)) l 0 = ixF (fun y => decide (v = y)) (l.drop i.toNat) i) (.mk [(8, ai i), (0, al .i l), (1, ai v), (7, ai (List.length l))] [] ((l.length - i.toNat)))) else none
set_option maxRecDepth 200000 in
theorem vc_slices_Index_int_int (l : List (Int)) (v : Int) : (keeps Try.prog G_slices_Index_int_int (an_slices_Index_int_int (l, v, ())) (Try.f111.body.getD .skip) Try.f111.results.toList C_slices_Index_int_int (l, v, ())) = ((l.length ≤ 9223372036854775807 →
 (∃ (x_1 : Int), 0 = x_1 ∧ @Eq (List Int) l l ∧ v = v ∧ LN l = LN l ∧ (0 ≤ x_1 ∧ x_1 ≤ LN l ∧ @ixF Int (fun (y_2 : Int) => decide (v = y_2)) l (0 : Int) = @ixF Int (fun (y_3 : Int) => decide (v = y_3)) (l.drop x_1.toNat) x_1) ∧ True) ∧ (∀ (x_4 : Int), 0 ≤ x_4 ∧ x_4 ≤ LN l ∧ @ixF Int (fun (y_5 : Int) => decide (v = y_5)) l (0 : Int) = @ixF Int (fun (y_6 : Int) => decide (v = y_6)) (l.drop x_4.toNat) x_4 →
 (decide (x_4 < LN l) = true →
 (0 ≤ x_4 ∧ x_4 < LN l) ∧ (∀ (x_7 : Int), l[x_4.toNat]? = some x_7 →
 Ok (Ty.int IntKind.i64) x_7 →
 (decide (v = x_7) = true →
 x_4 = @ixF Int (fun (y_8 : Int) => decide (v = y_8)) l (0 : Int) ∧ True) ∧ (decide (v = x_7) = false →
 i64 (x_4 + 1) ∧ (∃ (x_9 : Int), x_4 + 1 = x_9 ∧ @Eq (List Int) l l ∧ v = v ∧ LN l = LN l ∧ (0 ≤ x_9 ∧ x_9 ≤ LN l ∧ @ixF Int (fun (y_10 : Int) => decide (v = y_10)) l (0 : Int) = @ixF Int (fun (y_11 : Int) => decide (v = y_11)) (l.drop x_9.toNat) x_9) ∧ l.length - x_9.toNat < l.length - x_4.toNat)))) ∧ (decide (x_4 < LN l) = false →
 (- (1 : Int)) = @ixF Int (fun (y_12 : Int) => decide (v = y_12)) l (0 : Int) ∧ True)))) := by kernel_rfl
theorem det_slices_Index_int_int : C_slices_Index_int_int.det = true → ∀ x, (C_slices_Index_int_int.out x).Det := fun _ _ => Det.vc'
set_option maxRecDepth 200000 in
set_option maxHeartbeats 4000000 in
theorem ok_slices_Index_int_int : ConOK Try.prog 111 C_slices_Index_int_int := by
  refine con_mk (wr := false) (ty := tyL tys_) (l := L_slices_Index_int_int) trivial Try.checked.mixed (fn := Try.f111) (body := Try.f111.body.getD .skip) Try.func111 rfl (by decide) (by kernel_rfl) rfl an_slices_Index_int_int fun x ho hx => ?_
  obtain ⟨l, v, ⟨⟩⟩ := x
  refine Keeps.of (vc_slices_Index_int_int l v) ?_
  revert l v ho hx
  show ∀ (l : List (Int)) (v : Int), _
  intro l v ho hx
  dsimp only [C_slices_Index_int_int, okPTL, okPT, Ok, Ty.cells, SN.cells, OkL, OkC, okI, ci, cb, cs, cl] at ho
  dsimp only [C_slices_Index_int_int, vc, v1, decB, SR.pre] at hx
  (try delta i64 LN); simp only [VBt]; (repeat' first | intro _ | apply And.intro); all_goals (try omega); all_goals (try have hdr := drop_get' (l := l) (by assumption) (by assumption)); all_goals grind [ixF, drop_end]
def C_slices_Contains_int_int : Con := { ps := [.ro (.list .i), .ro .i], out := fun x => let l : List (Int) := x.1; let v : Int := x.2.1; vc .bool (inI l v), det := true }
abbrev L_slices_Contains_int_int : List (Nat × Con) := [(111, C_slices_Index_int_int)]
def G_slices_Contains_int_int : Cfg := mkG (tyL tys_) L_slices_Contains_int_int false
def an_slices_Contains_int_int : PTL C_slices_Contains_int_int.ps → Nat → Option Ann := fun _ _ => none
set_option maxRecDepth 200000 in
theorem vc_slices_Contains_int_int (l : List (Int)) (v : Int) : (keeps Try.prog G_slices_Contains_int_int (an_slices_Contains_int_int (l, v, ())) (Try.f82.body.getD .skip) Try.f82.results.toList C_slices_Contains_int_int (l, v, ())) = ((decide (0 ≤ @ixF Int (fun (y_1 : Int) => decide (v = y_1)) l (0 : Int)) = inI l v ∧ True)) := by kernel_rfl
theorem det_slices_Contains_int_int : C_slices_Contains_int_int.det = true → ∀ x, (C_slices_Contains_int_int.out x).Det := fun _ _ => Det.vc'
set_option maxRecDepth 200000 in
set_option maxHeartbeats 4000000 in
theorem ok_slices_Contains_int_int : ConOK Try.prog 82 C_slices_Contains_int_int := by
  refine con_mk (wr := false) (ty := tyL tys_) (l := L_slices_Contains_int_int) ⟨⟨ok_slices_Index_int_int, det_slices_Index_int_int⟩, trivial⟩ Try.checked.mixed (fn := Try.f82) (body := Try.f82.body.getD .skip) Try.func82 rfl (by decide) (by kernel_rfl) rfl an_slices_Contains_int_int fun x ho hx => ?_
  obtain ⟨l, v, ⟨⟩⟩ := x
  refine Keeps.of (vc_slices_Contains_int_int l v) ?_
  revert l v ho hx
  show ∀ (l : List (Int)) (v : Int), _
  intro l v ho hx
  dsimp only [C_slices_Contains_int_int, okPTL, okPT, Ok, Ty.cells, SN.cells, OkL, OkC, okI, ci, cb, cs, cl] at ho
  dsimp only [C_slices_Contains_int_int, vc, v1, decB, SR.pre] at hx
  have h := @inI_any l v
  (try delta i64 LN); simp only [VBt]; (repeat' first | intro _ | apply And.intro); all_goals (try omega); all_goals grind
def C_impl_taken_1 : Con := { ps := [.ro .str, .box (.ty (.list .str))], out := fun x => let n : ByteArray := x.1; let ms : List (ByteArray) := x.2.1; vc .bool (inB ms n), det := true }
abbrev L_impl_taken_1 : List (Nat × Con) := [(76, C_slices_Contains_string_string)]
def G_impl_taken_1 : Cfg := mkG (tyL tys_) L_impl_taken_1 false
def an_impl_taken_1 : PTL C_impl_taken_1.ps → Nat → Option Ann := fun _ _ => none
set_option maxRecDepth 200000 in
theorem vc_impl_taken_1 (n : ByteArray) (ms : List (ByteArray)) : (keeps Try.prog G_impl_taken_1 (an_impl_taken_1 (n, ms, ())) (Try.f84.body.getD .skip) Try.f84.results.toList C_impl_taken_1 (n, ms, ())) = ((inB ms n = inB ms n ∧ @Eq (List ByteArray) ms ms ∧ True)) := by kernel_rfl
theorem det_impl_taken_1 : C_impl_taken_1.det = true → ∀ x, (C_impl_taken_1.out x).Det := fun _ _ => Det.vc'
set_option maxRecDepth 200000 in
set_option maxHeartbeats 4000000 in
theorem ok_impl_taken_1 : ConOK Try.prog 84 C_impl_taken_1 := by
  refine con_mk (wr := false) (ty := tyL tys_) (l := L_impl_taken_1) ⟨⟨ok_slices_Contains_string_string, det_slices_Contains_string_string⟩, trivial⟩ Try.checked.mixed (fn := Try.f84) (body := Try.f84.body.getD .skip) Try.func84 rfl (by decide) (by kernel_rfl) rfl an_impl_taken_1 fun x ho hx => ?_
  obtain ⟨n, ms, ⟨⟩⟩ := x
  refine Keeps.of (vc_impl_taken_1 n ms) ?_
  revert n ms ho hx
  show ∀ (n : ByteArray) (ms : List (ByteArray)), _
  intro n ms ho hx
  dsimp only [C_impl_taken_1, okPTL, okPT, Ok, Ty.cells, SN.cells, OkL, OkC, okI, ci, cb, cs, cl] at ho
  dsimp only [C_impl_taken_1, vc, v1, decB, SR.pre] at hx
  (try delta i64 LN); simp only [VBt]; (repeat' first | intro _ | apply And.intro); all_goals (try omega); all_goals grind
def C_slices_IndexFunc_string_string : Con := { ps := [.ro (.list .str), .fn 84 [.ty (.list .str)]], out := fun x => let l : List (ByteArray) := x.1; let f : (List (ByteArray)) × (Unit) := x.2.1; vc .i (ixF (inB f.1) l 0), det := true }
abbrev L_slices_IndexFunc_string_string : List (Nat × Con) := [(84, C_impl_taken_1)]
def G_slices_IndexFunc_string_string : Cfg := mkG (tyL tys_) L_slices_IndexFunc_string_string false
def an_slices_IndexFunc_string_string : PTL C_slices_IndexFunc_string_string.ps → Nat → Option Ann := fun x kk_ => let l : List (ByteArray) := x.1; let f : (List (ByteArray)) × (Unit) := x.2.1; if kk_ = 2 then some (.all (Int) fun i => .giv (0 ≤ i ∧ i ≤ l.length ∧ ixF (inB f.1) l 0 = ixF (inB f.1) (l.drop i.toNat) i) (.mk [(1, .one (.fn 84 [0])), (8, ai i), (0, al .str l), (7, ai (List.length l))] [(0, lent (.list .str) f.1)] ((l.length - i.toNat)))) else none
set_option maxRecDepth 200000 in
theorem vc_slices_IndexFunc_string_string (l : List (ByteArray)) (f : (List (ByteArray)) × (Unit)) : (keeps Try.prog G_slices_IndexFunc_string_string (an_slices_IndexFunc_string_string (l, f, ())) (Try.f112.body.getD .skip) Try.f112.results.toList C_slices_IndexFunc_string_string (l, f, ())) = ((l.length ≤ 9223372036854775807 →
 (∃ (x_1 : Int), 0 = x_1 ∧ @Eq (List ByteArray) l l ∧ LN l = LN l ∧ @Eq (List ByteArray) (Prod.fst f) (Prod.fst f) ∧ (0 ≤ x_1 ∧ x_1 ≤ LN l ∧ @ixF ByteArray (inB (Prod.fst f)) l (0 : Int) = @ixF ByteArray (inB (Prod.fst f)) (l.drop x_1.toNat) x_1) ∧ True) ∧ (∀ (x_2 : Int), 0 ≤ x_2 ∧ x_2 ≤ LN l ∧ @ixF ByteArray (inB (Prod.fst f)) l (0 : Int) = @ixF ByteArray (inB (Prod.fst f)) (l.drop x_2.toNat) x_2 →
 (decide (x_2 < LN l) = true →
 (0 ≤ x_2 ∧ x_2 < LN l) ∧ (∀ (x_3 : ByteArray), l[x_2.toNat]? = some x_3 →
 Ok Ty.str x_3 →
 (inB (Prod.fst f) x_3 = true →
 x_2 = @ixF ByteArray (inB (Prod.fst f)) l (0 : Int) ∧ @Eq (List ByteArray) (Prod.fst f) (Prod.fst f) ∧ True) ∧ (inB (Prod.fst f) x_3 = false →
 i64 (x_2 + 1) ∧ (∃ (x_4 : Int), x_2 + 1 = x_4 ∧ @Eq (List ByteArray) l l ∧ LN l = LN l ∧ @Eq (List ByteArray) (Prod.fst f) (Prod.fst f) ∧ (0 ≤ x_4 ∧ x_4 ≤ LN l ∧ @ixF ByteArray (inB (Prod.fst f)) l (0 : Int) = @ixF ByteArray (inB (Prod.fst f)) (l.drop x_4.toNat) x_4) ∧ l.length - x_4.toNat < l.length - x_2.toNat)))) ∧ (decide (x_2 < LN l) = false →
 (- (1 : Int)) = @ixF ByteArray (inB (Prod.fst f)) l (0 : Int) ∧ @Eq (List ByteArray) (Prod.fst f) (Prod.fst f) ∧ True)))) := by kernel_rfl
theorem det_slices_IndexFunc_string_string : C_slices_IndexFunc_string_string.det = true → ∀ x, (C_slices_IndexFunc_string_string.out x).Det := fun _ _ => Det.vc'
set_option maxRecDepth 200000 in
set_option maxHeartbeats 4000000 in
theorem ok_slices_IndexFunc_string_string : ConOK Try.prog 112 C_slices_IndexFunc_string_string := by
  refine con_mk (wr := false) (ty := tyL tys_) (l := L_slices_IndexFunc_string_string) ⟨⟨ok_impl_taken_1, det_impl_taken_1⟩, trivial⟩ Try.checked.mixed (fn := Try.f112) (body := Try.f112.body.getD .skip) Try.func112 rfl (by decide) (by kernel_rfl) rfl an_slices_IndexFunc_string_string fun x ho hx => ?_
  obtain ⟨l, f, ⟨⟩⟩ := x
  refine Keeps.of (vc_slices_IndexFunc_string_string l f) ?_
  revert l f ho hx
  show ∀ (l : List (ByteArray)) (f : (List (ByteArray)) × (Unit)), _
  intro l f ho hx
  dsimp only [C_slices_IndexFunc_string_string, okPTL, okPT, Ok, Ty.cells, SN.cells, OkL, OkC, okI, ci, cb, cs, cl] at ho
  dsimp only [C_slices_IndexFunc_string_string, vc, v1, decB, SR.pre] at hx
  (try delta i64 LN); simp only [VBt]; (repeat' first | intro _ | apply And.intro); all_goals (try omega); all_goals (try have hdr := drop_get' (l := l) (by assumption) (by assumption)); all_goals grind [ixF, drop_end]
def C_slices_ContainsFunc_string_string : Con := { ps := [.ro (.list .str), .fn 84 [.ty (.list .str)]], out := fun x => let l : List (ByteArray) := x.1; let f : (List (ByteArray)) × (Unit) := x.2.1; vc .bool (l.any (inB f.1)), det := true }
abbrev L_slices_ContainsFunc_string_string : List (Nat × Con) := [(112, C_slices_IndexFunc_string_string)]
def G_slices_ContainsFunc_string_string : Cfg := mkG (tyL tys_) L_slices_ContainsFunc_string_string false
def an_slices_ContainsFunc_string_string : PTL C_slices_ContainsFunc_string_string.ps → Nat → Option Ann := fun _ _ => none
set_option maxRecDepth 200000 in
theorem vc_slices_ContainsFunc_string_string (l : List (ByteArray)) (f : (List (ByteArray)) × (Unit)) : (keeps Try.prog G_slices_ContainsFunc_string_string (an_slices_ContainsFunc_string_string (l, f, ())) (Try.f83.body.getD .skip) Try.f83.results.toList C_slices_ContainsFunc_string_string (l, f, ())) = ((decide (0 ≤ @ixF ByteArray (inB (Prod.fst f)) l (0 : Int)) = @List.any ByteArray l (inB (Prod.fst f)) ∧ @Eq (List ByteArray) (Prod.fst f) (Prod.fst f) ∧ True)) := by kernel_rfl
theorem det_slices_ContainsFunc_string_string : C_slices_ContainsFunc_string_string.det = true → ∀ x, (C_slices_ContainsFunc_string_string.out x).Det := fun _ _ => Det.vc'
set_option maxRecDepth 200000 in
set_option maxHeartbeats 4000000 in
theorem ok_slices_ContainsFunc_string_string : ConOK Try.prog 83 C_slices_ContainsFunc_string_string := by
  refine con_mk (wr := false) (ty := tyL tys_) (l := L_slices_ContainsFunc_string_string) ⟨⟨ok_slices_IndexFunc_string_string, det_slices_IndexFunc_string_string⟩, trivial⟩ Try.checked.mixed (fn := Try.f83) (body := Try.f83.body.getD .skip) Try.func83 rfl (by decide) (by kernel_rfl) rfl an_slices_ContainsFunc_string_string fun x ho hx => ?_
  obtain ⟨l, f, ⟨⟩⟩ := x
  refine Keeps.of (vc_slices_ContainsFunc_string_string l f) ?_
  revert l f ho hx
  show ∀ (l : List (ByteArray)) (f : (List (ByteArray)) × (Unit)), _
  intro l f ho hx
  dsimp only [C_slices_ContainsFunc_string_string, okPTL, okPT, Ok, Ty.cells, SN.cells, OkL, OkC, okI, ci, cb, cs, cl] at ho
  dsimp only [C_slices_ContainsFunc_string_string, vc, v1, decB, SR.pre] at hx
  have h := ixF_any (p := inB f.1) (l := l) (k := 0) (by omega)
  (try delta i64 LN); simp only [VBt]; (repeat' first | intro _ | apply And.intro); all_goals (try omega); all_goals grind
def C_impl_taken : Con := { ps := [.ro (.list (.st .obj)), .ro (.list (.st .member))], out := fun x => let l : List (Objt) := x.1; let arch : List (Member) := x.2.1; .req (l.all objB = true ∧ l.length ≤ 100 ∧ archB arch = true) (tkR (taken l arch)), det := true }
abbrev L_impl_taken : List (Nat × Con) := [(81, C_slices_Clone_impl_Object_impl_Object), (48, C_impl_namesMissing), (82, C_slices_Contains_int_int), (11, C_impl_NamesGiven), (84, C_impl_taken_1), (83, C_slices_ContainsFunc_string_string)]
def G_impl_taken : Cfg := mkG (tyL tys_) L_impl_taken false
def an_impl_taken : PTL C_impl_taken.ps → Nat → Option Ann := fun x kk_ => let l : List (Objt) := x.1; let arch : List (Member) := x.2.1; if kk_ = 3 then some (.all (Int) fun i => .giv (0 ≤ i ∧ i ≤ arch.length) (.mk [(16, ai i), (6, asl 20), (7, asl 21), (1, al (.st .member) arch), (15, ai (List.length arch))] [(20, .row (some 3) .i (tkI l arch i).out true), (21, .row none (.st .obj) (tkI l arch i).all false)] ((arch.length - i.toNat)))) else if kk_ = 2006 then some (.all (Int) fun i => .all (Int) fun k => .giv (0 ≤ i ∧ i < arch.length ∧ 0 ≤ k ∧ k ≤ arch.length ∧ nxM (tkI l arch i) arch 0 = nxM (tkI l arch i) arch k) (.mk [(16, ai i), (22, ai k), (6, asl 20), (7, asl 21), (8, aref 30), (1, al (.st .member) arch), (15, ai (List.length arch)), (20, al (.st .member) arch), (21, ai (List.length arch))] [(20, .row (some 3) .i (tkI l arch i).out true), (21, .row none (.st .obj) (tkI l arch i).all false), (30, bx (al .str (nMs (tkI l arch i).all)))] ((arch.length - i.toNat) * 1000 + (100 - k).toNat))) else none
set_option maxRecDepth 200000 in
theorem vc_impl_taken (l : List (Objt)) (arch : List (Member)) : (keeps Try.prog G_impl_taken (an_impl_taken (l, arch, ())) (Try.f52.body.getD .skip) Try.f52.results.toList C_impl_taken (l, arch, ())) = ((l.length ≤ 1048576 ∧ (arch.length ≤ 9223372036854775807 →
 (∃ (x_1 : Int), 0 = x_1 ∧ @Eq (List Member) arch arch ∧ LN arch = LN arch ∧ @Eq (List Int) ([] : List Int) (tkI l arch x_1).out ∧ @Eq (List Objt) l (tkI l arch x_1).all ∧ (0 ≤ x_1 ∧ x_1 ≤ LN arch) ∧ True) ∧ (∀ (x_2 : Int), 0 ≤ x_2 ∧ x_2 ≤ LN arch →
 (decide (x_2 < LN arch) = true →
 (@List.all Objt (tkI l arch x_2).all objB = true ∧ (tkI l arch x_2).all.length ≤ 1000) ∧ (arch.length ≤ 9223372036854775807 →
 (∃ (x_3 : Int), (∃ (x_4 : Int), x_2 = x_3 ∧ 0 = x_4 ∧ @Eq (List Member) arch arch ∧ LN arch = LN arch ∧ @Eq (List Member) arch arch ∧ LN arch = LN arch ∧ @Eq (List Int) (tkI l arch x_2).out (tkI l arch x_3).out ∧ @Eq (List Objt) (tkI l arch x_2).all (tkI l arch x_3).all ∧ @Eq (List ByteArray) (nMs (tkI l arch x_2).all) (nMs (tkI l arch x_3).all) ∧ (0 ≤ x_3 ∧ x_3 < LN arch ∧ 0 ≤ x_4 ∧ x_4 ≤ LN arch ∧ nxM (tkI l arch x_3) arch 0 = nxM (tkI l arch x_3) arch x_4) ∧ (∀ (x_5 : Int), (∀ (x_6 : Int), 0 ≤ x_5 ∧ x_5 < LN arch ∧ 0 ≤ x_6 ∧ x_6 ≤ LN arch ∧ nxM (tkI l arch x_5) arch 0 = nxM (tkI l arch x_5) arch x_6 →
 (arch.length - x_5.toNat) * 1000 + (100 - x_6).toNat ≤ (arch.length - x_3.toNat) * 1000 + (100 - x_4).toNat →
 (decide (x_6 < LN arch) = true →
 (0 ≤ x_6 ∧ x_6 < LN arch) ∧ (∀ (x_7 : Member), arch[x_6.toNat]? = some x_7 →
 Ok (Ty.st SN.member) x_7 →
 (Bool.not (inI (tkI l arch x_5).out x_6) = true →
 (@List.any ByteArray (namesG (Member.what x_7)) (inB (nMs (tkI l arch x_5).all)) = true →
 (((tkI l arch x_5).out.length + [x_6].length) * 8 ≤ 140737488355328 ∧ (tkI l arch x_5).out.length + [x_6].length ≤ 1000000000000) ∧ (((tkI l arch x_5).all.length + [Member.what x_7].length) * 48 ≤ 140737488355328 ∧ (tkI l arch x_5).all.length + [Member.what x_7].length ≤ 1000000000000) ∧ i64 (x_5 + 1) ∧ (∃ (x_8 : Int), x_5 + 1 = x_8 ∧ @Eq (List Member) arch arch ∧ LN arch = LN arch ∧ @Eq (List Int) ((tkI l arch x_5).out ++ [x_6]) (tkI l arch x_8).out ∧ @Eq (List Objt) ((tkI l arch x_5).all ++ [Member.what x_7]) (tkI l arch x_8).all ∧ (0 ≤ x_8 ∧ x_8 ≤ LN arch) ∧ arch.length - x_8.toNat < arch.length - x_2.toNat)) ∧ (@List.any ByteArray (namesG (Member.what x_7)) (inB (nMs (tkI l arch x_5).all)) = false →
 i64 (x_6 + 1) ∧ (∃ (x_9 : Int), (∃ (x_10 : Int), x_5 = x_9 ∧ x_6 + 1 = x_10 ∧ @Eq (List Member) arch arch ∧ LN arch = LN arch ∧ @Eq (List Member) arch arch ∧ LN arch = LN arch ∧ @Eq (List Int) (tkI l arch x_5).out (tkI l arch x_9).out ∧ @Eq (List Objt) (tkI l arch x_5).all (tkI l arch x_9).all ∧ @Eq (List ByteArray) (nMs (tkI l arch x_5).all) (nMs (tkI l arch x_9).all) ∧ (0 ≤ x_9 ∧ x_9 < LN arch ∧ 0 ≤ x_10 ∧ x_10 ≤ LN arch ∧ nxM (tkI l arch x_9) arch 0 = nxM (tkI l arch x_9) arch x_10) ∧ (arch.length - x_9.toNat) * 1000 + (100 - x_10).toNat < (arch.length - x_5.toNat) * 1000 + (100 - x_6).toNat)))) ∧ (Bool.not (inI (tkI l arch x_5).out x_6) = false →
 i64 (x_6 + 1) ∧ (∃ (x_11 : Int), (∃ (x_12 : Int), x_5 = x_11 ∧ x_6 + 1 = x_12 ∧ @Eq (List Member) arch arch ∧ LN arch = LN arch ∧ @Eq (List Member) arch arch ∧ LN arch = LN arch ∧ @Eq (List Int) (tkI l arch x_5).out (tkI l arch x_11).out ∧ @Eq (List Objt) (tkI l arch x_5).all (tkI l arch x_11).all ∧ @Eq (List ByteArray) (nMs (tkI l arch x_5).all) (nMs (tkI l arch x_11).all) ∧ (0 ≤ x_11 ∧ x_11 < LN arch ∧ 0 ≤ x_12 ∧ x_12 ≤ LN arch ∧ nxM (tkI l arch x_11) arch 0 = nxM (tkI l arch x_11) arch x_12) ∧ (arch.length - x_11.toNat) * 1000 + (100 - x_12).toNat < (arch.length - x_5.toNat) * 1000 + (100 - x_6).toNat))))) ∧ (decide (x_6 < LN arch) = false →
 i64 (x_5 + 1) ∧ (∃ (x_13 : Int), x_5 + 1 = x_13 ∧ @Eq (List Member) arch arch ∧ LN arch = LN arch ∧ @Eq (List Int) (tkI l arch x_5).out (tkI l arch x_13).out ∧ @Eq (List Objt) (tkI l arch x_5).all (tkI l arch x_13).all ∧ (0 ≤ x_13 ∧ x_13 ≤ LN arch) ∧ arch.length - x_13.toNat < arch.length - x_2.toNat)))))))) ∧ (decide (x_2 < LN arch) = false →
 @Eq (List Objt) (tkI l arch x_2).all (taken l arch).all ∧ @Eq (List Int) (tkI l arch x_2).out (taken l arch).out ∧ True))))) := by kernel_rfl
theorem det_impl_taken : C_impl_taken.det = true → ∀ x, (C_impl_taken.out x).Det := fun _ x => by simp only [C_impl_taken]; repeat (first | exact Det.ret _ | exact Det.vc' | apply Det.req | apply Det.giv | apply Det.fork | apply Det.bif' | intro _)
set_option maxRecDepth 200000 in
set_option maxHeartbeats 4000000 in
theorem ok_impl_taken : ConOK Try.prog 52 C_impl_taken := by
  refine con_mk (wr := false) (ty := tyL tys_) (l := L_impl_taken) ⟨⟨ok_slices_Clone_impl_Object_impl_Object, det_slices_Clone_impl_Object_impl_Object⟩, ⟨⟨ok_impl_namesMissing, det_impl_namesMissing⟩, ⟨⟨ok_slices_Contains_int_int, det_slices_Contains_int_int⟩, ⟨⟨ok_impl_NamesGiven, det_impl_NamesGiven⟩, ⟨⟨ok_impl_taken_1, det_impl_taken_1⟩, ⟨⟨ok_slices_ContainsFunc_string_string, det_slices_ContainsFunc_string_string⟩, trivial⟩⟩⟩⟩⟩⟩ Try.checked.mixed (fn := Try.f52) (body := Try.f52.body.getD .skip) Try.func52 rfl (by decide) (by kernel_rfl) rfl an_impl_taken fun x ho hx => ?_
  obtain ⟨l, arch, ⟨⟩⟩ := x
  refine Keeps.of (vc_impl_taken l arch) ?_
  revert l arch ho hx
  show ∀ (l : List (Objt)) (arch : List (Member)), _
  intro l arch ho hx
  dsimp only [C_impl_taken, okPTL, okPT, Ok, Ty.cells, SN.cells, OkL, OkC, okI, ci, cb, cs, cl] at ho
  dsimp only [C_impl_taken, vc, v1, decB, SR.pre] at hx
  have hv := fun i => @tkI_val l arch i hx.1.1 hx.1.2.2
  have hl := fun i => @tkI_len l arch i
  have ha := archB_all hx.1.2.2
  have h1 := @tk_hit l arch
  have h2 := @tk_miss l arch
  have h3 := fun i k m => @nxM_at (tkI l arch i) arch k m
  have h4 := fun i k => @nxM_end (tkI l arch i) arch k
  have h5 := @tkI_end l arch
  have h6 := @tkI_zero l arch
  have h7 : ∀ i m, hasM (tkI l arch i).all m = (namesG m.what).any (inB (nMs (tkI l arch i).all)) := fun _ _ => rfl
  have h8 := fun i k => @inI_iff (tkI l arch i).out k
  (try delta i64 LN); simp only [VBt]; (repeat' first | intro _ | apply And.intro); all_goals (try omega)
  all_goals (try grind)
def C_impl_TakeMembers : Con := { ps := [.ro (.list (.st .obj)), .ro (.list (.st .member))], out := fun x => let l : List (Objt) := x.1; let arch : List (Member) := x.2.1; newL .i (takV l arch), det := true }
abbrev L_impl_TakeMembers : List (Nat × Con) := [(41, C_impl_ObjectsValid), (51, C_impl_ArchiveValid), (52, C_impl_taken)]
def G_impl_TakeMembers : Cfg := mkG (tyL tys_) L_impl_TakeMembers false
def an_impl_TakeMembers : PTL C_impl_TakeMembers.ps → Nat → Option Ann := fun _ _ => none
set_option maxRecDepth 200000 in
theorem vc_impl_TakeMembers (l : List (Objt)) (arch : List (Member)) : (keeps Try.prog G_impl_TakeMembers (an_impl_TakeMembers (l, arch, ())) (Try.f24.body.getD .skip) Try.f24.results.toList C_impl_TakeMembers (l, arch, ())) = (((Bool.not (objsB l) = true →
 @Eq (List Int) ([] : List Int) (takV l arch) ∧ True) ∧ (Bool.not (objsB l) = false →
 (Bool.not (archB arch) = true →
 @Eq (List Int) ([] : List Int) (takV l arch) ∧ True) ∧ (Bool.not (archB arch) = false →
 (@List.all Objt l objB = true ∧ l.length ≤ 100 ∧ archB arch = true) ∧ @Eq (List Int) (taken l arch).out (takV l arch) ∧ True)))) := by kernel_rfl
theorem det_impl_TakeMembers : C_impl_TakeMembers.det = true → ∀ x, (C_impl_TakeMembers.out x).Det := fun _ x => by simp only [C_impl_TakeMembers]; repeat (first | exact Det.ret _ | exact Det.vc' | apply Det.req)
set_option maxRecDepth 200000 in
set_option maxHeartbeats 4000000 in
theorem ok_impl_TakeMembers : ConOK Try.prog 24 C_impl_TakeMembers := by
  refine con_mk (wr := false) (ty := tyL tys_) (l := L_impl_TakeMembers) ⟨⟨ok_impl_ObjectsValid, det_impl_ObjectsValid⟩, ⟨⟨ok_impl_ArchiveValid, det_impl_ArchiveValid⟩, ⟨⟨ok_impl_taken, det_impl_taken⟩, trivial⟩⟩⟩ Try.checked.mixed (fn := Try.f24) (body := Try.f24.body.getD .skip) Try.func24 rfl (by decide) (by kernel_rfl) rfl an_impl_TakeMembers fun x ho hx => ?_
  obtain ⟨l, arch, ⟨⟩⟩ := x
  refine Keeps.of (vc_impl_TakeMembers l arch) ?_
  revert l arch ho hx
  show ∀ (l : List (Objt)) (arch : List (Member)), _
  intro l arch ho hx
  dsimp only [C_impl_TakeMembers, okPTL, okPT, Ok, Ty.cells, SN.cells, OkL, OkC, okI, ci, cb, cs, cl] at ho
  dsimp only [C_impl_TakeMembers, vc, v1, decB, SR.pre] at hx
  have h := @objsB_all l
  (try delta i64 LN); simp only [VBt]; (repeat' first | intro _ | apply And.intro); all_goals (try omega); all_goals (try grind [takV])
def tkB (arch : List Member) (out : List Int) : List Bool := (List.range arch.length).map fun k : Nat => decide ((k : Int) ∈ out)
theorem tkB_len {arch : List Member} {out : List Int} : (tkB arch out).length = arch.length := by simp [tkB]
theorem tkB_get {arch : List Member} {out : List Int} {k : Int} {y : Bool} (hk : 0 ≤ k) (h : (tkB arch out)[k.toNat]? = some y) : y = decide (k ∈ out) := by
  unfold tkB at h
  rw [List.getElem?_map, Option.map_eq_some_iff] at h
  obtain ⟨j, h1, h2⟩ := h
  have h3 := List.getElem?_eq_some_iff.1 h1
  obtain ⟨h4, h5⟩ := h3
  rw [List.getElem_range] at h5
  subst h5
  rw [← h2]
  have : ((k.toNat : Nat) : Int) = k := by omega
  rw [this]
theorem tkB_nil {arch : List Member} : List.replicate arch.length false = tkB arch [] := by
  unfold tkB
  refine List.ext_getElem? fun i => ?_
  rw [List.getElem?_replicate, List.getElem?_map]
  by_cases h : i < arch.length
  · rw [if_pos h, List.getElem?_range h]; simp
  · rw [if_neg h, List.getElem?_eq_none (by simp; omega)]; rfl
theorem tkB_set {arch : List Member} {out : List Int} {k : Int} (hk : 0 ≤ k) (hl : k < arch.length) : (tkB arch out).set k.toNat true = tkB arch (out ++ [k]) := by
  unfold tkB
  refine List.ext_getElem? fun i => ?_
  rw [List.getElem?_set, List.getElem?_map, List.getElem?_map, List.length_map, List.length_range]
  split
  · rename_i h
    subst h
    rw [if_pos (by omega), List.getElem?_range (by omega)]
    simp only [Option.map_some, Option.some.injEq]
    symm
    simp only [decide_eq_true_eq, List.mem_append, List.mem_singleton]
    right; omega
  · rename_i h
    by_cases hi : i < arch.length
    · rw [List.getElem?_range hi]
      simp only [Option.map_some, Option.some.injEq, List.mem_append, List.mem_singleton, decide_eq_decide]
      constructor
      · exact .inl
      · rintro (h' | h')
        · exact h'
        · omega
    · rw [List.getElem?_eq_none (by simpa using hi)]; rfl
/-- The names that a member gives, by its number. -/
def arcG (arch : List Member) (k : Int) : List ByteArray := match arch[k.toNat]? with | some m => namesG m.what | none => []
theorem arcG_eq {arch : List Member} {k : Int} {m : Member} (h : arch[k.toNat]? = some m) : arcG arch k = namesG m.what := by simp [arcG, h]
theorem arcG_12 (arch : List Member) (k : Int) : (arcG arch k).length ≤ 12 := by
  unfold arcG
  split
  · exact namesG_12 _
  · simp
/-- Which member is next, as one goes on through names. -/
def nxJ (st : Tk) (arch : List Member) (k j : Int) : Int := if ¬ k ∈ st.out ∧ ((arcG arch k).take j.toNat).any (fun n => decide (n ∈ nMs st.all)) = true then k else nxM st arch (k + 1)
def nxI (st : Tk) (arch : List Member) (k j i : Int) : Int := if ((arcG arch k).take j.toNat).any (fun n => decide (n ∈ nMs st.all)) = true ∨ (∃ n, (arcG arch k)[j.toNat]? = some n ∧ n ∈ (nMs st.all).take i.toNat) then k else nxM st arch (k + 1)
theorem nxJ_zero {st : Tk} {arch : List Member} {k : Int} : nxJ st arch k 0 = nxM st arch (k + 1) := by simp [nxJ]
theorem nxJ_out {st : Tk} {arch : List Member} {k j : Int} {m : Member} (hk : 0 ≤ k) (hm : arch[k.toNat]? = some m) (h : k ∈ st.out) : nxJ st arch k j = nxM st arch k := by
  rw [nxM_at hk hm, nxJ, if_neg fun h' => h'.1 h, if_neg fun h' => h'.1 h]
theorem nxJ_end {st : Tk} {arch : List Member} {k j : Int} {m : Member} (hk : 0 ≤ k) (hm : arch[k.toNat]? = some m) (h : ((arcG arch k).length : Int) ≤ j) : nxJ st arch k j = nxM st arch k := by
  rw [nxM_at hk hm, nxJ, List.take_of_length_le (by omega), arcG_eq hm]; rfl
theorem nxI_zero {st : Tk} {arch : List Member} {k j : Int} (h : ¬ k ∈ st.out) : nxI st arch k j 0 = nxJ st arch k j := by
  simp [nxI, nxJ, h]
theorem nxI_end {st : Tk} {arch : List Member} {k j i : Int} {n : ByteArray} (hj : 0 ≤ j) (hn : (arcG arch k)[j.toNat]? = some n) (h : ¬ k ∈ st.out) (hi : ((nMs st.all).length : Int) ≤ i) : nxI st arch k j i = nxJ st arch k (j + 1) := by
  unfold nxI nxJ
  rw [List.take_of_length_le (l := nMs st.all) (by omega), toNat_succ hj, take_snoc hn, List.any_append, hn]
  simp [h]
theorem nxI_hit {st : Tk} {arch : List Member} {k j i : Int} {n x : ByteArray} (hi : 0 ≤ i) (hn : (arcG arch k)[j.toNat]? = some n) (hx : (nMs st.all)[i.toNat]? = some x) (h : x = n) : nxI st arch k j (i + 1) = k := by
  unfold nxI
  rw [if_pos]
  right
  refine ⟨n, hn, ?_⟩
  rw [toNat_succ hi, take_snoc hx, h]
  simp
theorem nxI_miss {st : Tk} {arch : List Member} {k j i : Int} {n x : ByteArray} (hi : 0 ≤ i) (hn : (arcG arch k)[j.toNat]? = some n) (hx : (nMs st.all)[i.toNat]? = some x) (h : x ≠ n) : nxI st arch k j (i + 1) = nxI st arch k j i := by
  unfold nxI
  rw [toNat_succ hi, take_snoc hx, hn]
  have : ∀ y, (some n = some y ∧ y ∈ (nMs st.all).take i.toNat ++ [x]) ↔ (some n = some y ∧ y ∈ (nMs st.all).take i.toNat) := fun y => by
    simp only [Option.some.injEq, List.mem_append, List.mem_singleton]
    constructor
    · rintro ⟨rfl, h1 | h1⟩
      · exact ⟨rfl, h1⟩
      · exact absurd h1.symm h
    · rintro ⟨rfl, h1⟩; exact ⟨rfl, .inl h1⟩
  simp only [this]
theorem nMs_len {l : List Objt} (h : l.all objB = true) (hl : l.length ≤ 8) : (nMs l).length ≤ 96 := by
  have h1 := (sortU_len (flt (missS l) l)).1
  have h2 := flt_len (p := missS l) h
  unfold nMs
  omega
theorem nxM_bd {st : Tk} {arch : List Member} {k : Int} (hk : 0 ≤ k) : nxM st arch k = -1 ∨ (k ≤ nxM st arch k ∧ nxM st arch k < arch.length ∧ ∃ m, arch[(nxM st arch k).toNat]? = some m) := by
  unfold nxM
  rcases nextM_spec (all := st.all) (out := st.out) (l := arch.drop k.toNat) (k := k) hk with ⟨h1, _⟩ | ⟨i, m, h1, h2, _⟩
  · exact .inl h1
  · right
    rw [h1]
    rw [List.getElem?_drop] at h2
    have := lt_of_some h2
    exact ⟨by omega, by omega, m, by rw [show (k + (i : Int)).toNat = k.toNat + i by omega]; exact h2⟩
theorem freeN_4 {arch : List Member} {out : List Int} (h : archB arch = true) : freeN arch out ≤ 4 := Nat.le_trans (freeN_le _ _) (archB_all h).2
theorem takV_no {l : List Objt} {arch : List Member} (h : objsB l = false ∨ archB arch = false) : takV l arch = [] := by
  unfold takV; rcases h with h | h <;> simp [h]
theorem takV_yes {l : List Objt} {arch : List Member} (h : objsB l = true) (h' : archB arch = true) : takV l arch = (taken l arch).out := by simp [takV, h, h']
/-- A state that is reached. -/
def TkR (l : List Objt) (arch : List Member) (o : List Int) (a : List Objt) : Prop := ∃ n : Nat, tkI l arch n = ⟨o, a⟩
theorem TkR_zero {l : List Objt} {arch : List Member} : TkR l arch [] l := ⟨0, rfl⟩
theorem TkR_next {l : List Objt} {arch : List Member} {o : List Int} {a : List Objt} {k : Int} {m : Member} (h : TkR l arch o a) (hk : 0 ≤ k) (hn : nxM ⟨o, a⟩ arch 0 = k) (hm : arch[k.toNat]? = some m) : TkR l arch (o ++ [k]) (a ++ [m.what]) := by
  obtain ⟨n, h⟩ := h
  refine ⟨n + 1, ?_⟩
  have := tk_hit (l := l) (arch := arch) (i := n) (by omega) hk (by rw [h]; exact hn) hm
  rw [h] at this
  rw [← this]
  congr 1
theorem TkR_done {l : List Objt} {arch : List Member} {o : List Int} {a : List Objt} (h : TkR l arch o a) (hn : nxM ⟨o, a⟩ arch 0 < 0) : o = (taken l arch).out := by
  obtain ⟨n, h⟩ := h
  have := tk_done (l := l) (arch := arch) (i := n) (by rw [h]; exact hn)
  rw [← this, h]
theorem TkR_val {l : List Objt} {arch : List Member} {o : List Int} {a : List Objt} (h : TkR l arch o a) (hl : objsB l = true) (ha : archB arch = true) : a.all objB = true ∧ a.length ≤ 8 ∧ o.length ≤ 4 := by
  obtain ⟨n, h⟩ := h
  have h1 := tkI_val (i := n) (objsB_all hl).1 ha
  have h2 := tkI_len (l := l) (arch := arch) (i := n)
  have h3 := (objsB_all hl).2
  have h4 := (archB_all ha).2
  rw [h] at h1 h2
  simp only at h1 h2
  exact ⟨h1, by omega, by omega⟩
theorem TkR_free {l : List Objt} {arch : List Member} {o : List Int} {a : List Objt} {k : Int} {m : Member} (h : TkR l arch o a) (hk : 0 ≤ k) (hn : nxM ⟨o, a⟩ arch 0 = k) (hm : arch[k.toNat]? = some m) : freeN arch (o ++ [k]) < freeN arch o := by
  obtain ⟨n, h⟩ := h
  have h1 := tk_free (l := l) (arch := arch) (i := n) (by omega) (by rw [h, hn]; omega)
  have h2 := tk_hit (l := l) (arch := arch) (i := n) (by omega) hk (by rw [h]; exact hn) hm
  rw [h2, h] at h1
  exact h1
theorem nxJ_out' {o : List Int} {a : List Objt} {arch : List Member} {k j : Int} {y : Bool} (hk : 0 ≤ k) (hl : k < arch.length) (h : (tkB arch o)[k.toNat]? = some y) (hy : y = true) : nxJ ⟨o, a⟩ arch k j = nxM ⟨o, a⟩ arch k := by
  have := tkB_get hk h
  rw [hy] at this
  exact nxJ_out hk (List.getElem?_eq_getElem (by omega)) (of_decide_eq_true this.symm)
theorem nxJ_end' {o : List Int} {a : List Objt} {arch : List Member} {k j : Int} (hk : 0 ≤ k) (hl : k < arch.length) (h : ((arcG arch k).length : Int) ≤ j) : nxJ ⟨o, a⟩ arch k j = nxM ⟨o, a⟩ arch k := nxJ_end hk (List.getElem?_eq_getElem (by omega)) h
theorem inI_no {o : List Int} {k : Int} (h : inI o k = false) : ¬ k ∈ o := fun hc => by rw [inI_iff.2 hc] at h; cases h
theorem inI_tkB {o : List Int} {arch : List Member} {k : Int} {y : Bool} (hk : 0 ≤ k) (h : (tkB arch o)[k.toNat]? = some y) (hy : y = false) : inI o k = false := by
  have := tkB_get hk h
  rw [← hy, this]; rfl
theorem nxI_zero' {o : List Int} {a : List Objt} {arch : List Member} {k j : Int} (h : inI o k = false) : nxI ⟨o, a⟩ arch k j 0 = nxJ ⟨o, a⟩ arch k j := nxI_zero (inI_no h)
theorem nxI_end' {o : List Int} {a : List Objt} {arch : List Member} {k j i : Int} (hj : 0 ≤ j) (hl : j < (arcG arch k).length) (h : inI o k = false) (hi : ((nMs a).length : Int) ≤ i) : nxI ⟨o, a⟩ arch k j i = nxJ ⟨o, a⟩ arch k (j + 1) := nxI_end hj (List.getElem?_eq_getElem (by omega)) (inI_no h) hi
def C_spec_TakeMembers : Con := { ps := [.ro (.list (.st .obj)), .ro (.list (.st .member))], out := fun x => let l : List (Objt) := x.1; let arch : List (Member) := x.2.1; newL .i (takV l arch), det := true }
abbrev L_spec_TakeMembers : List (Nat × Con) := [(46, C_spec_ObjectsValid), (53, C_spec_ArchiveValid), (54, C_spec_l17Open), (13, C_spec_NamesGiven)]
def G_spec_TakeMembers : Cfg := mkG (tyL tys_) L_spec_TakeMembers false
def an_spec_TakeMembers : PTL C_spec_TakeMembers.ps → Nat → Option Ann := fun x kk_ => let l : List (Objt) := x.1; let arch : List (Member) := x.2.1; if kk_ = 6 then some (.all (List Int) fun o => .all (List Objt) fun a => .giv (objsB l = true ∧ archB arch = true ∧ TkR l arch o a) (.mk [(5, asl 20), (6, asl 21), (7, asl 22), (1, al (.st .member) arch)] [(20, .row (some 3) .i o true), (21, .row none (.st .obj) a false), (22, .row (some 4) .bool (tkB arch o) true)] (freeN arch o))) else if kk_ = 2009 then some (.all (List Int) fun o => .all (List Objt) fun a => .all (List ByteArray) fun ms => .all (Int) fun nx => .all (Int) fun k => .giv (objsB l = true ∧ archB arch = true ∧ TkR l arch o a ∧ ms = nMs a ∧ nx = nxM ⟨o, a⟩ arch (k + 1) ∧ -1 ≤ k ∧ k < arch.length) (.mk [(10, ai k), (5, asl 20), (6, asl 21), (7, asl 22), (8, al .str ms), (9, ai nx), (1, al (.st .member) arch)] [(20, .row (some 3) .i o true), (21, .row none (.st .obj) a false), (22, .row (some 4) .bool (tkB arch o) true)] (freeN arch o * 1000000000 + (k + 1).toNat * 1000000))) else if kk_ = 2013 then some (.all (List Int) fun o => .all (List Objt) fun a => .all (List ByteArray) fun ms => .all (Int) fun nx => .all (Int) fun k => .all (Int) fun j => .giv (objsB l = true ∧ archB arch = true ∧ TkR l arch o a ∧ ms = nMs a ∧ nx = nxJ ⟨o, a⟩ arch k j ∧ 0 ≤ k ∧ k < arch.length ∧ 0 ≤ j ∧ j ≤ (arcG arch k).length) (.mk [(10, ai k), (12, ai j), (5, asl 20), (6, asl 21), (7, asl 22), (8, al .str ms), (9, ai nx), (11, al .str (arcG arch k)), (1, al (.st .member) arch)] [(20, .row (some 3) .i o true), (21, .row none (.st .obj) a false), (22, .row (some 4) .bool (tkB arch o) true)] (freeN arch o * 1000000000 + (k + 1).toNat * 1000000 + (100 - j).toNat * 1000))) else if kk_ = 2016 then some (.all (List Int) fun o => .all (List Objt) fun a => .all (List ByteArray) fun ms => .all (Int) fun nx => .all (Int) fun k => .all (Int) fun j => .all (Int) fun i => .giv (objsB l = true ∧ archB arch = true ∧ TkR l arch o a ∧ ms = nMs a ∧ nx = nxI ⟨o, a⟩ arch k j i ∧ 0 ≤ k ∧ k < arch.length ∧ 0 ≤ j ∧ j < (arcG arch k).length ∧ inI o k = false ∧ 0 ≤ i ∧ i ≤ ms.length) (.mk [(10, ai k), (12, ai j), (13, ai i), (5, asl 20), (6, asl 21), (7, asl 22), (8, al .str ms), (9, ai nx), (11, al .str (arcG arch k)), (1, al (.st .member) arch)] [(20, .row (some 3) .i o true), (21, .row none (.st .obj) a false), (22, .row (some 4) .bool (tkB arch o) true)] (freeN arch o * 1000000000 + (k + 1).toNat * 1000000 + (100 - j).toNat * 1000 + (200 - i).toNat))) else none
set_option maxRecDepth 200000 in
theorem vc_spec_TakeMembers (l : List (Objt)) (arch : List (Member)) : (keeps Try.prog G_spec_TakeMembers (an_spec_TakeMembers (l, arch, ())) (Try.f26.body.getD .skip) Try.f26.results.toList C_spec_TakeMembers (l, arch, ())) = (((Bool.not (objsB l) = true →
 @Eq (List Int) ([] : List Int) (takV l arch) ∧ True) ∧ (Bool.not (objsB l) = false →
 (Bool.not (archB arch) = true →
 @Eq (List Int) ([] : List Int) (takV l arch) ∧ True) ∧ (Bool.not (archB arch) = false →
 ((0 + l.length) * 48 ≤ 140737488355328 ∧ 0 + l.length ≤ 1000000000000) ∧ (arch.length ≤ 9223372036854775807 →
 (LN arch = LN arch ∧ 0 ≤ LN arch ∧ LN arch ≤ 1000000000000 ∧ @Nat.cast Int _ (1 : Nat) * LN arch ≤ 140737488355328) ∧ (∃ (x_1 : List Int), (∃ (x_2 : List Objt), @Eq (List Member) arch arch ∧ @Eq (List Int) ([] : List Int) x_1 ∧ @Eq (List Objt) l x_2 ∧ @Eq (List Bool) (@repl Bool (LN arch) false) (tkB arch x_1) ∧ (objsB l = true ∧ archB arch = true ∧ TkR l arch x_1 x_2) ∧ True)) ∧ (∀ (x_3 : List Int), (∀ (x_4 : List Objt), objsB l = true ∧ archB arch = true ∧ TkR l arch x_3 x_4 →
 (@List.all Objt x_4 objB = true ∧ x_4.length ≤ 1000) ∧ (arch.length ≤ 9223372036854775807 →
 i64 (LN arch - 1) ∧ (∃ (x_5 : List Int), (∃ (x_6 : List Objt), (∃ (x_7 : List ByteArray), (∃ (x_8 : Int), (∃ (x_9 : Int), LN arch - 1 = x_9 ∧ @Eq (List ByteArray) (nMs x_4) x_7 ∧ (- (1 : Int)) = x_8 ∧ @Eq (List Member) arch arch ∧ @Eq (List Int) x_3 x_5 ∧ @Eq (List Objt) x_4 x_6 ∧ @Eq (List Bool) (tkB arch x_3) (tkB arch x_5) ∧ (objsB l = true ∧ archB arch = true ∧ TkR l arch x_5 x_6 ∧ @Eq (List ByteArray) x_7 (nMs x_6) ∧ x_8 = nxM (Tk.mk x_5 x_6) arch (x_9 + 1) ∧ (- (1 : Int)) ≤ x_9 ∧ x_9 < LN arch) ∧ (∀ (x_10 : List Int), (∀ (x_11 : List Objt), (∀ (x_12 : List ByteArray), (∀ (x_13 : Int), (∀ (x_14 : Int), objsB l = true ∧ archB arch = true ∧ TkR l arch x_10 x_11 ∧ @Eq (List ByteArray) x_12 (nMs x_11) ∧ x_13 = nxM (Tk.mk x_10 x_11) arch (x_14 + 1) ∧ (- (1 : Int)) ≤ x_14 ∧ x_14 < LN arch →
 freeN arch x_10 * 1000000000 + (x_14 + 1).toNat * 1000000 ≤ freeN arch x_5 * 1000000000 + (x_9 + 1).toNat * 1000000 →
 (decide (0 ≤ x_14) = true →
 (0 ≤ x_14 ∧ x_14 < LN arch) ∧ (∀ (x_15 : Member), arch[x_14.toNat]? = some x_15 →
 Ok (Ty.st SN.member) x_15 →
 (∃ (x_16 : List Int), (∃ (x_17 : List Objt), (∃ (x_18 : List ByteArray), (∃ (x_19 : Int), (∃ (x_20 : Int), (∃ (x_21 : Int), x_14 = x_20 ∧ 0 = x_21 ∧ @Eq (List ByteArray) x_12 x_18 ∧ x_13 = x_19 ∧ @Eq (List ByteArray) (namesG (Member.what x_15)) (arcG arch x_20) ∧ @Eq (List Member) arch arch ∧ @Eq (List Int) x_10 x_16 ∧ @Eq (List Objt) x_11 x_17 ∧ @Eq (List Bool) (tkB arch x_10) (tkB arch x_16) ∧ (objsB l = true ∧ archB arch = true ∧ TkR l arch x_16 x_17 ∧ @Eq (List ByteArray) x_18 (nMs x_17) ∧ x_19 = nxJ (Tk.mk x_16 x_17) arch x_20 x_21 ∧ 0 ≤ x_20 ∧ x_20 < LN arch ∧ 0 ≤ x_21 ∧ x_21 ≤ LN (arcG arch x_20)) ∧ (∀ (x_22 : List Int), (∀ (x_23 : List Objt), (∀ (x_24 : List ByteArray), (∀ (x_25 : Int), (∀ (x_26 : Int), (∀ (x_27 : Int), objsB l = true ∧ archB arch = true ∧ TkR l arch x_22 x_23 ∧ @Eq (List ByteArray) x_24 (nMs x_23) ∧ x_25 = nxJ (Tk.mk x_22 x_23) arch x_26 x_27 ∧ 0 ≤ x_26 ∧ x_26 < LN arch ∧ 0 ≤ x_27 ∧ x_27 ≤ LN (arcG arch x_26) →
 freeN arch x_22 * 1000000000 + (x_26 + 1).toNat * 1000000 + (100 - x_27).toNat * 1000 ≤ freeN arch x_16 * 1000000000 + (x_20 + 1).toNat * 1000000 + (100 - x_21).toNat * 1000 →
 (arcG arch x_26).length ≤ 9223372036854775807 →
 (decide (x_27 < LN (arcG arch x_26)) = true →
 (0 ≤ x_26 ∧ x_26 < LN (tkB arch x_22)) ∧ (∀ (x_28 : Bool), (tkB arch x_22)[x_26.toNat]? = some x_28 →
 Ok Ty.bool x_28 →
 (Bool.not x_28 = true →
 (∃ (x_29 : List Int), (∃ (x_30 : List Objt), (∃ (x_31 : List ByteArray), (∃ (x_32 : Int), (∃ (x_33 : Int), (∃ (x_34 : Int), (∃ (x_35 : Int), x_26 = x_33 ∧ x_27 = x_34 ∧ 0 = x_35 ∧ @Eq (List ByteArray) x_24 x_31 ∧ x_25 = x_32 ∧ @Eq (List ByteArray) (arcG arch x_26) (arcG arch x_33) ∧ @Eq (List Member) arch arch ∧ @Eq (List Int) x_22 x_29 ∧ @Eq (List Objt) x_23 x_30 ∧ @Eq (List Bool) (tkB arch x_22) (tkB arch x_29) ∧ (objsB l = true ∧ archB arch = true ∧ TkR l arch x_29 x_30 ∧ @Eq (List ByteArray) x_31 (nMs x_30) ∧ x_32 = nxI (Tk.mk x_29 x_30) arch x_33 x_34 x_35 ∧ 0 ≤ x_33 ∧ x_33 < LN arch ∧ 0 ≤ x_34 ∧ x_34 < LN (arcG arch x_33) ∧ inI x_29 x_33 = false ∧ 0 ≤ x_35 ∧ x_35 ≤ LN x_31) ∧ (∀ (x_36 : List Int), (∀ (x_37 : List Objt), (∀ (x_38 : List ByteArray), (∀ (x_39 : Int), (∀ (x_40 : Int), (∀ (x_41 : Int), (∀ (x_42 : Int), objsB l = true ∧ archB arch = true ∧ TkR l arch x_36 x_37 ∧ @Eq (List ByteArray) x_38 (nMs x_37) ∧ x_39 = nxI (Tk.mk x_36 x_37) arch x_40 x_41 x_42 ∧ 0 ≤ x_40 ∧ x_40 < LN arch ∧ 0 ≤ x_41 ∧ x_41 < LN (arcG arch x_40) ∧ inI x_36 x_40 = false ∧ 0 ≤ x_42 ∧ x_42 ≤ LN x_38 →
 freeN arch x_36 * 1000000000 + (x_40 + 1).toNat * 1000000 + (100 - x_41).toNat * 1000 + (200 - x_42).toNat ≤ freeN arch x_29 * 1000000000 + (x_33 + 1).toNat * 1000000 + (100 - x_34).toNat * 1000 + (200 - x_35).toNat →
 x_38.length ≤ 9223372036854775807 →
 (decide (x_42 < LN x_38) = true →
 (0 ≤ x_42 ∧ x_42 < LN x_38) ∧ (∀ (x_43 : ByteArray), x_38[x_42.toNat]? = some x_43 →
 Ok Ty.str x_43 →
 (0 ≤ x_41 ∧ x_41 < LN (arcG arch x_40)) ∧ (∀ (x_44 : ByteArray), (arcG arch x_40)[x_41.toNat]? = some x_44 →
 Ok Ty.str x_44 →
 (decide (@Eq ByteArray x_43 x_44) = true →
 i64 (x_42 + 1) ∧ (∃ (x_45 : List Int), (∃ (x_46 : List Objt), (∃ (x_47 : List ByteArray), (∃ (x_48 : Int), (∃ (x_49 : Int), (∃ (x_50 : Int), (∃ (x_51 : Int), x_40 = x_49 ∧ x_41 = x_50 ∧ x_42 + 1 = x_51 ∧ @Eq (List ByteArray) x_38 x_47 ∧ x_40 = x_48 ∧ @Eq (List ByteArray) (arcG arch x_40) (arcG arch x_49) ∧ @Eq (List Member) arch arch ∧ @Eq (List Int) x_36 x_45 ∧ @Eq (List Objt) x_37 x_46 ∧ @Eq (List Bool) (tkB arch x_36) (tkB arch x_45) ∧ (objsB l = true ∧ archB arch = true ∧ TkR l arch x_45 x_46 ∧ @Eq (List ByteArray) x_47 (nMs x_46) ∧ x_48 = nxI (Tk.mk x_45 x_46) arch x_49 x_50 x_51 ∧ 0 ≤ x_49 ∧ x_49 < LN arch ∧ 0 ≤ x_50 ∧ x_50 < LN (arcG arch x_49) ∧ inI x_45 x_49 = false ∧ 0 ≤ x_51 ∧ x_51 ≤ LN x_47) ∧ freeN arch x_45 * 1000000000 + (x_49 + 1).toNat * 1000000 + (100 - x_50).toNat * 1000 + (200 - x_51).toNat < freeN arch x_36 * 1000000000 + (x_40 + 1).toNat * 1000000 + (100 - x_41).toNat * 1000 + (200 - x_42).toNat)))))))) ∧ (decide (@Eq ByteArray x_43 x_44) = false →
 i64 (x_42 + 1) ∧ (∃ (x_52 : List Int), (∃ (x_53 : List Objt), (∃ (x_54 : List ByteArray), (∃ (x_55 : Int), (∃ (x_56 : Int), (∃ (x_57 : Int), (∃ (x_58 : Int), x_40 = x_56 ∧ x_41 = x_57 ∧ x_42 + 1 = x_58 ∧ @Eq (List ByteArray) x_38 x_54 ∧ x_39 = x_55 ∧ @Eq (List ByteArray) (arcG arch x_40) (arcG arch x_56) ∧ @Eq (List Member) arch arch ∧ @Eq (List Int) x_36 x_52 ∧ @Eq (List Objt) x_37 x_53 ∧ @Eq (List Bool) (tkB arch x_36) (tkB arch x_52) ∧ (objsB l = true ∧ archB arch = true ∧ TkR l arch x_52 x_53 ∧ @Eq (List ByteArray) x_54 (nMs x_53) ∧ x_55 = nxI (Tk.mk x_52 x_53) arch x_56 x_57 x_58 ∧ 0 ≤ x_56 ∧ x_56 < LN arch ∧ 0 ≤ x_57 ∧ x_57 < LN (arcG arch x_56) ∧ inI x_52 x_56 = false ∧ 0 ≤ x_58 ∧ x_58 ≤ LN x_54) ∧ freeN arch x_52 * 1000000000 + (x_56 + 1).toNat * 1000000 + (100 - x_57).toNat * 1000 + (200 - x_58).toNat < freeN arch x_36 * 1000000000 + (x_40 + 1).toNat * 1000000 + (100 - x_41).toNat * 1000 + (200 - x_42).toNat))))))))))) ∧ (decide (x_42 < LN x_38) = false →
 i64 (x_41 + 1) ∧ (∃ (x_59 : List Int), (∃ (x_60 : List Objt), (∃ (x_61 : List ByteArray), (∃ (x_62 : Int), (∃ (x_63 : Int), (∃ (x_64 : Int), x_40 = x_63 ∧ x_41 + 1 = x_64 ∧ @Eq (List ByteArray) x_38 x_61 ∧ x_39 = x_62 ∧ @Eq (List ByteArray) (arcG arch x_40) (arcG arch x_63) ∧ @Eq (List Member) arch arch ∧ @Eq (List Int) x_36 x_59 ∧ @Eq (List Objt) x_37 x_60 ∧ @Eq (List Bool) (tkB arch x_36) (tkB arch x_59) ∧ (objsB l = true ∧ archB arch = true ∧ TkR l arch x_59 x_60 ∧ @Eq (List ByteArray) x_61 (nMs x_60) ∧ x_62 = nxJ (Tk.mk x_59 x_60) arch x_63 x_64 ∧ 0 ≤ x_63 ∧ x_63 < LN arch ∧ 0 ≤ x_64 ∧ x_64 ≤ LN (arcG arch x_63)) ∧ freeN arch x_59 * 1000000000 + (x_63 + 1).toNat * 1000000 + (100 - x_64).toNat * 1000 < freeN arch x_22 * 1000000000 + (x_26 + 1).toNat * 1000000 + (100 - x_27).toNat * 1000)))))))))))))))))))))) ∧ (Bool.not x_28 = false →
 i64 (x_26 - 1) ∧ (∃ (x_65 : List Int), (∃ (x_66 : List Objt), (∃ (x_67 : List ByteArray), (∃ (x_68 : Int), (∃ (x_69 : Int), x_26 - 1 = x_69 ∧ @Eq (List ByteArray) x_24 x_67 ∧ x_25 = x_68 ∧ @Eq (List Member) arch arch ∧ @Eq (List Int) x_22 x_65 ∧ @Eq (List Objt) x_23 x_66 ∧ @Eq (List Bool) (tkB arch x_22) (tkB arch x_65) ∧ (objsB l = true ∧ archB arch = true ∧ TkR l arch x_65 x_66 ∧ @Eq (List ByteArray) x_67 (nMs x_66) ∧ x_68 = nxM (Tk.mk x_65 x_66) arch (x_69 + 1) ∧ (- (1 : Int)) ≤ x_69 ∧ x_69 < LN arch) ∧ freeN arch x_65 * 1000000000 + (x_69 + 1).toNat * 1000000 < freeN arch x_10 * 1000000000 + (x_14 + 1).toNat * 1000000)))))))) ∧ (decide (x_27 < LN (arcG arch x_26)) = false →
 i64 (x_26 - 1) ∧ (∃ (x_70 : List Int), (∃ (x_71 : List Objt), (∃ (x_72 : List ByteArray), (∃ (x_73 : Int), (∃ (x_74 : Int), x_26 - 1 = x_74 ∧ @Eq (List ByteArray) x_24 x_72 ∧ x_25 = x_73 ∧ @Eq (List Member) arch arch ∧ @Eq (List Int) x_22 x_70 ∧ @Eq (List Objt) x_23 x_71 ∧ @Eq (List Bool) (tkB arch x_22) (tkB arch x_70) ∧ (objsB l = true ∧ archB arch = true ∧ TkR l arch x_70 x_71 ∧ @Eq (List ByteArray) x_72 (nMs x_71) ∧ x_73 = nxM (Tk.mk x_70 x_71) arch (x_74 + 1) ∧ (- (1 : Int)) ≤ x_74 ∧ x_74 < LN arch) ∧ freeN arch x_70 * 1000000000 + (x_74 + 1).toNat * 1000000 < freeN arch x_10 * 1000000000 + (x_14 + 1).toNat * 1000000)))))))))))))))))))) ∧ (decide (0 ≤ x_14) = false →
 (decide (x_13 < 0) = true →
 @Eq (List Int) x_10 (takV l arch) ∧ True) ∧ (decide (x_13 < 0) = false →
 (0 ≤ x_13 ∧ x_13 < LN (tkB arch x_10)) ∧ (∀ (x_75 : Bool), (tkB arch x_10)[x_13.toNat]? = some x_75 →
 (0 ≤ x_13 ∧ x_13 < LN arch) ∧ (∀ (x_76 : Member), arch[x_13.toNat]? = some x_76 →
 Ok (Ty.st SN.member) x_76 →
 ((x_11.length + [Member.what x_76].length) * 48 ≤ 140737488355328 ∧ x_11.length + [Member.what x_76].length ≤ 1000000000000) ∧ ((x_10.length + [x_13].length) * 8 ≤ 140737488355328 ∧ x_10.length + [x_13].length ≤ 1000000000000) ∧ (∃ (x_77 : List Int), (∃ (x_78 : List Objt), @Eq (List Member) arch arch ∧ @Eq (List Int) (x_10 ++ [x_13]) x_77 ∧ @Eq (List Objt) (x_11 ++ [Member.what x_76]) x_78 ∧ @Eq (List Bool) ((tkB arch x_10).set x_13.toNat true) (tkB arch x_77) ∧ (objsB l = true ∧ archB arch = true ∧ TkR l arch x_77 x_78) ∧ freeN arch x_77 < freeN arch x_3)))))))))))))))))))))))) := by kernel_rfl
theorem det_spec_TakeMembers : C_spec_TakeMembers.det = true → ∀ x, (C_spec_TakeMembers.out x).Det := fun _ x => by simp only [C_spec_TakeMembers]; repeat (first | exact Det.ret _ | exact Det.vc' | apply Det.req)
set_option maxRecDepth 200000 in
set_option maxHeartbeats 4000000 in
theorem ok_spec_TakeMembers : ConOK Try.prog 26 C_spec_TakeMembers := by
  refine con_mk (wr := false) (ty := tyL tys_) (l := L_spec_TakeMembers) ⟨⟨ok_spec_ObjectsValid, det_spec_ObjectsValid⟩, ⟨⟨ok_spec_ArchiveValid, det_spec_ArchiveValid⟩, ⟨⟨ok_spec_l17Open, det_spec_l17Open⟩, ⟨⟨ok_spec_NamesGiven, det_spec_NamesGiven⟩, trivial⟩⟩⟩⟩ Try.checked.mixed (fn := Try.f26) (body := Try.f26.body.getD .skip) Try.func26 rfl (by decide) (by kernel_rfl) rfl an_spec_TakeMembers fun x ho hx => ?_
  obtain ⟨l, arch, ⟨⟩⟩ := x
  refine Keeps.of (vc_spec_TakeMembers l arch) ?_
  revert l arch ho hx
  show ∀ (l : List (Objt)) (arch : List (Member)), _
  intro l arch ho hx
  dsimp only [C_spec_TakeMembers, okPTL, okPT, Ok, Ty.cells, SN.cells, OkL, OkC, okI, ci, cb, cs, cl] at ho
  dsimp only [C_spec_TakeMembers, vc, v1, decB, SR.pre] at hx
  have hv := @TkR_val l arch
  have ha := @archB_all arch
  have hb := fun o => @tkB_len arch o
  have h12 := arcG_12 arch
  have hm := fun a => @nMs_len a
  have hf := fun o => @freeN_4 arch o
  have h1 := @TkR_next l arch
  have h2 := @TkR_free l arch
  have h3 := fun o a k => @nxM_end ⟨o, a⟩ arch k
  have h4 := @TkR_zero l arch
  have h5 := @takV_no l arch
  have h6 := @takV_yes l arch
  have h7 := @TkR_done l arch
  have h9 := fun o a k => @nxM_bd ⟨o, a⟩ arch k
  have hn : repl (arch.length : Int) false = tkB arch [] := by rw [← tkB_nil]; simp [repl]
  (try delta i64 LN); simp only [VBt]; (repeat' first | intro _ | apply And.intro); all_goals (try omega)
  all_goals (try grind [tkB_set, arcG_eq, nxJ_zero, nxJ_out', nxJ_end', nxI_zero', nxI_end', nxI_hit, nxI_miss, inI_tkB])
end Go.Proofs.Ythkefakjihafeaa
