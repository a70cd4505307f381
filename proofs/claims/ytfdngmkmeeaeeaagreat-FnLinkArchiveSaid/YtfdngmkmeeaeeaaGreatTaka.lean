/- Objects that are taken out of an archive: both packages keep the same contracts. -/
import Derived.Test.YtfdngmkmeeaeeaaGreatArca
import Derived.Test.YtfdngmkmeeaeeaaGreatResTa
set_option linter.unusedVariables false
set_option linter.unusedSimpArgs false
set_option maxRecDepth 200000
set_option maxHeartbeats 4000000
namespace Go.Proofs.YtfdngmkmeeaeeaaGreat
open Go Go.RowKit


def shL (t : Ty) (l : List t.den) : SR := .ret { val := .one (.sl 100 []), ins := [(100, .row none t l false)] }
def tkR (st : Tk) : SR := .ret { val := .tup [(false, [.sl 100 []]), (false, [.c (cl (.st .obj) st.all)])], ins := [(100, .row none .i st.out true)] }
def takV (l : List Objt) (arch : List Member) : List Int := if objsB l && archB arch then (taken l arch).out else []
def tkI (l : List Objt) (arch : List Member) (i : Int) : Tk := tkN arch i.toNat ⟨[], l⟩
theorem tkI_zero {l : List Objt} {arch : List Member} : tkI l arch 0 = ⟨[], l⟩ := rfl
theorem tkI_next {l : List Objt} {arch : List Member} {i : Int} (hi : 0 ≤ i) : tkI l arch (i + 1) = tkStep arch (tkI l arch i) := by
 rw [tkI, toNat_succ hi, tkN_succ]; rfl
theorem tkI_end {l : List Objt} {arch : List Member} {i : Int} (h : (arch.length : Int) = i) : tkI l arch i = taken l arch := by rw [tkI, taken, ← h, Int.toNat_natCast]
theorem tkI_ok (l : List Objt) (arch : List Member) (i : Int) : TkOk l arch (tkI l arch i) := tkN_ok ⟨fun k hk => by simp at hk, List.nodup_nil, by simp, fun k hk => by simp at hk⟩
theorem nodup_len : ∀ {n : Nat} {l : List Int}, l.Nodup → (∀ k ∈ l, 0 ≤ k ∧ k < n) → l.length ≤ n := by
 intro n
 induction n with
 | zero => intro l _ h; cases l with
  | nil => simp
  | cons a l => have := h a (by simp); omega
 | succ n ih =>
  intro l hn h
  by_cases hm : (n : Int) ∈ l
  ·have h1 := List.Nodup.erase (n : Int) hn
   have h2 := ih h1 fun k hk => by
    have h3 := h k (List.mem_of_mem_erase hk)
    have h4 : k ≠ n := (List.Nodup.mem_erase_iff hn).1 hk |>.1
    omega
   rw [List.length_erase_of_mem hm] at h2
   omega
  ·have := ih hn fun k hk => by
    have h3 := h k hk
    have h4 : k ≠ n := fun e => hm (e ▸ hk)
    omega
   omega
theorem tkI_len {l : List Objt} {arch : List Member} {i : Int} : (tkI l arch i).out.length ≤ arch.length ∧ (tkI l arch i).all.length ≤ l.length + arch.length := by
 have h := tkI_ok l arch i
 have h1 := nodup_len h.nod h.rng
 refine ⟨h1, ?_⟩
 rw [h.all, List.length_append]
 have : ∀ m : List Int, (m.flatMap fun k => ((arch[k.toNat]?).map Member.what).toList).length ≤ m.length := fun m => by
  induction m with
  | nil => simp
  | cons k m ih =>
   simp only [List.flatMap_cons, List.length_append, List.length_cons]
   have : (((arch[k.toNat]?).map Member.what).toList).length ≤ 1 := by cases arch[k.toNat]? <;> simp
   omega
 have := this (tkI l arch i).out
 omega
theorem archB_all {arch : List Member} (h : archB arch = true) : arch.all memOk = true ∧ arch.length ≤ 4 := by
 simp only [archB, Bool.and_eq_true, decide_eq_true_eq] at h
 exact ⟨h.2, by omega⟩
theorem tkI_val {l : List Objt} {arch : List Member} {i : Int} (h : l.all objB = true) (ha : archB arch = true) : (tkI l arch i).all.all objB = true := (tkI_ok l arch i).valid h (archB_all ha).1
def nxM (st : Tk) (arch : List Member) (k : Int) : Int := nextM st.all st.out (arch.drop k.toNat) k
theorem nxM_zero {st : Tk} {arch : List Member} : nxM st arch 0 = nextM st.all st.out arch 0 := rfl
theorem nxM_at {st : Tk} {arch : List Member} {k : Int} {m : Member} (hk : 0 ≤ k) (h : arch[k.toNat]? = some m) : nxM st arch k = if ¬ k ∈ st.out ∧ hasM st.all m = true then k else nxM st arch (k + 1) := by
 unfold nxM
 rw [drop_get' h hk]; rfl
theorem nxM_end {st : Tk} {arch : List Member} {k : Int} (h : (arch.length : Int) ≤ k) : nxM st arch k = -1 := by unfold nxM; rw [drop_end h]; rfl
theorem tk_hit {l : List Objt} {arch : List Member} {i k : Int} {m : Member} (hi : 0 ≤ i) (hk : 0 ≤ k) (h : nxM (tkI l arch i) arch 0 = k) (hm : arch[k.toNat]? = some m) : tkI l arch (i + 1) = ⟨(tkI l arch i).out ++ [k], (tkI l arch i).all ++ [m.what]⟩ := by
 rw [tkI_next hi, tkStep, ← nxM_zero, h, if_neg (by omega), hm]; rfl
theorem tk_miss {l : List Objt} {arch : List Member} {i : Int} (hi : 0 ≤ i) (h : nxM (tkI l arch i) arch 0 < 0) : tkI l arch (i + 1) = tkI l arch i := by
 rw [tkI_next hi, tkStep, ← nxM_zero, if_pos h]
theorem tkN_add {arch : List Member} : ∀ {n m : Nat} {st : Tk}, tkN arch (n + m) st = tkN arch m (tkN arch n st) := by
 intro n
 induction n with
 | zero => intro m st; rw [Nat.zero_add]; rfl
 | succ n ih => intro m st; rw [Nat.succ_add]; exact ih
theorem tk_done {l : List Objt} {arch : List Member} {i : Int} (h : nxM (tkI l arch i) arch 0 < 0) : tkI l arch i = taken l arch := by
 rw [nxM_zero] at h
 unfold tkI taken at *
 by_cases hn : i.toNat ≤ arch.length
 ·have : arch.length = i.toNat + (arch.length - i.toNat) := by omega
  rw [this, tkN_add, tk_none h]
 ·have : i.toNat = arch.length + (i.toNat - arch.length) := by omega
  rw [this, tkN_add]
  exact tk_none (taken_end l arch) _
theorem tk_free {l : List Objt} {arch : List Member} {i : Int} (hi : 0 ≤ i) (h : ¬ nxM (tkI l arch i) arch 0 < 0) : freeN arch (tkI l arch (i + 1)).out < freeN arch (tkI l arch i).out := by
 rw [tkI_next hi]
 exact tkStep_free h
def inI (l : List Int) (k : Int) : Bool := decide (k ∈ l)
theorem inI_iff {l : List Int} {k : Int} : inI l k = true ↔ k ∈ l := by simp [inI]
theorem inI_any {l : List Int} {k : Int} : decide (0 ≤ ixF (fun y => decide (k = y)) l 0) = inI l k := by
 rw [Bool.eq_iff_iff, decide_eq_true_iff, ixF_any (by omega), List.any_eq_true, inI_iff]; simp
def C_slices_Clone_impl_Object_impl_Object : Con := { ps := [.ro (.list (.st .obj))], out := fun x => let a : List (Objt) := x.1; .req (a.length ≤ 1048576) (shL (.st .obj) a), det := true }
abbrev L_slices_Clone_impl_Object_impl_Object : List (Nat × Con) := []
def G_slices_Clone_impl_Object_impl_Object : Cfg := GK L_slices_Clone_impl_Object_impl_Object
def an_slices_Clone_impl_Object_impl_Object : PTL C_slices_Clone_impl_Object_impl_Object.ps → Nat → Option Ann := fun _ _ => none
theorem vc_slices_Clone_impl_Object_impl_Object (a : List (Objt)) : (KP Tryz.f149 G_slices_Clone_impl_Object_impl_Object C_slices_Clone_impl_Object_impl_Object an_slices_Clone_impl_Object_impl_Object (a, ())) = ((∀ (b : Bool), (b = true →
 a = ([] : List Objt)) →
 (b = true →
 ([] : List Objt) = a ∧ True) ∧ (b = false →
 ((0 + a.length) * 48 ≤ 140737488355328 ∧ 0 + a.length ≤ 1000000000000) ∧ a = a ∧ True))) := by kernel_rfl
theorem det_slices_Clone_impl_Object_impl_Object : C_slices_Clone_impl_Object_impl_Object.det = true → ∀ x, (C_slices_Clone_impl_Object_impl_Object.out x).Det := fun _ x => by simp only [C_slices_Clone_impl_Object_impl_Object]; repeat (first | exact Det.ret _ | exact Det.vc' | apply Det.req)
theorem ok_slices_Clone_impl_Object_impl_Object : ConOK Tryz.prog 149 C_slices_Clone_impl_Object_impl_Object := by
 refine con_q (l := L_slices_Clone_impl_Object_impl_Object) trivial Tryz.func149 rfl (by decide) (by kernel_rfl) rfl an_slices_Clone_impl_Object_impl_Object fun x ho hx => ?_
 obtain ⟨a, ⟨⟩⟩ := x
 refine Keeps.of (vc_slices_Clone_impl_Object_impl_Object a) ?_
 revert a ho hx
 show ∀ (a : List (Objt)), _
 intro a ho hx
 dsimp only [C_slices_Clone_impl_Object_impl_Object, okPTL, okPT, Ok, Ty.cells, SN.cells, OkL, OkC, okI, ci, cb, cs, cl] at ho
 dsimp only [C_slices_Clone_impl_Object_impl_Object, vc, v1, decB, SR.pre] at hx
 (try delta i64 LN); simp only [VBt]; (repeat' first | intro _ | apply And.intro); all_goals (try omega); all_goals grind
def C_slices_Index_int_int : Con := { ps := [.ro (.list .i), .ro .i], out := fun x => let l : List (Int) := x.1; let v : Int := x.2.1; vc .i (ixF (fun y => decide (v = y)) l 0), det := true }
abbrev L_slices_Index_int_int : List (Nat × Con) := []
def G_slices_Index_int_int : Cfg := GK L_slices_Index_int_int
def an_slices_Index_int_int : PTL C_slices_Index_int_int.ps → Nat → Option Ann := fun x kk_ => let l : List (Int) := x.1; let v : Int := x.2.1; if kk_ = 2 then some (.all (Int) fun i => .giv (0 ≤ i ∧ i ≤ l.length ∧ ixF (fun y => decide (v = y)) l 0 = ixF (fun y => decide (v = y)) (l.drop i.toNat) i) (.mk [(8, ai i), (0, al .i l), (1, ai v), (7, ai (List.length l))] [] ((l.length - i.toNat)))) else none
theorem vc_slices_Index_int_int (l : List (Int)) (v : Int) : (KP Tryz.f185 G_slices_Index_int_int C_slices_Index_int_int an_slices_Index_int_int (l, v, ())) = (l.length ≤ 9223372036854775807 →
 (∃ (a : Int), 0 = a ∧ l = l ∧ v = v ∧ LN l = LN l ∧ (0 ≤ a ∧ a ≤ LN l ∧ @ixF Int (fun (b : Int) => decide (v = b)) l (0 : Int) = @ixF Int (fun (c : Int) => decide (v = c)) (l.drop a.toNat) a) ∧ True) ∧ (∀ (d : Int), 0 ≤ d ∧ d ≤ LN l ∧ @ixF Int (fun (e : Int) => decide (v = e)) l (0 : Int) = @ixF Int (fun (f : Int) => decide (v = f)) (l.drop d.toNat) d →
 (decide (d < LN l) = true →
 (0 ≤ d ∧ d < LN l) ∧ (∀ (g : Int), l[d.toNat]? = some g →
 Ok (Ty.int IntKind.i64) g →
 (decide (v = g) = true →
 d = @ixF Int (fun (h : Int) => decide (v = h)) l (0 : Int) ∧ True) ∧ (decide (v = g) = false →
 i64 (d + 1) ∧ (∃ (i : Int), d + 1 = i ∧ l = l ∧ v = v ∧ LN l = LN l ∧ (0 ≤ i ∧ i ≤ LN l ∧ @ixF Int (fun (j : Int) => decide (v = j)) l (0 : Int) = @ixF Int (fun (k : Int) => decide (v = k)) (l.drop i.toNat) i) ∧ l.length - i.toNat < l.length - d.toNat)))) ∧ (decide (d < LN l) = false →
 (- (1 : Int)) = @ixF Int (fun (m : Int) => decide (v = m)) l (0 : Int) ∧ True))) := by kernel_rfl
theorem det_slices_Index_int_int : C_slices_Index_int_int.det = true → ∀ x, (C_slices_Index_int_int.out x).Det := fun _ _ => Det.vc'
theorem ok_slices_Index_int_int : ConOK Tryz.prog 185 C_slices_Index_int_int := by
 refine con_q (l := L_slices_Index_int_int) trivial Tryz.func185 rfl (by decide) (by kernel_rfl) rfl an_slices_Index_int_int fun x ho hx => ?_
 obtain ⟨l, v, ⟨⟩⟩ := x
 refine Keeps.of (vc_slices_Index_int_int l v) ?_
 revert l v ho hx
 show ∀ (l : List (Int)) (v : Int), _
 intro l v ho hx
 dsimp only [C_slices_Index_int_int, okPTL, okPT, Ok, Ty.cells, SN.cells, OkL, OkC, okI, ci, cb, cs, cl] at ho
 dsimp only [C_slices_Index_int_int, vc, v1, decB, SR.pre] at hx
 (try delta i64 LN); simp only [VBt]; (repeat' first | intro _ | apply And.intro); all_goals (try omega); all_goals (try have hdr := drop_get' (l := l) (by assumption) (by assumption)); all_goals grind [ixF, drop_end]
def C_slices_Contains_int_int : Con := { ps := [.ro (.list .i), .ro .i], out := fun x => let l : List (Int) := x.1; let v : Int := x.2.1; vc .bool (inI l v), det := true }
abbrev L_slices_Contains_int_int : List (Nat × Con) := [(185, C_slices_Index_int_int)]
def G_slices_Contains_int_int : Cfg := GK L_slices_Contains_int_int
def an_slices_Contains_int_int : PTL C_slices_Contains_int_int.ps → Nat → Option Ann := fun _ _ => none
theorem vc_slices_Contains_int_int (l : List (Int)) (v : Int) : (KP Tryz.f150 G_slices_Contains_int_int C_slices_Contains_int_int an_slices_Contains_int_int (l, v, ())) = (decide (0 ≤ @ixF Int (fun (a : Int) => decide (v = a)) l (0 : Int)) = inI l v ∧ True) := by kernel_rfl
theorem det_slices_Contains_int_int : C_slices_Contains_int_int.det = true → ∀ x, (C_slices_Contains_int_int.out x).Det := fun _ _ => Det.vc'
theorem ok_slices_Contains_int_int : ConOK Tryz.prog 150 C_slices_Contains_int_int := by
 refine con_q (l := L_slices_Contains_int_int) ⟨⟨ok_slices_Index_int_int, det_slices_Index_int_int⟩, trivial⟩ Tryz.func150 rfl (by decide) (by kernel_rfl) rfl an_slices_Contains_int_int fun x ho hx => ?_
 obtain ⟨l, v, ⟨⟩⟩ := x
 refine Keeps.of (vc_slices_Contains_int_int l v) ?_
 revert l v ho hx
 show ∀ (l : List (Int)) (v : Int), _
 intro l v ho hx
 dsimp only [C_slices_Contains_int_int, okPTL, okPT, Ok, Ty.cells, SN.cells, OkL, OkC, okI, ci, cb, cs, cl] at ho
 dsimp only [C_slices_Contains_int_int, vc, v1, decB, SR.pre] at hx
 have h := @inI_any l v
 (try delta i64 LN); simp only [VBt]; (repeat' first | intro _ | apply And.intro); all_goals (try omega); all_goals grind
def C_impl_taken_1 : Con := { ps := [.ro .str, .box (.ty (.list .str))], out := fun x => let n : ByteArray := x.1; let ms : List (ByteArray) := x.2.1; vc .bool (inB ms n), det := true }
abbrev L_impl_taken_1 : List (Nat × Con) := [(131, C_slices_Contains_string_string)]
def G_impl_taken_1 : Cfg := GK L_impl_taken_1
def an_impl_taken_1 : PTL C_impl_taken_1.ps → Nat → Option Ann := fun _ _ => none
theorem vc_impl_taken_1 (n : ByteArray) (ms : List (ByteArray)) : (KP Tryz.f153 G_impl_taken_1 C_impl_taken_1 an_impl_taken_1 (n, ms, ())) = (inB ms n = inB ms n ∧ ms = ms ∧ True) := by kernel_rfl
theorem det_impl_taken_1 : C_impl_taken_1.det = true → ∀ x, (C_impl_taken_1.out x).Det := fun _ _ => Det.vc'
theorem ok_impl_taken_1 : ConOK Tryz.prog 153 C_impl_taken_1 := by
 refine con_q (l := L_impl_taken_1) ⟨⟨ok_slices_Contains_string_string, det_slices_Contains_string_string⟩, trivial⟩ Tryz.func153 rfl (by decide) (by kernel_rfl) rfl an_impl_taken_1 fun x ho hx => ?_
 obtain ⟨n, ms, ⟨⟩⟩ := x
 refine Keeps.of (vc_impl_taken_1 n ms) ?_
 revert n ms ho hx
 show ∀ (n : ByteArray) (ms : List (ByteArray)), _
 intro n ms ho hx
 dsimp only [C_impl_taken_1, okPTL, okPT, Ok, Ty.cells, SN.cells, OkL, OkC, okI, ci, cb, cs, cl] at ho
 dsimp only [C_impl_taken_1, vc, v1, decB, SR.pre] at hx
 (try delta i64 LN); simp only [VBt]; (repeat' first | intro _ | apply And.intro); all_goals (try omega); all_goals grind
def C_slices_IndexFunc_string_string : Con := { ps := [.ro (.list .str), .fn 153 [.ty (.list .str)]], out := fun x => let l : List (ByteArray) := x.1; let f : (List (ByteArray)) × (Unit) := x.2.1; vc .i (ixF (inB f.1) l 0), det := true }
abbrev L_slices_IndexFunc_string_string : List (Nat × Con) := [(153, C_impl_taken_1)]
def G_slices_IndexFunc_string_string : Cfg := GK L_slices_IndexFunc_string_string
def an_slices_IndexFunc_string_string : PTL C_slices_IndexFunc_string_string.ps → Nat → Option Ann := fun x kk_ => let l : List (ByteArray) := x.1; let f : (List (ByteArray)) × (Unit) := x.2.1; if kk_ = 2 then some (.all (Int) fun i => .giv (0 ≤ i ∧ i ≤ l.length ∧ ixF (inB f.1) l 0 = ixF (inB f.1) (l.drop i.toNat) i) (.mk [(1, .one (.fn 153 [0])), (8, ai i), (0, al .str l), (7, ai (List.length l))] [(0, lent (.list .str) f.1)] ((l.length - i.toNat)))) else none
theorem vc_slices_IndexFunc_string_string (l : List (ByteArray)) (f : (List (ByteArray)) × (Unit)) : (KP Tryz.f186 G_slices_IndexFunc_string_string C_slices_IndexFunc_string_string an_slices_IndexFunc_string_string (l, f, ())) = (l.length ≤ 9223372036854775807 →
 (∃ (a : Int), 0 = a ∧ l = l ∧ LN l = LN l ∧ f.fst = f.fst ∧ (0 ≤ a ∧ a ≤ LN l ∧ @ixF ByteArray (inB f.fst) l (0 : Int) = @ixF ByteArray (inB f.fst) (l.drop a.toNat) a) ∧ True) ∧ (∀ (b : Int), 0 ≤ b ∧ b ≤ LN l ∧ @ixF ByteArray (inB f.fst) l (0 : Int) = @ixF ByteArray (inB f.fst) (l.drop b.toNat) b →
 (decide (b < LN l) = true →
 (0 ≤ b ∧ b < LN l) ∧ (∀ (c : ByteArray), l[b.toNat]? = some c →
 Ok Ty.str c →
 (inB f.fst c = true →
 b = @ixF ByteArray (inB f.fst) l (0 : Int) ∧ f.fst = f.fst ∧ True) ∧ (inB f.fst c = false →
 i64 (b + 1) ∧ (∃ (d : Int), b + 1 = d ∧ l = l ∧ LN l = LN l ∧ f.fst = f.fst ∧ (0 ≤ d ∧ d ≤ LN l ∧ @ixF ByteArray (inB f.fst) l (0 : Int) = @ixF ByteArray (inB f.fst) (l.drop d.toNat) d) ∧ l.length - d.toNat < l.length - b.toNat)))) ∧ (decide (b < LN l) = false →
 (- (1 : Int)) = @ixF ByteArray (inB f.fst) l (0 : Int) ∧ f.fst = f.fst ∧ True))) := by kernel_rfl
theorem det_slices_IndexFunc_string_string : C_slices_IndexFunc_string_string.det = true → ∀ x, (C_slices_IndexFunc_string_string.out x).Det := fun _ _ => Det.vc'
theorem ok_slices_IndexFunc_string_string : ConOK Tryz.prog 186 C_slices_IndexFunc_string_string := by
 refine con_q (l := L_slices_IndexFunc_string_string) ⟨⟨ok_impl_taken_1, det_impl_taken_1⟩, trivial⟩ Tryz.func186 rfl (by decide) (by kernel_rfl) rfl an_slices_IndexFunc_string_string fun x ho hx => ?_
 obtain ⟨l, f, ⟨⟩⟩ := x
 refine Keeps.of (vc_slices_IndexFunc_string_string l f) ?_
 revert l f ho hx
 show ∀ (l : List (ByteArray)) (f : (List (ByteArray)) × (Unit)), _
 intro l f ho hx
 dsimp only [C_slices_IndexFunc_string_string, okPTL, okPT, Ok, Ty.cells, SN.cells, OkL, OkC, okI, ci, cb, cs, cl] at ho
 dsimp only [C_slices_IndexFunc_string_string, vc, v1, decB, SR.pre] at hx
 (try delta i64 LN); simp only [VBt]; (repeat' first | intro _ | apply And.intro); all_goals (try omega); all_goals (try have hdr := drop_get' (l := l) (by assumption) (by assumption)); all_goals grind [ixF, drop_end]
def C_slices_ContainsFunc_string_string : Con := { ps := [.ro (.list .str), .fn 153 [.ty (.list .str)]], out := fun x => let l : List (ByteArray) := x.1; let f : (List (ByteArray)) × (Unit) := x.2.1; vc .bool (l.any (inB f.1)), det := true }
abbrev L_slices_ContainsFunc_string_string : List (Nat × Con) := [(186, C_slices_IndexFunc_string_string)]
def G_slices_ContainsFunc_string_string : Cfg := GK L_slices_ContainsFunc_string_string
def an_slices_ContainsFunc_string_string : PTL C_slices_ContainsFunc_string_string.ps → Nat → Option Ann := fun _ _ => none
theorem vc_slices_ContainsFunc_string_string (l : List (ByteArray)) (f : (List (ByteArray)) × (Unit)) : (KP Tryz.f151 G_slices_ContainsFunc_string_string C_slices_ContainsFunc_string_string an_slices_ContainsFunc_string_string (l, f, ())) = (decide (0 ≤ @ixF ByteArray (inB f.fst) l (0 : Int)) = @List.any ByteArray l (inB f.fst) ∧ f.fst = f.fst ∧ True) := by kernel_rfl
theorem det_slices_ContainsFunc_string_string : C_slices_ContainsFunc_string_string.det = true → ∀ x, (C_slices_ContainsFunc_string_string.out x).Det := fun _ _ => Det.vc'
theorem ok_slices_ContainsFunc_string_string : ConOK Tryz.prog 151 C_slices_ContainsFunc_string_string := by
 refine con_q (l := L_slices_ContainsFunc_string_string) ⟨⟨ok_slices_IndexFunc_string_string, det_slices_IndexFunc_string_string⟩, trivial⟩ Tryz.func151 rfl (by decide) (by kernel_rfl) rfl an_slices_ContainsFunc_string_string fun x ho hx => ?_
 obtain ⟨l, f, ⟨⟩⟩ := x
 refine Keeps.of (vc_slices_ContainsFunc_string_string l f) ?_
 revert l f ho hx
 show ∀ (l : List (ByteArray)) (f : (List (ByteArray)) × (Unit)), _
 intro l f ho hx
 dsimp only [C_slices_ContainsFunc_string_string, okPTL, okPT, Ok, Ty.cells, SN.cells, OkL, OkC, okI, ci, cb, cs, cl] at ho
 dsimp only [C_slices_ContainsFunc_string_string, vc, v1, decB, SR.pre] at hx
 have h := ixF_any (p := inB f.1) (l := l) (k := 0) (by omega)
 (try delta i64 LN); simp only [VBt]; (repeat' first | intro _ | apply And.intro); all_goals (try omega); all_goals grind
def C_impl_taken : Con := { ps := [.ro (.list (.st .obj)), .ro (.list (.st .member))], out := fun x => let l : List (Objt) := x.1; let arch : List (Member) := x.2.1; .req (l.all objB = true ∧ l.length ≤ 100 ∧ archB arch = true) (tkR (taken l arch)), det := true }
abbrev L_impl_taken : List (Nat × Con) := [(149, C_slices_Clone_impl_Object_impl_Object), (67, C_impl_namesMissing), (150, C_slices_Contains_int_int), (152, C_impl_NamesGiven), (153, C_impl_taken_1), (151, C_slices_ContainsFunc_string_string)]
def G_impl_taken : Cfg := GK L_impl_taken
def an_impl_taken : PTL C_impl_taken.ps → Nat → Option Ann := fun x kk_ => let l : List (Objt) := x.1; let arch : List (Member) := x.2.1; if kk_ = 3 then some (.all (Int) fun i => .giv (0 ≤ i ∧ i ≤ arch.length) (.mk [(16, ai i), (6, asl 20), (7, asl 21), (1, al (.st .member) arch), (15, ai (List.length arch))] [(20, .row (some 3) .i (tkI l arch i).out true), (21, .row none (.st .obj) (tkI l arch i).all false)] ((arch.length - i.toNat)))) else if kk_ = 2006 then some (.all (Int) fun i => .all (Int) fun k => .giv (0 ≤ i ∧ i < arch.length ∧ 0 ≤ k ∧ k ≤ arch.length ∧ nxM (tkI l arch i) arch 0 = nxM (tkI l arch i) arch k) (.mk [(16, ai i), (22, ai k), (6, asl 20), (7, asl 21), (8, aref 30), (1, al (.st .member) arch), (15, ai (List.length arch)), (20, al (.st .member) arch), (21, ai (List.length arch))] [(20, .row (some 3) .i (tkI l arch i).out true), (21, .row none (.st .obj) (tkI l arch i).all false), (30, bx (al .str (nMs (tkI l arch i).all)))] ((arch.length - i.toNat) * 1000 + (100 - k).toNat))) else none
theorem vc_impl_taken (l : List (Objt)) (arch : List (Member)) : (KP Tryz.f87 G_impl_taken C_impl_taken an_impl_taken (l, arch, ())) = (l.length ≤ 1048576 ∧ (arch.length ≤ 9223372036854775807 →
 (∃ (a : Int), 0 = a ∧ arch = arch ∧ LN arch = LN arch ∧ ([] : List Int) = (tkI l arch a).out ∧ l = (tkI l arch a).all ∧ (0 ≤ a ∧ a ≤ LN arch) ∧ True) ∧ (∀ (b : Int), 0 ≤ b ∧ b ≤ LN arch →
 (decide (b < LN arch) = true →
 (@List.all Objt (tkI l arch b).all objB = true ∧ (tkI l arch b).all.length ≤ 1000) ∧ (arch.length ≤ 9223372036854775807 →
 (∃ (c : Int), (∃ (d : Int), b = c ∧ 0 = d ∧ arch = arch ∧ LN arch = LN arch ∧ arch = arch ∧ LN arch = LN arch ∧ (tkI l arch b).out = (tkI l arch c).out ∧ (tkI l arch b).all = (tkI l arch c).all ∧ nMs (tkI l arch b).all = nMs (tkI l arch c).all ∧ (0 ≤ c ∧ c < LN arch ∧ 0 ≤ d ∧ d ≤ LN arch ∧ nxM (tkI l arch c) arch 0 = nxM (tkI l arch c) arch d) ∧ (∀ (e : Int), (∀ (f : Int), 0 ≤ e ∧ e < LN arch ∧ 0 ≤ f ∧ f ≤ LN arch ∧ nxM (tkI l arch e) arch 0 = nxM (tkI l arch e) arch f →
 (arch.length - e.toNat) * 1000 + (100 - f).toNat ≤ (arch.length - c.toNat) * 1000 + (100 - d).toNat →
 (decide (f < LN arch) = true →
 (0 ≤ f ∧ f < LN arch) ∧ (∀ (g : Member), arch[f.toNat]? = some g →
 Ok (Ty.st SN.member) g →
 (Bool.not (inI (tkI l arch e).out f) = true →
 (@List.any ByteArray (namesG g.what) (inB (nMs (tkI l arch e).all)) = true →
 (((tkI l arch e).out.length + [f].length) * 8 ≤ 140737488355328 ∧ (tkI l arch e).out.length + [f].length ≤ 1000000000000) ∧ (((tkI l arch e).all.length + [g.what].length) * 48 ≤ 140737488355328 ∧ (tkI l arch e).all.length + [g.what].length ≤ 1000000000000) ∧ i64 (e + 1) ∧ (∃ (h : Int), e + 1 = h ∧ arch = arch ∧ LN arch = LN arch ∧ (tkI l arch e).out ++ [f] = (tkI l arch h).out ∧ (tkI l arch e).all ++ [g.what] = (tkI l arch h).all ∧ (0 ≤ h ∧ h ≤ LN arch) ∧ arch.length - h.toNat < arch.length - b.toNat)) ∧ (@List.any ByteArray (namesG g.what) (inB (nMs (tkI l arch e).all)) = false →
 i64 (f + 1) ∧ (∃ (i : Int), (∃ (j : Int), e = i ∧ f + 1 = j ∧ arch = arch ∧ LN arch = LN arch ∧ arch = arch ∧ LN arch = LN arch ∧ (tkI l arch e).out = (tkI l arch i).out ∧ (tkI l arch e).all = (tkI l arch i).all ∧ nMs (tkI l arch e).all = nMs (tkI l arch i).all ∧ (0 ≤ i ∧ i < LN arch ∧ 0 ≤ j ∧ j ≤ LN arch ∧ nxM (tkI l arch i) arch 0 = nxM (tkI l arch i) arch j) ∧ (arch.length - i.toNat) * 1000 + (100 - j).toNat < (arch.length - e.toNat) * 1000 + (100 - f).toNat)))) ∧ (Bool.not (inI (tkI l arch e).out f) = false →
 i64 (f + 1) ∧ (∃ (k : Int), (∃ (m : Int), e = k ∧ f + 1 = m ∧ arch = arch ∧ LN arch = LN arch ∧ arch = arch ∧ LN arch = LN arch ∧ (tkI l arch e).out = (tkI l arch k).out ∧ (tkI l arch e).all = (tkI l arch k).all ∧ nMs (tkI l arch e).all = nMs (tkI l arch k).all ∧ (0 ≤ k ∧ k < LN arch ∧ 0 ≤ m ∧ m ≤ LN arch ∧ nxM (tkI l arch k) arch 0 = nxM (tkI l arch k) arch m) ∧ (arch.length - k.toNat) * 1000 + (100 - m).toNat < (arch.length - e.toNat) * 1000 + (100 - f).toNat))))) ∧ (decide (f < LN arch) = false →
 i64 (e + 1) ∧ (∃ (n : Int), e + 1 = n ∧ arch = arch ∧ LN arch = LN arch ∧ (tkI l arch e).out = (tkI l arch n).out ∧ (tkI l arch e).all = (tkI l arch n).all ∧ (0 ≤ n ∧ n ≤ LN arch) ∧ arch.length - n.toNat < arch.length - b.toNat)))))))) ∧ (decide (b < LN arch) = false →
 (tkI l arch b).all = (taken l arch).all ∧ (tkI l arch b).out = (taken l arch).out ∧ True)))) := by kernel_rfl
theorem det_impl_taken : C_impl_taken.det = true → ∀ x, (C_impl_taken.out x).Det := fun _ x => by simp only [C_impl_taken]; repeat (first | exact Det.ret _ | exact Det.vc' | apply Det.req | apply Det.giv | apply Det.fork | apply Det.bif' | intro _)
theorem ok_impl_taken : ConOK Tryz.prog 87 C_impl_taken := by
 refine con_q (l := L_impl_taken) ⟨⟨ok_slices_Clone_impl_Object_impl_Object, det_slices_Clone_impl_Object_impl_Object⟩, ⟨⟨ok_impl_namesMissing, det_impl_namesMissing⟩, ⟨⟨ok_slices_Contains_int_int, det_slices_Contains_int_int⟩, ⟨⟨ok_impl_NamesGiven, det_impl_NamesGiven⟩, ⟨⟨ok_impl_taken_1, det_impl_taken_1⟩, ⟨⟨ok_slices_ContainsFunc_string_string, det_slices_ContainsFunc_string_string⟩, trivial⟩⟩⟩⟩⟩⟩ Tryz.func87 rfl (by decide) (by kernel_rfl) rfl an_impl_taken fun x ho hx => ?_
 obtain ⟨l, arch, ⟨⟩⟩ := x
 refine Keeps.of (vc_impl_taken l arch) ?_
 revert l arch ho hx
 show ∀ (l : List (Objt)) (arch : List (Member)), _
 intro l arch ho hx
 dsimp only [C_impl_taken, okPTL, okPT, Ok, Ty.cells, SN.cells, OkL, OkC, okI, ci, cb, cs, cl] at ho
 dsimp only [C_impl_taken, vc, v1, decB, SR.pre] at hx
 have hv := fun i => @tkI_val l arch i hx.1.1 hx.1.2.2
 have hl := fun i => @tkI_len l arch i
 have ha := archB_all hx.1.2.2
 have h1 := @tk_hit l arch
 have h2 := @tk_miss l arch
 have h3 := fun i k m => @nxM_at (tkI l arch i) arch k m
 have h4 := fun i k => @nxM_end (tkI l arch i) arch k
 have h5 := @tkI_end l arch
 have h6 := @tkI_zero l arch
 have h7 : ∀ i m, hasM (tkI l arch i).all m = (namesG m.what).any (inB (nMs (tkI l arch i).all)) := fun _ _ => rfl
 have h8 := fun i k => @inI_iff (tkI l arch i).out k
 (try delta i64 LN); simp only [VBt]; (repeat' first | intro _ | apply And.intro); all_goals (try omega)
 all_goals (try grind)
def tkB (arch : List Member) (out : List Int) : List Bool := (List.range arch.length).map fun k : Nat => decide ((k : Int) ∈ out)
theorem tkB_len {arch : List Member} {out : List Int} : (tkB arch out).length = arch.length := by simp [tkB]
theorem tkB_get {arch : List Member} {out : List Int} {k : Int} {y : Bool} (hk : 0 ≤ k) (h : (tkB arch out)[k.toNat]? = some y) : y = decide (k ∈ out) := by
 unfold tkB at h
 rw [List.getElem?_map, Option.map_eq_some_iff] at h
 obtain ⟨j, h1, h2⟩ := h
 have h3 := List.getElem?_eq_some_iff.1 h1
 obtain ⟨h4, h5⟩ := h3
 rw [List.getElem_range] at h5
 subst h5
 rw [← h2]
 have : ((k.toNat : Nat) : Int) = k := by omega
 rw [this]
theorem tkB_nil {arch : List Member} : List.replicate arch.length false = tkB arch [] := by
 unfold tkB
 refine List.ext_getElem? fun i => ?_
 rw [List.getElem?_replicate, List.getElem?_map]
 by_cases h : i < arch.length
 ·rw [if_pos h, List.getElem?_range h]; simp
 ·rw [if_neg h, List.getElem?_eq_none (by simp; omega)]; rfl
theorem tkB_set {arch : List Member} {out : List Int} {k : Int} (hk : 0 ≤ k) (hl : k < arch.length) : (tkB arch out).set k.toNat true = tkB arch (out ++ [k]) := by
 unfold tkB
 refine List.ext_getElem? fun i => ?_
 rw [List.getElem?_set, List.getElem?_map, List.getElem?_map, List.length_map, List.length_range]
 split
 ·rename_i h
  subst h
  rw [if_pos (by omega), List.getElem?_range (by omega)]
  simp only [Option.map_some, Option.some.injEq]
  symm
  simp only [decide_eq_true_eq, List.mem_append, List.mem_singleton]
  right; omega
 ·rename_i h
  by_cases hi : i < arch.length
  ·rw [List.getElem?_range hi]
   simp only [Option.map_some, Option.some.injEq, List.mem_append, List.mem_singleton, decide_eq_decide]
   constructor
   ·exact .inl
   ·rintro (h' | h')
    ·exact h'
    ·omega
  ·rw [List.getElem?_eq_none (by simpa using hi)]; rfl
def arcG (arch : List Member) (k : Int) : List ByteArray := match arch[k.toNat]? with | some m => namesG m.what | none => []
theorem arcG_eq {arch : List Member} {k : Int} {m : Member} (h : arch[k.toNat]? = some m) : arcG arch k = namesG m.what := by simp [arcG, h]
theorem arcG_12 (arch : List Member) (k : Int) : (arcG arch k).length ≤ 12 := by
 unfold arcG
 split
 ·exact namesG_12 _
 ·simp
def nxJ (st : Tk) (arch : List Member) (k j : Int) : Int := if ¬ k ∈ st.out ∧ ((arcG arch k).take j.toNat).any (fun n => decide (n ∈ nMs st.all)) = true then k else nxM st arch (k + 1)
def nxI (st : Tk) (arch : List Member) (k j i : Int) : Int := if ((arcG arch k).take j.toNat).any (fun n => decide (n ∈ nMs st.all)) = true ∨ (∃ n, (arcG arch k)[j.toNat]? = some n ∧ n ∈ (nMs st.all).take i.toNat) then k else nxM st arch (k + 1)
theorem nxJ_zero {st : Tk} {arch : List Member} {k : Int} : nxJ st arch k 0 = nxM st arch (k + 1) := by simp [nxJ]
theorem nxJ_out {st : Tk} {arch : List Member} {k j : Int} {m : Member} (hk : 0 ≤ k) (hm : arch[k.toNat]? = some m) (h : k ∈ st.out) : nxJ st arch k j = nxM st arch k := by
 rw [nxM_at hk hm, nxJ, if_neg fun h' => h'.1 h, if_neg fun h' => h'.1 h]
theorem nxJ_end {st : Tk} {arch : List Member} {k j : Int} {m : Member} (hk : 0 ≤ k) (hm : arch[k.toNat]? = some m) (h : ((arcG arch k).length : Int) ≤ j) : nxJ st arch k j = nxM st arch k := by
 rw [nxM_at hk hm, nxJ, List.take_of_length_le (by omega), arcG_eq hm]; rfl
theorem nxI_zero {st : Tk} {arch : List Member} {k j : Int} (h : ¬ k ∈ st.out) : nxI st arch k j 0 = nxJ st arch k j := by
 simp [nxI, nxJ, h]
theorem nxI_end {st : Tk} {arch : List Member} {k j i : Int} {n : ByteArray} (hj : 0 ≤ j) (hn : (arcG arch k)[j.toNat]? = some n) (h : ¬ k ∈ st.out) (hi : ((nMs st.all).length : Int) ≤ i) : nxI st arch k j i = nxJ st arch k (j + 1) := by
 unfold nxI nxJ
 rw [List.take_of_length_le (l := nMs st.all) (by omega), toNat_succ hj, take_snoc hn, List.any_append, hn]
 simp [h]
theorem nxI_hit {st : Tk} {arch : List Member} {k j i : Int} {n x : ByteArray} (hi : 0 ≤ i) (hn : (arcG arch k)[j.toNat]? = some n) (hx : (nMs st.all)[i.toNat]? = some x) (h : x = n) : nxI st arch k j (i + 1) = k := by
 unfold nxI
 rw [if_pos]
 right
 refine ⟨n, hn, ?_⟩
 rw [toNat_succ hi, take_snoc hx, h]
 simp
theorem nxI_miss {st : Tk} {arch : List Member} {k j i : Int} {n x : ByteArray} (hi : 0 ≤ i) (hn : (arcG arch k)[j.toNat]? = some n) (hx : (nMs st.all)[i.toNat]? = some x) (h : x ≠ n) : nxI st arch k j (i + 1) = nxI st arch k j i := by
 unfold nxI
 rw [toNat_succ hi, take_snoc hx, hn]
 have : ∀ y, (some n = some y ∧ y ∈ (nMs st.all).take i.toNat ++ [x]) ↔ (some n = some y ∧ y ∈ (nMs st.all).take i.toNat) := fun y => by
  simp only [Option.some.injEq, List.mem_append, List.mem_singleton]
  constructor
  ·rintro ⟨rfl, h1 | h1⟩
   ·exact ⟨rfl, h1⟩
   ·exact absurd h1.symm h
  ·rintro ⟨rfl, h1⟩; exact ⟨rfl, .inl h1⟩
 simp only [this]
theorem nMs_len {l : List Objt} (h : l.all objB = true) (hl : l.length ≤ 8) : (nMs l).length ≤ 96 := by
 have h1 := (sortU_len (flt (missS l) l)).1
 have h2 := flt_len (p := missS l) h
 unfold nMs
 omega
theorem nxM_bd {st : Tk} {arch : List Member} {k : Int} (hk : 0 ≤ k) : nxM st arch k = -1 ∨ (k ≤ nxM st arch k ∧ nxM st arch k < arch.length ∧ ∃ m, arch[(nxM st arch k).toNat]? = some m) := by
 unfold nxM
 rcases nextM_spec (all := st.all) (out := st.out) (l := arch.drop k.toNat) (k := k) hk with ⟨h1, _⟩ | ⟨i, m, h1, h2, _⟩
 ·exact .inl h1
 ·right
  rw [h1]
  rw [List.getElem?_drop] at h2
  have := lt_of_some h2
  exact ⟨by omega, by omega, m, by rw [show (k + (i : Int)).toNat = k.toNat + i by omega]; exact h2⟩
theorem freeN_4 {arch : List Member} {out : List Int} (h : archB arch = true) : freeN arch out ≤ 4 := Nat.le_trans (freeN_le _ _) (archB_all h).2
theorem takV_no {l : List Objt} {arch : List Member} (h : objsB l = false ∨ archB arch = false) : takV l arch = [] := by
 unfold takV; rcases h with h | h <;> simp [h]
theorem takV_yes {l : List Objt} {arch : List Member} (h : objsB l = true) (h' : archB arch = true) : takV l arch = (taken l arch).out := by simp [takV, h, h']
def TkR (l : List Objt) (arch : List Member) (o : List Int) (a : List Objt) : Prop := ∃ n : Nat, tkI l arch n = ⟨o, a⟩
theorem TkR_zero {l : List Objt} {arch : List Member} : TkR l arch [] l := ⟨0, rfl⟩
theorem TkR_next {l : List Objt} {arch : List Member} {o : List Int} {a : List Objt} {k : Int} {m : Member} (h : TkR l arch o a) (hk : 0 ≤ k) (hn : nxM ⟨o, a⟩ arch 0 = k) (hm : arch[k.toNat]? = some m) : TkR l arch (o ++ [k]) (a ++ [m.what]) := by
 obtain ⟨n, h⟩ := h
 refine ⟨n + 1, ?_⟩
 have := tk_hit (l := l) (arch := arch) (i := n) (by omega) hk (by rw [h]; exact hn) hm
 rw [h] at this
 rw [← this]
 congr 1
theorem TkR_done {l : List Objt} {arch : List Member} {o : List Int} {a : List Objt} (h : TkR l arch o a) (hn : nxM ⟨o, a⟩ arch 0 < 0) : o = (taken l arch).out := by
 obtain ⟨n, h⟩ := h
 have := tk_done (l := l) (arch := arch) (i := n) (by rw [h]; exact hn)
 rw [← this, h]
theorem TkR_val {l : List Objt} {arch : List Member} {o : List Int} {a : List Objt} (h : TkR l arch o a) (hl : objsB l = true) (ha : archB arch = true) : a.all objB = true ∧ a.length ≤ 8 ∧ o.length ≤ 4 := by
 obtain ⟨n, h⟩ := h
 have h1 := tkI_val (i := n) (objsB_all hl).1 ha
 have h2 := tkI_len (l := l) (arch := arch) (i := n)
 have h3 := (objsB_all hl).2
 have h4 := (archB_all ha).2
 rw [h] at h1 h2
 simp only at h1 h2
 exact ⟨h1, by omega, by omega⟩
theorem TkR_free {l : List Objt} {arch : List Member} {o : List Int} {a : List Objt} {k : Int} {m : Member} (h : TkR l arch o a) (hk : 0 ≤ k) (hn : nxM ⟨o, a⟩ arch 0 = k) (hm : arch[k.toNat]? = some m) : freeN arch (o ++ [k]) < freeN arch o := by
 obtain ⟨n, h⟩ := h
 have h1 := tk_free (l := l) (arch := arch) (i := n) (by omega) (by rw [h, hn]; omega)
 have h2 := tk_hit (l := l) (arch := arch) (i := n) (by omega) hk (by rw [h]; exact hn) hm
 rw [h2, h] at h1
 exact h1
theorem nxJ_out' {o : List Int} {a : List Objt} {arch : List Member} {k j : Int} {y : Bool} (hk : 0 ≤ k) (hl : k < arch.length) (h : (tkB arch o)[k.toNat]? = some y) (hy : y = true) : nxJ ⟨o, a⟩ arch k j = nxM ⟨o, a⟩ arch k := by
 have := tkB_get hk h
 rw [hy] at this
 exact nxJ_out hk (List.getElem?_eq_getElem (by omega)) (of_decide_eq_true this.symm)
theorem nxJ_end' {o : List Int} {a : List Objt} {arch : List Member} {k j : Int} (hk : 0 ≤ k) (hl : k < arch.length) (h : ((arcG arch k).length : Int) ≤ j) : nxJ ⟨o, a⟩ arch k j = nxM ⟨o, a⟩ arch k := nxJ_end hk (List.getElem?_eq_getElem (by omega)) h
theorem inI_no {o : List Int} {k : Int} (h : inI o k = false) : ¬ k ∈ o := fun hc => by rw [inI_iff.2 hc] at h; cases h
theorem inI_tkB {o : List Int} {arch : List Member} {k : Int} {y : Bool} (hk : 0 ≤ k) (h : (tkB arch o)[k.toNat]? = some y) (hy : y = false) : inI o k = false := by
 have := tkB_get hk h
 rw [← hy, this]; rfl
theorem nxI_zero' {o : List Int} {a : List Objt} {arch : List Member} {k j : Int} (h : inI o k = false) : nxI ⟨o, a⟩ arch k j 0 = nxJ ⟨o, a⟩ arch k j := nxI_zero (inI_no h)
theorem nxI_end' {o : List Int} {a : List Objt} {arch : List Member} {k j i : Int} (hj : 0 ≤ j) (hl : j < (arcG arch k).length) (h : inI o k = false) (hi : ((nMs a).length : Int) ≤ i) : nxI ⟨o, a⟩ arch k j i = nxJ ⟨o, a⟩ arch k (j + 1) := nxI_end hj (List.getElem?_eq_getElem (by omega)) (inI_no h) hi
def C_spec_TakeMembers : Con := { ps := [.ro (.list (.st .obj)), .ro (.list (.st .member))], out := fun x => let l : List (Objt) := x.1; let arch : List (Member) := x.2.1; newL .i (takV l arch), det := true }
abbrev L_spec_TakeMembers : List (Nat × Con) := [(55, C_spec_ObjectsValid), (56, C_spec_ArchiveValid), (145, C_spec_l17Open), (120, C_spec_NamesGiven)]
def G_spec_TakeMembers : Cfg := GK L_spec_TakeMembers
def an_spec_TakeMembers : PTL C_spec_TakeMembers.ps → Nat → Option Ann := fun x kk_ => let l : List (Objt) := x.1; let arch : List (Member) := x.2.1; if kk_ = 6 then some (.all (List Int) fun o => .all (List Objt) fun a => .giv (objsB l = true ∧ archB arch = true ∧ TkR l arch o a) (.mk [(5, asl 20), (6, asl 21), (7, asl 22), (1, al (.st .member) arch)] [(20, .row (some 3) .i o true), (21, .row none (.st .obj) a false), (22, .row (some 4) .bool (tkB arch o) true)] (freeN arch o))) else if kk_ = 2009 then some (.all (List Int) fun o => .all (List Objt) fun a => .all (List ByteArray) fun ms => .all (Int) fun nx => .all (Int) fun k => .giv (objsB l = true ∧ archB arch = true ∧ TkR l arch o a ∧ ms = nMs a ∧ nx = nxM ⟨o, a⟩ arch (k + 1) ∧ -1 ≤ k ∧ k < arch.length) (.mk [(10, ai k), (5, asl 20), (6, asl 21), (7, asl 22), (8, al .str ms), (9, ai nx), (1, al (.st .member) arch)] [(20, .row (some 3) .i o true), (21, .row none (.st .obj) a false), (22, .row (some 4) .bool (tkB arch o) true)] (freeN arch o * 1000000000 + (k + 1).toNat * 1000000))) else if kk_ = 2013 then some (.all (List Int) fun o => .all (List Objt) fun a => .all (List ByteArray) fun ms => .all (Int) fun nx => .all (Int) fun k => .all (Int) fun j => .giv (objsB l = true ∧ archB arch = true ∧ TkR l arch o a ∧ ms = nMs a ∧ nx = nxJ ⟨o, a⟩ arch k j ∧ 0 ≤ k ∧ k < arch.length ∧ 0 ≤ j ∧ j ≤ (arcG arch k).length) (.mk [(10, ai k), (12, ai j), (5, asl 20), (6, asl 21), (7, asl 22), (8, al .str ms), (9, ai nx), (11, al .str (arcG arch k)), (1, al (.st .member) arch)] [(20, .row (some 3) .i o true), (21, .row none (.st .obj) a false), (22, .row (some 4) .bool (tkB arch o) true)] (freeN arch o * 1000000000 + (k + 1).toNat * 1000000 + (100 - j).toNat * 1000))) else if kk_ = 2016 then some (.all (List Int) fun o => .all (List Objt) fun a => .all (List ByteArray) fun ms => .all (Int) fun nx => .all (Int) fun k => .all (Int) fun j => .all (Int) fun i => .giv (objsB l = true ∧ archB arch = true ∧ TkR l arch o a ∧ ms = nMs a ∧ nx = nxI ⟨o, a⟩ arch k j i ∧ 0 ≤ k ∧ k < arch.length ∧ 0 ≤ j ∧ j < (arcG arch k).length ∧ inI o k = false ∧ 0 ≤ i ∧ i ≤ ms.length) (.mk [(10, ai k), (12, ai j), (13, ai i), (5, asl 20), (6, asl 21), (7, asl 22), (8, al .str ms), (9, ai nx), (11, al .str (arcG arch k)), (1, al (.st .member) arch)] [(20, .row (some 3) .i o true), (21, .row none (.st .obj) a false), (22, .row (some 4) .bool (tkB arch o) true)] (freeN arch o * 1000000000 + (k + 1).toNat * 1000000 + (100 - j).toNat * 1000 + (200 - i).toNat))) else none
theorem vc_spec_TakeMembers (l : List (Objt)) (arch : List (Member)) : (KP Tryz.f84 G_spec_TakeMembers C_spec_TakeMembers an_spec_TakeMembers (l, arch, ())) = ((Bool.not (objsB l) = true →
 ([] : List Int) = takV l arch ∧ True) ∧ (Bool.not (objsB l) = false →
 (Bool.not (archB arch) = true →
 ([] : List Int) = takV l arch ∧ True) ∧ (Bool.not (archB arch) = false →
 ((0 + l.length) * 48 ≤ 140737488355328 ∧ 0 + l.length ≤ 1000000000000) ∧ (arch.length ≤ 9223372036854775807 →
 (LN arch = LN arch ∧ 0 ≤ LN arch ∧ LN arch ≤ 1000000000000 ∧ @Nat.cast Int _ (1 : Nat) * LN arch ≤ 140737488355328) ∧ (∃ (a : List Int), (∃ (b : List Objt), arch = arch ∧ ([] : List Int) = a ∧ l = b ∧ @repl Bool (LN arch) false = tkB arch a ∧ (objsB l = true ∧ archB arch = true ∧ TkR l arch a b) ∧ True)) ∧ (∀ (c : List Int), (∀ (d : List Objt), objsB l = true ∧ archB arch = true ∧ TkR l arch c d →
 (@List.all Objt d objB = true ∧ d.length ≤ 1000) ∧ (arch.length ≤ 9223372036854775807 →
 i64 (LN arch - 1) ∧ (∃ (e : List Int), (∃ (f : List Objt), (∃ (g : List ByteArray), (∃ (h : Int), (∃ (i : Int), LN arch - 1 = i ∧ nMs d = g ∧ (- (1 : Int)) = h ∧ arch = arch ∧ c = e ∧ d = f ∧ tkB arch c = tkB arch e ∧ (objsB l = true ∧ archB arch = true ∧ TkR l arch e f ∧ g = nMs f ∧ h = nxM (Tk.mk e f) arch (i + 1) ∧ (- (1 : Int)) ≤ i ∧ i < LN arch) ∧ (∀ (j : List Int), (∀ (k : List Objt), (∀ (m : List ByteArray), (∀ (n : Int), (∀ (o : Int), objsB l = true ∧ archB arch = true ∧ TkR l arch j k ∧ m = nMs k ∧ n = nxM (Tk.mk j k) arch (o + 1) ∧ (- (1 : Int)) ≤ o ∧ o < LN arch →
 freeN arch j * 1000000000 + (o + 1).toNat * 1000000 ≤ freeN arch e * 1000000000 + (i + 1).toNat * 1000000 →
 (decide (0 ≤ o) = true →
 (0 ≤ o ∧ o < LN arch) ∧ (∀ (p : Member), arch[o.toNat]? = some p →
 Ok (Ty.st SN.member) p →
 (∃ (q : List Int), (∃ (r : List Objt), (∃ (s : List ByteArray), (∃ (t : Int), (∃ (u : Int), (∃ (v : Int), o = u ∧ 0 = v ∧ m = s ∧ n = t ∧ namesG p.what = arcG arch u ∧ arch = arch ∧ j = q ∧ k = r ∧ tkB arch j = tkB arch q ∧ (objsB l = true ∧ archB arch = true ∧ TkR l arch q r ∧ s = nMs r ∧ t = nxJ (Tk.mk q r) arch u v ∧ 0 ≤ u ∧ u < LN arch ∧ 0 ≤ v ∧ v ≤ LN (arcG arch u)) ∧ (∀ (w : List Int), (∀ (x : List Objt), (∀ (y : List ByteArray), (∀ (z : Int), (∀ (A : Int), (∀ (B : Int), objsB l = true ∧ archB arch = true ∧ TkR l arch w x ∧ y = nMs x ∧ z = nxJ (Tk.mk w x) arch A B ∧ 0 ≤ A ∧ A < LN arch ∧ 0 ≤ B ∧ B ≤ LN (arcG arch A) →
 freeN arch w * 1000000000 + (A + 1).toNat * 1000000 + (100 - B).toNat * 1000 ≤ freeN arch q * 1000000000 + (u + 1).toNat * 1000000 + (100 - v).toNat * 1000 →
 (arcG arch A).length ≤ 9223372036854775807 →
 (decide (B < LN (arcG arch A)) = true →
 (0 ≤ A ∧ A < LN (tkB arch w)) ∧ (∀ (C : Bool), (tkB arch w)[A.toNat]? = some C →
 Ok Ty.bool C →
 (Bool.not C = true →
 (∃ (D : List Int), (∃ (E : List Objt), (∃ (F : List ByteArray), (∃ (G : Int), (∃ (H : Int), (∃ (I : Int), (∃ (J : Int), A = H ∧ B = I ∧ 0 = J ∧ y = F ∧ z = G ∧ arcG arch A = arcG arch H ∧ arch = arch ∧ w = D ∧ x = E ∧ tkB arch w = tkB arch D ∧ (objsB l = true ∧ archB arch = true ∧ TkR l arch D E ∧ F = nMs E ∧ G = nxI (Tk.mk D E) arch H I J ∧ 0 ≤ H ∧ H < LN arch ∧ 0 ≤ I ∧ I < LN (arcG arch H) ∧ inI D H = false ∧ 0 ≤ J ∧ J ≤ LN F) ∧ (∀ (K : List Int), (∀ (L : List Objt), (∀ (M : List ByteArray), (∀ (N : Int), (∀ (O : Int), (∀ (P : Int), (∀ (Q : Int), objsB l = true ∧ archB arch = true ∧ TkR l arch K L ∧ M = nMs L ∧ N = nxI (Tk.mk K L) arch O P Q ∧ 0 ≤ O ∧ O < LN arch ∧ 0 ≤ P ∧ P < LN (arcG arch O) ∧ inI K O = false ∧ 0 ≤ Q ∧ Q ≤ LN M →
 freeN arch K * 1000000000 + (O + 1).toNat * 1000000 + (100 - P).toNat * 1000 + (200 - Q).toNat ≤ freeN arch D * 1000000000 + (H + 1).toNat * 1000000 + (100 - I).toNat * 1000 + (200 - J).toNat →
 M.length ≤ 9223372036854775807 →
 (decide (Q < LN M) = true →
 (0 ≤ Q ∧ Q < LN M) ∧ (∀ (R : ByteArray), M[Q.toNat]? = some R →
 Ok Ty.str R →
 (0 ≤ P ∧ P < LN (arcG arch O)) ∧ (∀ (S : ByteArray), (arcG arch O)[P.toNat]? = some S →
 Ok Ty.str S →
 (decide (R = S) = true →
 i64 (Q + 1) ∧ (∃ (T : List Int), (∃ (U : List Objt), (∃ (V : List ByteArray), (∃ (W : Int), (∃ (X : Int), (∃ (Y : Int), (∃ (Z : Int), O = X ∧ P = Y ∧ Q + 1 = Z ∧ M = V ∧ O = W ∧ arcG arch O = arcG arch X ∧ arch = arch ∧ K = T ∧ L = U ∧ tkB arch K = tkB arch T ∧ (objsB l = true ∧ archB arch = true ∧ TkR l arch T U ∧ V = nMs U ∧ W = nxI (Tk.mk T U) arch X Y Z ∧ 0 ≤ X ∧ X < LN arch ∧ 0 ≤ Y ∧ Y < LN (arcG arch X) ∧ inI T X = false ∧ 0 ≤ Z ∧ Z ≤ LN V) ∧ freeN arch T * 1000000000 + (X + 1).toNat * 1000000 + (100 - Y).toNat * 1000 + (200 - Z).toNat < freeN arch K * 1000000000 + (O + 1).toNat * 1000000 + (100 - P).toNat * 1000 + (200 - Q).toNat)))))))) ∧ (decide (R = S) = false →
 i64 (Q + 1) ∧ (∃ (aa : List Int), (∃ (ab : List Objt), (∃ (ac : List ByteArray), (∃ (ad : Int), (∃ (ae : Int), (∃ (af : Int), (∃ (ag : Int), O = ae ∧ P = af ∧ Q + 1 = ag ∧ M = ac ∧ N = ad ∧ arcG arch O = arcG arch ae ∧ arch = arch ∧ K = aa ∧ L = ab ∧ tkB arch K = tkB arch aa ∧ (objsB l = true ∧ archB arch = true ∧ TkR l arch aa ab ∧ ac = nMs ab ∧ ad = nxI (Tk.mk aa ab) arch ae af ag ∧ 0 ≤ ae ∧ ae < LN arch ∧ 0 ≤ af ∧ af < LN (arcG arch ae) ∧ inI aa ae = false ∧ 0 ≤ ag ∧ ag ≤ LN ac) ∧ freeN arch aa * 1000000000 + (ae + 1).toNat * 1000000 + (100 - af).toNat * 1000 + (200 - ag).toNat < freeN arch K * 1000000000 + (O + 1).toNat * 1000000 + (100 - P).toNat * 1000 + (200 - Q).toNat))))))))))) ∧ (decide (Q < LN M) = false →
 i64 (P + 1) ∧ (∃ (ah : List Int), (∃ (ai : List Objt), (∃ (aj : List ByteArray), (∃ (ak : Int), (∃ (al : Int), (∃ (am : Int), O = al ∧ P + 1 = am ∧ M = aj ∧ N = ak ∧ arcG arch O = arcG arch al ∧ arch = arch ∧ K = ah ∧ L = ai ∧ tkB arch K = tkB arch ah ∧ (objsB l = true ∧ archB arch = true ∧ TkR l arch ah ai ∧ aj = nMs ai ∧ ak = nxJ (Tk.mk ah ai) arch al am ∧ 0 ≤ al ∧ al < LN arch ∧ 0 ≤ am ∧ am ≤ LN (arcG arch al)) ∧ freeN arch ah * 1000000000 + (al + 1).toNat * 1000000 + (100 - am).toNat * 1000 < freeN arch w * 1000000000 + (A + 1).toNat * 1000000 + (100 - B).toNat * 1000)))))))))))))))))))))) ∧ (Bool.not C = false →
 i64 (A - 1) ∧ (∃ (an : List Int), (∃ (ao : List Objt), (∃ (ap : List ByteArray), (∃ (aq : Int), (∃ (ar : Int), A - 1 = ar ∧ y = ap ∧ z = aq ∧ arch = arch ∧ w = an ∧ x = ao ∧ tkB arch w = tkB arch an ∧ (objsB l = true ∧ archB arch = true ∧ TkR l arch an ao ∧ ap = nMs ao ∧ aq = nxM (Tk.mk an ao) arch (ar + 1) ∧ (- (1 : Int)) ≤ ar ∧ ar < LN arch) ∧ freeN arch an * 1000000000 + (ar + 1).toNat * 1000000 < freeN arch j * 1000000000 + (o + 1).toNat * 1000000)))))))) ∧ (decide (B < LN (arcG arch A)) = false →
 i64 (A - 1) ∧ (∃ (au : List Int), (∃ (av : List Objt), (∃ (aw : List ByteArray), (∃ (ax : Int), (∃ (ay : Int), A - 1 = ay ∧ y = aw ∧ z = ax ∧ arch = arch ∧ w = au ∧ x = av ∧ tkB arch w = tkB arch au ∧ (objsB l = true ∧ archB arch = true ∧ TkR l arch au av ∧ aw = nMs av ∧ ax = nxM (Tk.mk au av) arch (ay + 1) ∧ (- (1 : Int)) ≤ ay ∧ ay < LN arch) ∧ freeN arch au * 1000000000 + (ay + 1).toNat * 1000000 < freeN arch j * 1000000000 + (o + 1).toNat * 1000000)))))))))))))))))))) ∧ (decide (0 ≤ o) = false →
 (decide (n < 0) = true →
 j = takV l arch ∧ True) ∧ (decide (n < 0) = false →
 (0 ≤ n ∧ n < LN (tkB arch j)) ∧ (∀ (az : Bool), (tkB arch j)[n.toNat]? = some az →
 (0 ≤ n ∧ n < LN arch) ∧ (∀ (aA : Member), arch[n.toNat]? = some aA →
 Ok (Ty.st SN.member) aA →
 ((k.length + [aA.what].length) * 48 ≤ 140737488355328 ∧ k.length + [aA.what].length ≤ 1000000000000) ∧ ((j.length + [n].length) * 8 ≤ 140737488355328 ∧ j.length + [n].length ≤ 1000000000000) ∧ (∃ (aB : List Int), (∃ (aC : List Objt), arch = arch ∧ j ++ [n] = aB ∧ k ++ [aA.what] = aC ∧ (tkB arch j).set n.toNat true = tkB arch aB ∧ (objsB l = true ∧ archB arch = true ∧ TkR l arch aB aC) ∧ freeN arch aB < freeN arch c))))))))))))))))))))))) := by kernel_rfl
theorem det_spec_TakeMembers : C_spec_TakeMembers.det = true → ∀ x, (C_spec_TakeMembers.out x).Det := fun _ _ => Det.ret _
theorem ok_spec_TakeMembers : ConOK Tryz.prog 84 C_spec_TakeMembers := by
 refine con_q (l := L_spec_TakeMembers) ⟨⟨ok_spec_ObjectsValid, det_spec_ObjectsValid⟩, ⟨⟨ok_spec_ArchiveValid, det_spec_ArchiveValid⟩, ⟨⟨ok_spec_l17Open, det_spec_l17Open⟩, ⟨⟨ok_spec_NamesGiven, det_spec_NamesGiven⟩, trivial⟩⟩⟩⟩ Tryz.func84 rfl (by decide) (by kernel_rfl) rfl an_spec_TakeMembers fun x ho hx => ?_
 obtain ⟨l, arch, ⟨⟩⟩ := x
 refine Keeps.of (vc_spec_TakeMembers l arch) ?_
 revert l arch ho hx
 show ∀ (l : List (Objt)) (arch : List (Member)), _
 intro l arch ho hx
 dsimp only [C_spec_TakeMembers, okPTL, okPT, Ok, Ty.cells, SN.cells, OkL, OkC, okI, ci, cb, cs, cl] at ho
 dsimp only [C_spec_TakeMembers, vc, v1, decB, SR.pre] at hx
 have hv := @TkR_val l arch
 have ha := @archB_all arch
 have hb := fun o => @tkB_len arch o
 have h12 := arcG_12 arch
 have hm := fun a => @nMs_len a
 have hf := fun o => @freeN_4 arch o
 have h1 := @TkR_next l arch
 have h2 := @TkR_free l arch
 have h3 := fun o a k => @nxM_end ⟨o, a⟩ arch k
 have h4 := @TkR_zero l arch
 have h5 := @takV_no l arch
 have h6 := @takV_yes l arch
 have h7 := @TkR_done l arch
 have h9 := fun o a k => @nxM_bd ⟨o, a⟩ arch k
 have hn : repl (arch.length : Int) false = tkB arch [] := by rw [← tkB_nil]; simp [repl]
 (try delta i64 LN); simp only [VBt]; (repeat' first | intro _ | apply And.intro); all_goals (try omega)
 all_goals (try grind [tkB_set, arcG_eq, nxJ_zero, nxJ_out', nxJ_end', nxI_zero', nxI_end', nxI_hit, nxI_miss, inI_tkB])
end Go.Proofs.YtfdngmkmeeaeeaaGreat
