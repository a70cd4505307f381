/- All objects are joined: both packages keep the same contracts. -/
import Derived.Test.YtpgglbnagphgoaaGreatJoinQ
set_option linter.unusedVariables false
set_option linter.unusedSimpArgs false
set_option maxRecDepth 200000
set_option maxHeartbeats 4000000
namespace Go.Proofs.YtpgglbnagphgoaaGreat
open Go Go.RowKit


theorem joinR_app : ∀ {r s : List Objt} {x : Objt}, joinR (r ++ s) x = (joinR r x).bind fun z => joinR s z := by
 intro r
 induction r with
 | nil => intro s x; rfl
 | cons o r ih =>
  intro s x
  simp only [List.cons_append, joinR]
  split
  ·exact ih
  ·rfl
def jP : List Objt → Option Objt
 | [] => none
 | o :: l => joinR l o
theorem jP_app {l s : List Objt} (h : l ≠ []) : jP (l ++ s) = (jP l).bind fun z => joinR s z := by
 cases l with
 | nil => exact absurd rfl h
 | cons o l => exact joinR_app
def jcur (l : List Objt) (i : Int) : Objt := (jP (l.take (i + 1).toNat)).getD ⟨[], []⟩
def jok (l : List Objt) (i : Int) : Bool := (jP (l.take (i + 1).toNat)).isSome
def jAV (l : List Objt) : Objt := (joinA l).getD ⟨[], []⟩
def jAB (l : List Objt) : Bool := (joinA l).isSome
theorem jA_no {l : List Objt} (h : objsB l = false) : joinA l = none := by unfold joinA; rw [if_neg (by simp [h])]
theorem jA_nil : joinA [] = none := by simp [joinA]
theorem jA_yes {l : List Objt} (h : objsB l = true) : joinA l = jP l := by
 unfold joinA; rw [if_pos h]
 cases l <;> rfl
theorem tk_ne {l : List Objt} {i : Int} (hi : 0 ≤ i) (h : 0 < l.length) : l.take (i + 1).toNat ≠ [] := by
 intro e
 have := congrArg List.length e
 rw [List.length_take, List.length_nil] at this
 omega
theorem j_next {l : List Objt} {i : Int} {o : Objt} (hi : 0 ≤ i) (h : l[(i + 1).toNat]? = some o) : jP (l.take (i + 1 + 1).toNat) = (jP (l.take (i + 1).toNat)).bind fun z => if joinOk z o = true then some (jnO z o) else none := by
 have hl := lt_of_some h
 rw [toNat_succ (show (0 : Int) ≤ i + 1 by omega), take_snoc h, jP_app (tk_ne hi (by omega))]
 rfl
theorem j_some {l : List Objt} {i : Int} (h : jok l i = true) : jP (l.take (i + 1).toNat) = some (jcur l i) := by
 unfold jok at h
 unfold jcur
 obtain ⟨x, hx⟩ := Option.isSome_iff_exists.1 h
 rw [hx]; rfl
theorem jok_next {l : List Objt} {i : Int} {o : Objt} (hj : joinOk (jcur l i) o = true) (h : l[(i + 1).toNat]? = some o) (hk : jok l i = true) (hi : 0 ≤ i) : jok l (i + 1) = true ∧ jcur l (i + 1) = joinV (jcur l i) o := by
 have e := j_next hi h
 rw [j_some hk, Option.bind_some, if_pos hj] at e
 unfold jok
 rw [e]
 refine ⟨rfl, ?_⟩
 rw [joinV_yes hj]
 unfold jcur at *
 rw [e]; rfl
theorem jA_bad {l : List Objt} {i : Int} {o : Objt} (hj : joinOk (jcur l i) o = false) (h : l[(i + 1).toNat]? = some o) (hk : jok l i = true) (hb : objsB l = true) (hi : 0 ≤ i) : joinA l = none := by
 have e := j_next hi h
 rw [j_some hk, Option.bind_some, if_neg (by simp [hj])] at e
 have hl := lt_of_some h
 rw [jA_yes hb]
 have e2 := jP_app (l := l.take (i + 1 + 1).toNat) (s := l.drop (i + 1 + 1).toNat) (tk_ne (by omega) (by omega))
 rw [List.take_append_drop, e] at e2
 exact e2
theorem jA_end {l : List Objt} {i : Int} (h : (l.length : Int) ≤ i + 1) (hb : objsB l = true) : joinA l = jP (l.take (i + 1).toNat) := by
 rw [jA_yes hb, List.take_of_length_le (by omega)]
theorem jcur_0 {l : List Objt} {o : Objt} (h : l[0]? = some o) : jok l 0 = true ∧ jcur l 0 = o := by
 cases l with
 | nil => simp at h
 | cons x l =>
  simp only [List.getElem?_cons_zero, Option.some.injEq] at h
  subst h
  exact ⟨rfl, rfl⟩
theorem objs_at {l : List Objt} {k : Nat} {o : Objt} (hb : objsB l = true) (h : l[k]? = some o) : objB o = true := List.all_eq_true.1 (objsB_all hb).1 o (List.mem_of_getElem? h)
theorem JQ_1 {l : List Objt} (h : objsB l = false) : false = jAB l := by rw [jAB, jA_no h]; rfl
theorem JQ_2 {l : List Objt} (h : objsB l = false) : [] = (jAV l).sects := by rw [jAV, jA_no h]; rfl
theorem JQ_3 {l : List Objt} (h : objsB l = false) : [] = (jAV l).syms := by rw [jAV, jA_no h]; rfl
theorem nil_of0 {l : List Objt} (h : (l.length : Int) = 0) : l = [] := List.eq_nil_of_length_eq_zero (by omega)
theorem JQ_4 {l : List Objt} (h : (l.length : Int) = 0) : false = jAB l := by rw [nil_of0 h, jAB, jA_nil]; rfl
theorem JQ_5 {l : List Objt} (h : (l.length : Int) = 0) : [] = (jAV l).sects := by rw [nil_of0 h, jAV, jA_nil]; rfl
theorem JQ_6 {l : List Objt} (h : (l.length : Int) = 0) : [] = (jAV l).syms := by rw [nil_of0 h, jAV, jA_nil]; rfl
theorem JQ_sz {l : List Objt} {k : Nat} {o : Objt} (h : l[k]? = some o) (hb : objsB l = true) : szOb o ≤ 1048576 := by have := objB_sz (objs_at hb h); omega
theorem JQ_c1 {l : List Objt} {o : Objt} (h : l[0]? = some o) : o.sects = (jcur l 0).sects := by rw [(jcur_0 h).2]
theorem JQ_c2 {l : List Objt} {o : Objt} (h : l[0]? = some o) : o.syms = (jcur l 0).syms := by rw [(jcur_0 h).2]
theorem JQ_c3 {l : List Objt} {o : Objt} (h : l[0]? = some o) : jok l 0 = true := (jcur_0 h).1
theorem JQ_d {l : List Objt} : List.take (l.length - 1) (List.drop 1 l) = l.drop 1 := List.take_of_length_le (by simp)
theorem JQ_at {l : List Objt} {i : Int} {o : Objt} (h : (l.drop 1)[i.toNat]? = some o) (hi : 0 ≤ i) : l[(i + 1).toNat]? = some o := by
 rw [List.getElem?_drop] at h
 rw [toNat_succ hi, Nat.add_comm]; exact h
theorem JQ_n1 {l : List Objt} {i : Int} {o : Objt} (hj : joinOk (jcur l i) o = true) (h : (l.drop 1)[i.toNat]? = some o) (hk : jok l i = true) (hi : 0 ≤ i) : jok l (i + 1) = true := (jok_next hj (JQ_at h hi) hk hi).1
theorem JQ_n2 {l : List Objt} {i : Int} {o : Objt} (hj : joinOk (jcur l i) o = true) (h : (l.drop 1)[i.toNat]? = some o) (hk : jok l i = true) (hi : 0 ≤ i) : (joinV (jcur l i) o).sects = (jcur l (i + 1)).sects := by rw [(jok_next hj (JQ_at h hi) hk hi).2]
theorem JQ_n3 {l : List Objt} {i : Int} {o : Objt} (hj : joinOk (jcur l i) o = true) (h : (l.drop 1)[i.toNat]? = some o) (hk : jok l i = true) (hi : 0 ≤ i) : (joinV (jcur l i) o).syms = (jcur l (i + 1)).syms := by rw [(jok_next hj (JQ_at h hi) hk hi).2]
theorem JQ_b1 {l : List Objt} {i : Int} {o : Objt} (hj : joinOk (jcur l i) o = false) (h : (l.drop 1)[i.toNat]? = some o) (hk : jok l i = true) (hb : objsB l = true) (hi : 0 ≤ i) : false = jAB l := by rw [jAB, jA_bad hj (JQ_at h hi) hk hb hi]; rfl
theorem JQ_b2 {l : List Objt} {i : Int} {o : Objt} (hj : joinOk (jcur l i) o = false) (h : (l.drop 1)[i.toNat]? = some o) (hk : jok l i = true) (hb : objsB l = true) (hi : 0 ≤ i) : [] = (jAV l).sects := by rw [jAV, jA_bad hj (JQ_at h hi) hk hb hi]; rfl
theorem JQ_b3 {l : List Objt} {i : Int} {o : Objt} (hj : joinOk (jcur l i) o = false) (h : (l.drop 1)[i.toNat]? = some o) (hk : jok l i = true) (hb : objsB l = true) (hi : 0 ≤ i) : [] = (jAV l).syms := by rw [jAV, jA_bad hj (JQ_at h hi) hk hb hi]; rfl
theorem JQ_dl {l : List Objt} {i : Int} (h : ((l.drop 1).length : Int) ≤ i) : (l.length : Int) ≤ i + 1 := by rw [List.length_drop] at h; omega
theorem JQ_e1 {l : List Objt} {i : Int} (h : (l.length : Int) ≤ i + 1) (hk : jok l i = true) (hb : objsB l = true) : true = jAB l := by rw [jAB, jA_end h hb]; exact hk.symm
theorem JQ_e2 {l : List Objt} {i : Int} (h : (l.length : Int) ≤ i + 1) (hb : objsB l = true) : (jcur l i).sects = (jAV l).sects := by rw [jAV, jA_end h hb]; rfl
theorem JQ_e3 {l : List Objt} {i : Int} (h : (l.length : Int) ≤ i + 1) (hb : objsB l = true) : (jcur l i).syms = (jAV l).syms := by rw [jAV, jA_end h hb]; rfl
def kcur (l : List Objt) (k : Int) : Objt := jcur l (k - 1)
def kok (l : List Objt) (k : Int) : Bool := jok l (k - 1)
theorem JK_c1 {l : List Objt} {o : Objt} (h : l[0]? = some o) : o.sects = (kcur l 1).sects := JQ_c1 h
theorem JK_c2 {l : List Objt} {o : Objt} (h : l[0]? = some o) : o.syms = (kcur l 1).syms := JQ_c2 h
theorem JK_c3 {l : List Objt} {o : Objt} (h : l[0]? = some o) : kok l 1 = true := JQ_c3 h
theorem JK_at {l : List Objt} {k : Int} {o : Objt} (h : l[k.toNat]? = some o) : l[(k - 1 + 1).toNat]? = some o := by rw [Int.sub_add_cancel]; exact h
theorem JK_n1 {l : List Objt} {k : Int} {o : Objt} (hj : joinOk (kcur l k) o = true) (h : l[k.toNat]? = some o) (hk : kok l k = true) (hi : 1 ≤ k) : kok l (k + 1) = true := by
 have := (jok_next hj (JK_at h) hk (by omega)).1
 unfold kok; rw [show k + 1 - 1 = k - 1 + 1 by omega]; exact this
theorem JK_nx {l : List Objt} {k : Int} {o : Objt} (hj : joinOk (kcur l k) o = true) (h : l[k.toNat]? = some o) (hk : kok l k = true) (hi : 1 ≤ k) : kcur l (k + 1) = joinV (kcur l k) o := by
 have := (jok_next hj (JK_at h) hk (by omega)).2
 unfold kcur; rw [show k + 1 - 1 = k - 1 + 1 by omega]; exact this
theorem JK_n2 {l : List Objt} {k : Int} {o : Objt} (hj : joinOk (kcur l k) o = true) (h : l[k.toNat]? = some o) (hk : kok l k = true) (hi : 1 ≤ k) : (joinV (kcur l k) o).sects = (kcur l (k + 1)).sects := by rw [JK_nx hj h hk hi]
theorem JK_n3 {l : List Objt} {k : Int} {o : Objt} (hj : joinOk (kcur l k) o = true) (h : l[k.toNat]? = some o) (hk : kok l k = true) (hi : 1 ≤ k) : (joinV (kcur l k) o).syms = (kcur l (k + 1)).syms := by rw [JK_nx hj h hk hi]
theorem JK_b1 {l : List Objt} {k : Int} {o : Objt} (hj : joinOk (kcur l k) o = false) (h : l[k.toNat]? = some o) (hk : kok l k = true) (hb : objsB l = true) (hi : 1 ≤ k) : false = jAB l := by rw [jAB, jA_bad hj (JK_at h) hk hb (by omega)]; rfl
theorem JK_b2 {l : List Objt} {k : Int} {o : Objt} (hj : joinOk (kcur l k) o = false) (h : l[k.toNat]? = some o) (hk : kok l k = true) (hb : objsB l = true) (hi : 1 ≤ k) : [] = (jAV l).sects := by rw [jAV, jA_bad hj (JK_at h) hk hb (by omega)]; rfl
theorem JK_b3 {l : List Objt} {k : Int} {o : Objt} (hj : joinOk (kcur l k) o = false) (h : l[k.toNat]? = some o) (hk : kok l k = true) (hb : objsB l = true) (hi : 1 ≤ k) : [] = (jAV l).syms := by rw [jAV, jA_bad hj (JK_at h) hk hb (by omega)]; rfl
theorem JK_e1 {l : List Objt} {k : Int} (h : (l.length : Int) ≤ k) (hk : kok l k = true) (hb : objsB l = true) : true = jAB l := JQ_e1 (by omega) hk hb
theorem JK_e2 {l : List Objt} {k : Int} (h : (l.length : Int) ≤ k) (hb : objsB l = true) : (kcur l k).sects = (jAV l).sects := JQ_e2 (by omega) hb
theorem JK_e3 {l : List Objt} {k : Int} (h : (l.length : Int) ≤ k) (hb : objsB l = true) : (kcur l k).syms = (jAV l).syms := JQ_e3 (by omega) hb
theorem JQ_l {l : List Objt} : ((List.take (l.length - 1) (List.drop 1 l)).length : Int) = (l.drop 1).length := by rw [JQ_d]
theorem JQ_k {l : List Objt} (h : objsB l = true) : l.length ≤ 1000 := by have := (objsB_all h).2; omega
theorem JQ_k1 {l : List Objt} (h : objsB l = true) : (l.drop 1).length ≤ 1000 := by have := JQ_k h; rw [List.length_drop]; omega
def C_impl_JoinAll : Con := { ps := [.ro (.list (.st .obj))], out := fun x => let l : List (Objt) := x.1; newSB .obj (jAV l) (jAB l), det := true }
abbrev L_impl_JoinAll : List (Nat × Con) := [(47, C_impl_ObjectsValid), (30, C_impl_copyObject), (7, C_impl_JoinObjects)]
def G_impl_JoinAll : Cfg := GK L_impl_JoinAll
def an_impl_JoinAll : PTL C_impl_JoinAll.ps → Nat → Option Ann := fun x kk_ => let l : List (Objt) := x.1; if kk_ = 5 then some (.all (Int) fun i => .giv (objsB l = true ∧ jok l i = true ∧ 0 ≤ i ∧ i ≤ (l.drop 1).length ∧ (l.drop 1).length ≤ 1000) (.mk [(25, ai i), (23, al (.st .obj) (l.drop 1)), (24, ai (l.drop 1).length), (4, aref 31), (2, aref 30)] [(30, .box false [.nil, .nil]), (31, .box false [.sl 32 [], .sl 33 []]), (32, .row none (.st .sect) (jcur l i).sects true), (33, .row none (.st .sym) (jcur l i).syms true)] (((l.drop 1).length - i.toNat)))) else none
theorem vc_impl_JoinAll (l : List (Objt)) : (KP Tryz.f17 G_impl_JoinAll C_impl_JoinAll an_impl_JoinAll (l, ())) = ((Bool.not (objsB l) = true →
 false = jAB l ∧ ([] : List Sect) = (jAV l).sects ∧ ([] : List Sym) = (jAV l).syms ∧ True) ∧ (Bool.not (objsB l) = false →
 l.length ≤ 9223372036854775807 →
 (decide (LN l = 0) = true →
 false = jAB l ∧ ([] : List Sect) = (jAV l).sects ∧ ([] : List Sym) = (jAV l).syms ∧ True) ∧ (decide (LN l = 0) = false →
 ((0 : Int) ≤ (0 : Int) ∧ 0 < LN l) ∧ (∀ (a : Objt), l[(0 : Nat)]? = some a →
 Ok (Ty.st SN.obj) a →
 szOb a ≤ 1048576 ∧ ((0 : Int) ≤ (1 : Int) ∧ 1 ≤ LN l) ∧ (((l.drop 1).take (l.length - 1)).length ≤ 9223372036854775807 →
 (∃ (b : Int), 0 = b ∧ (l.drop 1).take (l.length - 1) = l.drop 1 ∧ LN ((l.drop 1).take (l.length - 1)) = LN (l.drop 1) ∧ a.sects = (jcur l b).sects ∧ a.syms = (jcur l b).syms ∧ (objsB l = true ∧ jok l b = true ∧ 0 ≤ b ∧ b ≤ LN (l.drop 1) ∧ (l.drop 1).length ≤ 1000) ∧ True) ∧ (∀ (c : Int), objsB l = true ∧ jok l c = true ∧ 0 ≤ c ∧ c ≤ LN (l.drop 1) ∧ (l.drop 1).length ≤ 1000 →
 (decide (c < LN (l.drop 1)) = true →
 (0 ≤ c ∧ c < LN (l.drop 1)) ∧ (∀ (d : Objt), (l.drop 1)[c.toNat]? = some d →
 Ok (Ty.st SN.obj) d →
 (Bool.not (joinOk (jcur l c) d) = true →
 false = jAB l ∧ ([] : List Sect) = (jAV l).sects ∧ ([] : List Sym) = (jAV l).syms ∧ True) ∧ (Bool.not (joinOk (jcur l c) d) = false →
 i64 (c + 1) ∧ (∃ (e : Int), c + 1 = e ∧ l.drop 1 = l.drop 1 ∧ LN (l.drop 1) = LN (l.drop 1) ∧ (joinV (jcur l c) d).sects = (jcur l e).sects ∧ (joinV (jcur l c) d).syms = (jcur l e).syms ∧ (objsB l = true ∧ jok l e = true ∧ 0 ≤ e ∧ e ≤ LN (l.drop 1) ∧ (l.drop 1).length ≤ 1000) ∧ (l.drop 1).length - e.toNat < (l.drop 1).length - c.toNat)))) ∧ (decide (c < LN (l.drop 1)) = false →
 true = jAB l ∧ (jcur l c).sects = (jAV l).sects ∧ (jcur l c).syms = (jAV l).syms ∧ True))))))) := by kernel_rfl
theorem det_impl_JoinAll : C_impl_JoinAll.det = true → ∀ x, (C_impl_JoinAll.out x).Det := fun _ _ => Det.ret _
theorem ok_impl_JoinAll : ConOK Tryz.prog 17 C_impl_JoinAll := by
 refine con_q (l := L_impl_JoinAll) ⟨⟨ok_impl_ObjectsValid, det_impl_ObjectsValid⟩, ⟨⟨ok_impl_copyObject, det_impl_copyObject⟩, ⟨⟨ok_impl_JoinObjects, det_impl_JoinObjects⟩, trivial⟩⟩⟩ Tryz.func17 rfl (by decide) (by kernel_rfl) rfl an_impl_JoinAll fun x ho hx => ?_
 obtain ⟨l, ⟨⟩⟩ := x
 refine Keeps.of (vc_impl_JoinAll l) ?_
 revert l ho hx
 show ∀ (l : List (Objt)), _
 intro l ho hx
 dsimp only [C_impl_JoinAll, okPTL, okPT, Ok, Ty.cells, SN.cells, OkL, OkC, okI, ci, cb, cs, cl] at ho
 dsimp only [C_impl_JoinAll, vc, v1, decB, SR.pre] at hx
 (try delta i64 LN); simp only [VBt]; (repeat' first | intro _ | apply And.intro); all_goals (try omega)
 all_goals (first | omega | (with_reducible first | assumption | exact JQ_l | exact JQ_k (by assumption) | exact JQ_k1 (by assumption) | exact JQ_1 (by assumption) | exact JQ_2 (by assumption) | exact JQ_3 (by assumption) | exact JQ_4 (by assumption) | exact JQ_5 (by assumption) | exact JQ_6 (by assumption) | exact JQ_sz (by assumption) (by assumption) | exact JQ_c1 (by assumption) | exact JQ_c2 (by assumption) | exact JQ_c3 (by assumption) | exact JQ_d | exact JQ_n1 (by assumption) (by assumption) (by assumption) (by assumption) | exact JQ_n2 (by assumption) (by assumption) (by assumption) (by assumption) | exact JQ_n3 (by assumption) (by assumption) (by assumption) (by assumption) | exact JQ_b1 (by assumption) (by assumption) (by assumption) (by assumption) (by assumption) | exact JQ_b2 (by assumption) (by assumption) (by assumption) (by assumption) (by assumption) | exact JQ_b3 (by assumption) (by assumption) (by assumption) (by assumption) (by assumption) | exact JQ_e1 (JQ_dl (by assumption)) (by assumption) (by assumption) | exact JQ_e2 (JQ_dl (by assumption)) (by assumption) | exact JQ_e3 (JQ_dl (by assumption)) (by assumption) | exact JK_c1 (by assumption) | exact JK_c2 (by assumption) | exact JK_c3 (by assumption) | exact JK_n1 (by assumption) (by assumption) (by assumption) (by assumption) | exact JK_n2 (by assumption) (by assumption) (by assumption) (by assumption) | exact JK_n3 (by assumption) (by assumption) (by assumption) (by assumption) | exact JK_b1 (by assumption) (by assumption) (by assumption) (by assumption) (by assumption) | exact JK_b2 (by assumption) (by assumption) (by assumption) (by assumption) (by assumption) | exact JK_b3 (by assumption) (by assumption) (by assumption) (by assumption) (by assumption) | exact JK_e1 (by assumption) (by assumption) (by assumption) | exact JK_e2 (by assumption) (by assumption) | exact JK_e3 (by assumption) (by assumption)) | skip)
def C_spec_JoinAll : Con := { ps := [.ro (.list (.st .obj))], out := fun x => let l : List (Objt) := x.1; newSB .obj (jAV l) (jAB l), det := true }
abbrev L_spec_JoinAll : List (Nat × Con) := [(52, C_spec_ObjectsValid), (35, C_spec_l4Copy), (8, C_spec_JoinObjects)]
def G_spec_JoinAll : Cfg := GK L_spec_JoinAll
def an_spec_JoinAll : PTL C_spec_JoinAll.ps → Nat → Option Ann := fun x kk_ => let l : List (Objt) := x.1; if kk_ = 5 then some (.all (Int) fun k => .giv (objsB l = true ∧ kok l k = true ∧ 1 ≤ k ∧ k ≤ l.length ∧ l.length ≤ 1000) (.mk [(5, ai k), (4, aref 31), (2, aref 30), (0, al (.st .obj) l)] [(30, .box false [.nil, .nil]), (31, .box false [.sl 32 [], .sl 33 []]), (32, .row none (.st .sect) (kcur l k).sects true), (33, .row none (.st .sym) (kcur l k).syms true)] ((l.length - k.toNat)))) else none
theorem vc_spec_JoinAll (l : List (Objt)) : (KP Tryz.f18 G_spec_JoinAll C_spec_JoinAll an_spec_JoinAll (l, ())) = ((Bool.not (objsB l) = true →
 false = jAB l ∧ ([] : List Sect) = (jAV l).sects ∧ ([] : List Sym) = (jAV l).syms ∧ True) ∧ (Bool.not (objsB l) = false →
 l.length ≤ 9223372036854775807 →
 (decide (LN l = 0) = true →
 false = jAB l ∧ ([] : List Sect) = (jAV l).sects ∧ ([] : List Sym) = (jAV l).syms ∧ True) ∧ (decide (LN l = 0) = false →
 ((0 : Int) ≤ (0 : Int) ∧ 0 < LN l) ∧ (∀ (a : Objt), l[(0 : Nat)]? = some a →
 Ok (Ty.st SN.obj) a →
 szOb a ≤ 1048576 ∧ (∃ (b : Int), 1 = b ∧ l = l ∧ a.sects = (kcur l b).sects ∧ a.syms = (kcur l b).syms ∧ (objsB l = true ∧ kok l b = true ∧ 1 ≤ b ∧ b ≤ LN l ∧ l.length ≤ 1000) ∧ True) ∧ (∀ (c : Int), objsB l = true ∧ kok l c = true ∧ 1 ≤ c ∧ c ≤ LN l ∧ l.length ≤ 1000 →
 l.length ≤ 9223372036854775807 →
 (decide (c < LN l) = true →
 (0 ≤ c ∧ c < LN l) ∧ (∀ (d : Objt), l[c.toNat]? = some d →
 Ok (Ty.st SN.obj) d →
 (Bool.not (joinOk (kcur l c) d) = true →
 false = jAB l ∧ ([] : List Sect) = (jAV l).sects ∧ ([] : List Sym) = (jAV l).syms ∧ True) ∧ (Bool.not (joinOk (kcur l c) d) = false →
 i64 (c + 1) ∧ (∃ (e : Int), c + 1 = e ∧ l = l ∧ (joinV (kcur l c) d).sects = (kcur l e).sects ∧ (joinV (kcur l c) d).syms = (kcur l e).syms ∧ (objsB l = true ∧ kok l e = true ∧ 1 ≤ e ∧ e ≤ LN l ∧ l.length ≤ 1000) ∧ l.length - e.toNat < l.length - c.toNat)))) ∧ (decide (c < LN l) = false →
 true = jAB l ∧ (kcur l c).sects = (jAV l).sects ∧ (kcur l c).syms = (jAV l).syms ∧ True)))))) := by kernel_rfl
theorem det_spec_JoinAll : C_spec_JoinAll.det = true → ∀ x, (C_spec_JoinAll.out x).Det := fun _ _ => Det.ret _
theorem ok_spec_JoinAll : ConOK Tryz.prog 18 C_spec_JoinAll := by
 refine con_q (l := L_spec_JoinAll) ⟨⟨ok_spec_ObjectsValid, det_spec_ObjectsValid⟩, ⟨⟨ok_spec_l4Copy, det_spec_l4Copy⟩, ⟨⟨ok_spec_JoinObjects, det_spec_JoinObjects⟩, trivial⟩⟩⟩ Tryz.func18 rfl (by decide) (by kernel_rfl) rfl an_spec_JoinAll fun x ho hx => ?_
 obtain ⟨l, ⟨⟩⟩ := x
 refine Keeps.of (vc_spec_JoinAll l) ?_
 revert l ho hx
 show ∀ (l : List (Objt)), _
 intro l ho hx
 dsimp only [C_spec_JoinAll, okPTL, okPT, Ok, Ty.cells, SN.cells, OkL, OkC, okI, ci, cb, cs, cl] at ho
 dsimp only [C_spec_JoinAll, vc, v1, decB, SR.pre] at hx
 (try delta i64 LN); simp only [VBt]; (repeat' first | intro _ | apply And.intro); all_goals (try omega)
 all_goals (first | omega | (with_reducible first | assumption | exact JQ_l | exact JQ_k (by assumption) | exact JQ_k1 (by assumption) | exact JQ_1 (by assumption) | exact JQ_2 (by assumption) | exact JQ_3 (by assumption) | exact JQ_4 (by assumption) | exact JQ_5 (by assumption) | exact JQ_6 (by assumption) | exact JQ_sz (by assumption) (by assumption) | exact JQ_c1 (by assumption) | exact JQ_c2 (by assumption) | exact JQ_c3 (by assumption) | exact JQ_d | exact JQ_n1 (by assumption) (by assumption) (by assumption) (by assumption) | exact JQ_n2 (by assumption) (by assumption) (by assumption) (by assumption) | exact JQ_n3 (by assumption) (by assumption) (by assumption) (by assumption) | exact JQ_b1 (by assumption) (by assumption) (by assumption) (by assumption) (by assumption) | exact JQ_b2 (by assumption) (by assumption) (by assumption) (by assumption) (by assumption) | exact JQ_b3 (by assumption) (by assumption) (by assumption) (by assumption) (by assumption) | exact JQ_e1 (JQ_dl (by assumption)) (by assumption) (by assumption) | exact JQ_e2 (JQ_dl (by assumption)) (by assumption) | exact JQ_e3 (JQ_dl (by assumption)) (by assumption) | exact JK_c1 (by assumption) | exact JK_c2 (by assumption) | exact JK_c3 (by assumption) | exact JK_n1 (by assumption) (by assumption) (by assumption) (by assumption) | exact JK_n2 (by assumption) (by assumption) (by assumption) (by assumption) | exact JK_n3 (by assumption) (by assumption) (by assumption) (by assumption) | exact JK_b1 (by assumption) (by assumption) (by assumption) (by assumption) (by assumption) | exact JK_b2 (by assumption) (by assumption) (by assumption) (by assumption) (by assumption) | exact JK_b3 (by assumption) (by assumption) (by assumption) (by assumption) (by assumption) | exact JK_e1 (by assumption) (by assumption) (by assumption) | exact JK_e2 (by assumption) (by assumption) | exact JK_e3 (by assumption) (by assumption)) | skip)
end Go.Proofs.YtpgglbnagphgoaaGreat
