/- The readers that the laws on objects draw their data with. -/
import Derived.Test.YthkefakjihafeaaDrawO
set_option linter.unusedVariables false
set_option linter.unusedSimpArgs false
namespace Go.Proofs.Ythkefakjihafeaa
open Go Go.RowKit


theorem sumI_bd {α : Type} {f : α → Int} {p : α → Bool} {c : Int} (hc : 0 ≤ c) (hp : ∀ x, p x = true → f x ≤ c) : ∀ {l : List α}, l.all p = true → sumI f l ≤ c * l.length := by
  intro l
  induction l with
  | nil => intro _; simp [sumI]
  | cons x l ih =>
    intro h
    simp only [List.all_cons, Bool.and_eq_true] at h
    have h1 := hp x h.1
    have h2 := ih h.2
    simp only [sumI, List.length_cons, Int.natCast_add, Int.mul_add]
    simp
    omega
theorem objSm_sz {o : Objt} (h : objSm o = true) : szOb o ≤ 2000 := by
  have h1 := objSm_iff.1 h
  have h2 := sumI_bd (f := szSe) (p := secSm) (c := 100) (by omega) (fun s hs => by have := secSm_iff.1 hs; unfold szSe; omega) h1.2.1
  have h3 := sumI_bd (f := szSy) (p := symSm) (c := 16) (by omega) (fun s hs => by have := symSm_iff.1 hs; unfold szSy; omega) h1.2.2
  unfold szOb
  omega
theorem objsA_sz {l : List Objt} (h : objsA l = true) (hl : l.length ≤ 20) : l.length + sumI szOb l ≤ 100000 := by
  have h2 := sumI_bd (f := szOb) (p := objSm) (c := 2000) (by omega) (fun o ho => objSm_sz ho) h
  omega
def mbSm (m : Member) : Bool := nmSm m.name && objSm m.what
def mbsA (l : List Member) : Bool := l.all mbSm
theorem mbsA_nil : mbsA [] = true := rfl
theorem mbsA_app {l : List Member} {m : Member} (h : mbsA l = true) (hm : mbSm m = true) : mbsA (l ++ [m]) = true := all_snoc h hm
theorem mbSm_mk {a : ByteArray} {b : List Sect} {c : List Sym} (h : a.size ≤ 16) (h' : objSm ⟨b, c⟩ = true) : mbSm ⟨a, ⟨b, c⟩⟩ = true := by
  unfold mbSm; rw [h']; simp [nmSm, h]
theorem mbSm_sz {m : Member} (h : mbSm m = true) : szMb m ≤ 3000 := by
  simp only [mbSm, Bool.and_eq_true] at h
  have := objSm_sz h.2
  have h2 : m.name.size ≤ 16 := of_decide_eq_true h.1
  unfold szMb
  omega
theorem mbsA_sz {l : List Member} (h : mbsA l = true) (hl : l.length ≤ 20) : l.length + sumI szMb l ≤ 100000 := by
  have h2 := sumI_bd (f := szMb) (p := mbSm) (c := 3000) (by omega) (fun o ho => mbSm_sz ho) h
  omega
theorem repl_mbs (n : Int) : mbsA (repl n (⟨⟨⟨[]⟩⟩, ⟨[], []⟩⟩ : Member)) = true := List.all_eq_true.2 fun y hy => by rw [List.eq_of_mem_replicate hy]; rfl
def C_spec_l20Archive : Con := { ps := [.box (.ty (.st .reader)), .ro .i], out := fun x => let r : Reader := x.1; let n : Int := x.2.1; .req (0 ≤ r.p ∧ r.p ≤ 500000 ∧ 0 ≤ n ∧ n ≤ 100000) (.all (List Member) fun l => .all Int fun p => .giv (r.p ≤ p ∧ p ≤ r.p + 10000 ∧ l.length ≤ 6 ∧ mbsA l = true) (rdF 49 (.st .member) l p)), det := false }
abbrev L_spec_l20Archive : List (Nat × Con) := [(44, C_spec_l20Objects), (77, C_spec_l20Name_det), (64, C_spec_l20Rd_odd), (61, C_spec_l20Rd_pick), (34, C_spec_l20Object)]
def G_spec_l20Archive : Cfg := mkG (tyL tys_) L_spec_l20Archive false
def an_spec_l20Archive : PTL C_spec_l20Archive.ps → Nat → Option Ann := fun x kk_ => let r : Reader := x.1; let n : Int := x.2.1; if kk_ = 4 then some (.all (List Objt) fun l => .all (Int) fun k => .all (List Member) fun m => .all (Int) fun p => .giv (l.length ≤ 5 ∧ objsA l = true ∧ 0 ≤ k ∧ k ≤ l.length ∧ m.length ≤ k ∧ mbsA m = true ∧ r.p ≤ p ∧ p ≤ r.p + 5000 + 3 * k) (.mk [(6, al (.st .obj) l), (7, ai k), (5, asl 20), (0, aref 0), (1, ai n)] [(0, lent (.st .reader) ⟨r.b, p⟩), (20, .row (some 49) (.st .member) m false)] ((l.length - k.toNat)))) else none
set_option maxRecDepth 200000 in
theorem vc_spec_l20Archive (r : Reader) (n : Int) : (keeps Try.prog G_spec_l20Archive (an_spec_l20Archive (r, n, ())) (Try.f50.body.getD .skip) Try.f50.results.toList C_spec_l20Archive (r, n, ())) = ((((0 ≤ (Reader.p r)) ∧
 (((Reader.p r) ≤ 1000000) ∧
 (((0 : Int) ≤ (0 : Int)) ∧
 ((0 : Int) ≤ (100000 : Int))))) ∧
 (∀ (x_1 : (List Objt)), (∀ (x_2 : Int), ((((Reader.p r) ≤ x_2) ∧
 ((x_2 ≤ ((Reader.p r) + 5000)) ∧
 (((List.length x_1) ≤ 5) ∧
 ((objsA x_1) = true)))) →
 ((∃ (x_3 : (List Objt)), (∃ (x_4 : Int), (∃ (x_5 : (List Member)), (∃ (x_6 : Int), ((@Eq (List Objt) x_1 x_3) ∧
 ((0 = x_4) ∧
 ((n = n) ∧
 ((@Eq (List Int) (Reader.b r) (Reader.b r)) ∧
 ((x_2 = x_6) ∧
 ((@Eq (List Member) ([] : List Member) x_5) ∧
 ((((List.length x_3) ≤ 5) ∧
 (((objsA x_3) = true) ∧
 ((0 ≤ x_4) ∧
 ((x_4 ≤ (LN x_3)) ∧
 (((LN x_5) ≤ x_4) ∧
 (((mbsA x_5) = true) ∧
 (((Reader.p r) ≤ x_6) ∧
 (x_6 ≤ (((Reader.p r) + 5000) + (3 * x_4)))))))))) ∧
 True))))))))))) ∧
 (∀ (x_7 : (List Objt)), (∀ (x_8 : Int), (∀ (x_9 : (List Member)), (∀ (x_10 : Int), ((((List.length x_7) ≤ 5) ∧
 (((objsA x_7) = true) ∧
 ((0 ≤ x_8) ∧
 ((x_8 ≤ (LN x_7)) ∧
 (((LN x_9) ≤ x_8) ∧
 (((mbsA x_9) = true) ∧
 (((Reader.p r) ≤ x_10) ∧
 (x_10 ≤ (((Reader.p r) + 5000) + (3 * x_8)))))))))) →
 (((List.length x_7) ≤ 9223372036854775807) →
 ((((decide (x_8 < (LN x_7))) = true) →
 (((0 ≤ x_10) ∧
 ((x_10 ≤ (1000000000 : Int)) ∧
 ((0 : Int) ≤ (1000000 : Int)))) ∧
 (((0 ≤ x_8) ∧
 (x_8 < (LN x_7))) ∧
 (∀ (x_11 : Objt), ((@Eq (Option Objt) (x_7)[(Int.toNat x_8)]? (some x_11)) →
 ((Ok (Ty.st SN.obj) x_11) →
 ((((((List.length x_9) + (List.length [(Member.mk (nameF (Reader.b r) x_10 (0 : Int)) x_11)])) * 64) ≤ 140737488355328) ∧
 (((List.length x_9) + (List.length [(Member.mk (nameF (Reader.b r) x_10 (0 : Int)) x_11)])) ≤ 1000000000000)) ∧
 ((i64 (x_8 + (1 : Int))) ∧
 (∃ (x_12 : (List Objt)), (∃ (x_13 : Int), (∃ (x_14 : (List Member)), (∃ (x_15 : Int), ((@Eq (List Objt) x_7 x_12) ∧
 (((x_8 + (1 : Int)) = x_13) ∧
 ((n = n) ∧
 ((@Eq (List Int) (Reader.b r) (Reader.b r)) ∧
 ((((oddP x_10 (0 : Int)) + 1) = x_15) ∧
 ((@Eq (List Member) (x_9 ++ [(Member.mk (nameF (Reader.b r) x_10 (0 : Int)) x_11)]) x_14) ∧
 ((((List.length x_12) ≤ 5) ∧
 (((objsA x_12) = true) ∧
 ((0 ≤ x_13) ∧
 ((x_13 ≤ (LN x_12)) ∧
 (((LN x_14) ≤ x_13) ∧
 (((mbsA x_14) = true) ∧
 (((Reader.p r) ≤ x_15) ∧
 (x_15 ≤ (((Reader.p r) + 5000) + (3 * x_13)))))))))) ∧
 (((List.length x_12) - (Int.toNat x_13)) < ((List.length x_7) - (Int.toNat x_8)))))))))))))))))))))) ∧
 (((decide (x_8 < (LN x_7))) = false) →
 (((0 ≤ x_10) ∧
 ((x_10 ≤ (1000000000000 : Int)) ∧
 (n ≤ 1000000))) ∧
 (∀ (x_16 : Bool), (∀ (x_17 : Int), (((x_10 ≤ x_17) ∧
 ((x_17 ≤ (x_10 + (1 : Int))) ∧
 ((n ≤ 0) →
 (x_16 = false)))) →
 (((x_16 = true) →
 (((0 ≤ x_17) ∧
 (x_17 ≤ (1000000000000 : Int))) ∧
 ((((decide ((pickF (Reader.b r) x_17 (3 : Int)) = 0)) = true) →
 (((0 ≤ (x_17 + (1 : Int))) ∧
 (((x_17 + (1 : Int)) ≤ 1000000000) ∧
 ((1 : Int) ≤ (1000000 : Int)))) ∧
 ((((((List.length x_9) + (List.length [(Member.mk (nameF (Reader.b r) (x_17 + (1 : Int)) (1 : Int)) (Objt.mk ([] : List Sect) ([] : List Sym)))])) * 64) ≤ 140737488355328) ∧
 (((List.length x_9) + (List.length [(Member.mk (nameF (Reader.b r) (x_17 + (1 : Int)) (1 : Int)) (Objt.mk ([] : List Sect) ([] : List Sym)))])) ≤ 1000000000000)) ∧
 (∃ (x_18 : (List Member)), (∃ (x_19 : Int), (((@Eq (List Member) (x_9 ++ [(Member.mk (nameF (Reader.b r) (x_17 + (1 : Int)) (1 : Int)) (Objt.mk ([] : List Sect) ([] : List Sym)))]) x_18) ∧
 ((@Eq (List Int) (Reader.b r) (Reader.b r)) ∧
 ((((oddP (x_17 + (1 : Int)) (1 : Int)) + 1) = x_19) ∧
 True))) ∧
 (((Reader.p r) ≤ x_19) ∧
 ((x_19 ≤ ((Reader.p r) + 10000)) ∧
 (((List.length x_18) ≤ 6) ∧
 ((mbsA x_18) = true)))))))))) ∧
 (((decide ((pickF (Reader.b r) x_17 (3 : Int)) = 0)) = false) →
 ((((decide ((pickF (Reader.b r) x_17 (3 : Int)) = 1)) = true) →
 (((0 ≤ (x_17 + (1 : Int))) ∧
 (((x_17 + (1 : Int)) ≤ 10000000) ∧
 ((1 : Int) ≤ (1000000 : Int)))) ∧
 (∀ (x_20 : Objt), (∀ (x_21 : Int), ((((x_17 + (1 : Int)) ≤ x_21) ∧
 ((x_21 ≤ ((x_17 + (1 : Int)) + 700)) ∧
 ((objSm x_20) = true))) →
 ((((((List.length x_9) + (List.length [(Member.mk (ByteArray.mk (@Array.mk UInt8 [(120 : UInt8)])) x_20)])) * 64) ≤ 140737488355328) ∧
 (((List.length x_9) + (List.length [(Member.mk (ByteArray.mk (@Array.mk UInt8 [(120 : UInt8)])) x_20)])) ≤ 1000000000000)) ∧
 (∃ (x_22 : (List Member)), (∃ (x_23 : Int), (((@Eq (List Member) (x_9 ++ [(Member.mk (ByteArray.mk (@Array.mk UInt8 [(120 : UInt8)])) x_20)]) x_22) ∧
 ((@Eq (List Int) (Reader.b r) (Reader.b r)) ∧
 ((x_21 = x_23) ∧
 True))) ∧
 (((Reader.p r) ≤ x_23) ∧
 ((x_23 ≤ ((Reader.p r) + 10000)) ∧
 (((List.length x_22) ≤ 6) ∧
 ((mbsA x_22) = true))))))))))))) ∧
 (((decide ((pickF (Reader.b r) x_17 (3 : Int)) = 1)) = false) →
 ((((5 : Int) = (5 : Int)) ∧
 (((0 : Int) ≤ (5 : Int)) ∧
 (((5 : Int) ≤ (1000000000000 : Int)) ∧
 (((@Nat.cast Int _ (64 : Nat)) * 5) ≤ 140737488355328)))) ∧
 (∃ (x_24 : (List Member)), (∃ (x_25 : Int), (((@Eq (List Member) (@repl Member (5 : Int) (Member.mk (ByteArray.mk (@Array.mk UInt8 ([] : List UInt8))) (Objt.mk ([] : List Sect) ([] : List Sym)))) x_24) ∧
 ((@Eq (List Int) (Reader.b r) (Reader.b r)) ∧
 (((x_17 + (1 : Int)) = x_25) ∧
 True))) ∧
 (((Reader.p r) ≤ x_25) ∧
 ((x_25 ≤ ((Reader.p r) + 10000)) ∧
 (((List.length x_24) ≤ 6) ∧
 ((mbsA x_24) = true)))))))))))))) ∧
 ((x_16 = false) →
 (∃ (x_26 : (List Member)), (∃ (x_27 : Int), (((@Eq (List Member) x_9 x_26) ∧
 ((@Eq (List Int) (Reader.b r) (Reader.b r)) ∧
 ((x_17 = x_27) ∧
 True))) ∧
 (((Reader.p r) ≤ x_27) ∧
 ((x_27 ≤ ((Reader.p r) + 10000)) ∧
 (((List.length x_26) ≤ 6) ∧
 ((mbsA x_26) = true))))))))))))))))))))))))))) := by kernel_rfl
theorem det_spec_l20Archive : C_spec_l20Archive.det = true → ∀ x, (C_spec_l20Archive.out x).Det := fun h => absurd h Bool.false_ne_true
set_option maxRecDepth 200000 in
set_option maxHeartbeats 4000000 in
theorem ok_spec_l20Archive : ConOK Try.prog 50 C_spec_l20Archive := by
  refine con_mk (wr := false) (ty := tyL tys_) (l := L_spec_l20Archive) ⟨⟨ok_spec_l20Objects, det_spec_l20Objects⟩, ⟨⟨ok_spec_l20Name_det, det_spec_l20Name_det⟩, ⟨⟨ok_spec_l20Rd_odd, det_spec_l20Rd_odd⟩, ⟨⟨ok_spec_l20Rd_pick, det_spec_l20Rd_pick⟩, ⟨⟨ok_spec_l20Object, det_spec_l20Object⟩, trivial⟩⟩⟩⟩⟩ Try.checked.mixed (fn := Try.f50) (body := Try.f50.body.getD .skip) Try.func50 rfl (by decide) (by kernel_rfl) rfl an_spec_l20Archive fun x ho hx => ?_
  obtain ⟨r, n, ⟨⟩⟩ := x
  refine Keeps.of (vc_spec_l20Archive r n) ?_
  revert r n ho hx
  show ∀ (r : Reader) (n : Int), _
  intro r n ho hx
  dsimp only [C_spec_l20Archive, okPTL, okPT, Ok, Ty.cells, SN.cells, OkL, OkC, okI, ci, cb, cs, cl] at ho
  dsimp only [C_spec_l20Archive, vc, v1, decB, SR.pre] at hx
  have hs := nameF_sm r.b
  have ho := oddP_bd
  have hb := pickF_bd r.b
  have hg := @objsA_get
  have ha := @mbsA_app
  (try delta i64 LN); simp only [DRt, ex_sect2]; (repeat' first | apply And.intro | (intro x hq _; replace hq := List.mem_of_getElem? hq; simp only [List.mem_cons, List.not_mem_nil, or_false] at hq) | intro _); all_goals (try omega)
  all_goals first | exact mbsA_app (by assumption) (mbSm_mk (by first | assumption | exact nameF_sm _ _ _ | decide) (by first | assumption | rfl | exact objsA_get (by assumption) (by assumption))) | (try grind [mbsA_nil, mbSm_mk, repl_mbs, repl_len])
end Go.Proofs.Ythkefakjihafeaa
