/- The readers that the laws on objects draw their data with. -/
import Derived.Test.YtfdngmkmeeaeeaaGreatDrawOa
set_option linter.unusedVariables false
set_option linter.unusedSimpArgs false
set_option maxRecDepth 200000
set_option maxHeartbeats 4000000
namespace Go.Proofs.YtfdngmkmeeaeeaaGreat
open Go Go.RowKit


theorem sumI_bd {α : Type} {f : α → Int} {p : α → Bool} {c : Int} (hc : 0 ≤ c) (hp : ∀ x, p x = true → f x ≤ c) : ∀ {l : List α}, l.all p = true → sumI f l ≤ c * l.length := by
 intro l
 induction l with
 | nil => intro _; simp [sumI]
 | cons x l ih =>
  intro h
  simp only [List.all_cons, Bool.and_eq_true] at h
  have h1 := hp x h.1
  have h2 := ih h.2
  simp only [sumI, List.length_cons, Int.natCast_add, Int.mul_add]
  simp
  omega
theorem objSm_sz {o : Objt} (h : objSm o = true) : szOb o ≤ 2000 := by
 have h1 := objSm_iff.1 h
 have h2 := sumI_bd (f := szSe) (p := secSm) (c := 100) (by omega) (fun s hs => by have := secSm_iff.1 hs; unfold szSe; omega) h1.2.1
 have h3 := sumI_bd (f := szSy) (p := symSm) (c := 16) (by omega) (fun s hs => by have := symSm_iff.1 hs; unfold szSy; omega) h1.2.2
 unfold szOb
 omega
theorem objsA_sz {l : List Objt} (h : objsA l = true) (hl : l.length ≤ 20) : l.length + sumI szOb l ≤ 100000 := by
 have h2 := sumI_bd (f := szOb) (p := objSm) (c := 2000) (by omega) (fun o ho => objSm_sz ho) h
 omega
def mbSm (m : Member) : Bool := nmSm m.name && objSm m.what
def mbsA (l : List Member) : Bool := l.all mbSm
theorem mbsA_nil : mbsA [] = true := rfl
theorem mbsA_app {l : List Member} {m : Member} (h : mbsA l = true) (hm : mbSm m = true) : mbsA (l ++ [m]) = true := all_snoc h hm
theorem mbSm_mk {a : ByteArray} {b : List Sect} {c : List Sym} (h : a.size ≤ 16) (h' : objSm ⟨b, c⟩ = true) : mbSm ⟨a, ⟨b, c⟩⟩ = true := by
 unfold mbSm; rw [h']; simp [nmSm, h]
theorem mbSm_sz {m : Member} (h : mbSm m = true) : szMb m ≤ 3000 := by
 simp only [mbSm, Bool.and_eq_true] at h
 have := objSm_sz h.2
 have h2 : m.name.size ≤ 16 := of_decide_eq_true h.1
 unfold szMb
 omega
theorem mbsA_sz {l : List Member} (h : mbsA l = true) (hl : l.length ≤ 20) : l.length + sumI szMb l ≤ 100000 := by
 have h2 := sumI_bd (f := szMb) (p := mbSm) (c := 3000) (by omega) (fun o ho => mbSm_sz ho) h
 omega
theorem repl_mbs (n : Int) : mbsA (repl n (⟨⟨⟨[]⟩⟩, ⟨[], []⟩⟩ : Member)) = true := List.all_eq_true.2 fun y hy => by rw [List.eq_of_mem_replicate hy]; rfl
def C_spec_DrawPlaceSections : Con := { ps := [.ro (.list .u)], out := fun x => let c : List (Int) := x.1; .all (List Objt) fun l => .all Int fun b => .giv (l.length ≤ 5 ∧ objsA l = true ∧ -8 ≤ b ∧ b ≤ 4104) (.ret { val := .tup [(false, [.c (cl (.st .obj) l)]), (false, [.c (ci b)])] }), det := false }
abbrev L_spec_DrawPlaceSections : List (Nat × Con) := [(91, C_spec_l20Open), (111, C_spec_l20Objects), (113, C_spec_l20Base)]
def G_spec_DrawPlaceSections : Cfg := GK L_spec_DrawPlaceSections
def an_spec_DrawPlaceSections : PTL C_spec_DrawPlaceSections.ps → Nat → Option Ann := fun _ _ => none
theorem vc_spec_DrawPlaceSections (c : List (Int)) : (KP Tryz.f107 G_spec_DrawPlaceSections C_spec_DrawPlaceSections an_spec_DrawPlaceSections (c, ())) = (((0 : Int) ≤ (0 : Int) ∧ (0 : Int) ≤ (1000000 : Int) ∧ (0 : Int) ≤ (9 : Int) ∧ (9 : Int) ≤ (100000 : Int)) ∧ (∀ (a : List Objt), (∀ (b : Int), 0 ≤ b ∧ b ≤ (0 : Int) + (5000 : Int) ∧ a.length ≤ 5 ∧ objsA a = true →
 (0 ≤ b ∧ b ≤ 100000000 ∧ (9 : Int) ≤ (1000000 : Int)) ∧ (∀ (d : Int), (∀ (e : Int), b ≤ e ∧ e ≤ b + 5 ∧ (- (8 : Int)) ≤ d ∧ d ≤ 4104 →
 (∃ (f : List Objt), (∃ (g : Int), (a = f ∧ d = g ∧ True) ∧ f.length ≤ 5 ∧ objsA f = true ∧ (- (8 : Int)) ≤ g ∧ g ≤ 4104))))))) := by kernel_rfl
theorem det_spec_DrawPlaceSections : C_spec_DrawPlaceSections.det = true → ∀ x, (C_spec_DrawPlaceSections.out x).Det := fun h => absurd h Bool.false_ne_true
theorem ok_spec_DrawPlaceSections : ConOK Tryz.prog 107 C_spec_DrawPlaceSections := by
 refine con_q (l := L_spec_DrawPlaceSections) ⟨⟨ok_spec_l20Open, det_spec_l20Open⟩, ⟨⟨ok_spec_l20Objects, det_spec_l20Objects⟩, ⟨⟨ok_spec_l20Base, det_spec_l20Base⟩, trivial⟩⟩⟩ Tryz.func107 rfl (by decide) (by kernel_rfl) rfl an_spec_DrawPlaceSections fun x ho hx => ?_
 obtain ⟨c, ⟨⟩⟩ := x
 refine Keeps.of (vc_spec_DrawPlaceSections c) ?_
 revert c ho hx
 show ∀ (c : List (Int)), _
 intro c ho hx
 dsimp only [C_spec_DrawPlaceSections, okPTL, okPT, Ok, Ty.cells, SN.cells, OkL, OkC, okI, ci, cb, cs, cl] at ho
 dsimp only [C_spec_DrawPlaceSections, vc, v1, decB, SR.pre] at hx
 (try delta i64 LN); simp only [DRt, ex_sect2]; (repeat' first | apply And.intro | (intro x hq _; replace hq := List.mem_of_getElem? hq; simp only [List.mem_cons, List.not_mem_nil, or_false] at hq) | intro _); all_goals (try omega)
 all_goals (try grind)
def C_spec_DrawLink : Con := { ps := [.ro (.list .u)], out := fun x => let c : List (Int) := x.1; .all (List Objt) fun l => .all Int fun b => .giv (l.length ≤ 5 ∧ objsA l = true ∧ -8 ≤ b ∧ b ≤ 4104) (.ret { val := .tup [(false, [.c (cl (.st .obj) l)]), (false, [.c (ci b)])] }), det := false }
abbrev L_spec_DrawLink : List (Nat × Con) := [(107, C_spec_DrawPlaceSections)]
def G_spec_DrawLink : Cfg := GK L_spec_DrawLink
def an_spec_DrawLink : PTL C_spec_DrawLink.ps → Nat → Option Ann := fun _ _ => none
theorem vc_spec_DrawLink (c : List (Int)) : (KP Tryz.f43 G_spec_DrawLink C_spec_DrawLink an_spec_DrawLink (c, ())) = ((∀ (a : List Objt), (∀ (b : Int), a.length ≤ 5 ∧ objsA a = true ∧ (- (8 : Int)) ≤ b ∧ b ≤ 4104 →
 (∃ (d : List Objt), (∃ (e : Int), (a = d ∧ b = e ∧ True) ∧ d.length ≤ 5 ∧ objsA d = true ∧ (- (8 : Int)) ≤ e ∧ e ≤ 4104))))) := by kernel_rfl
theorem det_spec_DrawLink : C_spec_DrawLink.det = true → ∀ x, (C_spec_DrawLink.out x).Det := fun h => absurd h Bool.false_ne_true
theorem ok_spec_DrawLink : ConOK Tryz.prog 43 C_spec_DrawLink := by
 refine con_q (l := L_spec_DrawLink) ⟨⟨ok_spec_DrawPlaceSections, det_spec_DrawPlaceSections⟩, trivial⟩ Tryz.func43 rfl (by decide) (by kernel_rfl) rfl an_spec_DrawLink fun x ho hx => ?_
 obtain ⟨c, ⟨⟩⟩ := x
 refine Keeps.of (vc_spec_DrawLink c) ?_
 revert c ho hx
 show ∀ (c : List (Int)), _
 intro c ho hx
 dsimp only [C_spec_DrawLink, okPTL, okPT, Ok, Ty.cells, SN.cells, OkL, OkC, okI, ci, cb, cs, cl] at ho
 dsimp only [C_spec_DrawLink, vc, v1, decB, SR.pre] at hx
 (try delta i64 LN); simp only [DRt, ex_sect2]; (repeat' first | apply And.intro | (intro x hq _; replace hq := List.mem_of_getElem? hq; simp only [List.mem_cons, List.not_mem_nil, or_false] at hq) | intro _); all_goals (try omega)
 all_goals (try grind)
def C_spec_DrawMemoryOf : Con := { ps := [.ro (.list .u)], out := fun x => let c : List (Int) := x.1; .all (List Objt) fun l => .all Int fun b => .giv (l.length ≤ 5 ∧ objsA l = true ∧ -8 ≤ b ∧ b ≤ 4104) (.ret { val := .tup [(false, [.c (cl (.st .obj) l)]), (false, [.c (ci b)])] }), det := false }
abbrev L_spec_DrawMemoryOf : List (Nat × Con) := [(107, C_spec_DrawPlaceSections)]
def G_spec_DrawMemoryOf : Cfg := GK L_spec_DrawMemoryOf
def an_spec_DrawMemoryOf : PTL C_spec_DrawMemoryOf.ps → Nat → Option Ann := fun _ _ => none
theorem vc_spec_DrawMemoryOf (c : List (Int)) : (KP Tryz.f51 G_spec_DrawMemoryOf C_spec_DrawMemoryOf an_spec_DrawMemoryOf (c, ())) = ((∀ (a : List Objt), (∀ (b : Int), a.length ≤ 5 ∧ objsA a = true ∧ (- (8 : Int)) ≤ b ∧ b ≤ 4104 →
 (∃ (d : List Objt), (∃ (e : Int), (a = d ∧ b = e ∧ True) ∧ d.length ≤ 5 ∧ objsA d = true ∧ (- (8 : Int)) ≤ e ∧ e ≤ 4104))))) := by kernel_rfl
theorem det_spec_DrawMemoryOf : C_spec_DrawMemoryOf.det = true → ∀ x, (C_spec_DrawMemoryOf.out x).Det := fun h => absurd h Bool.false_ne_true
theorem ok_spec_DrawMemoryOf : ConOK Tryz.prog 51 C_spec_DrawMemoryOf := by
 refine con_q (l := L_spec_DrawMemoryOf) ⟨⟨ok_spec_DrawPlaceSections, det_spec_DrawPlaceSections⟩, trivial⟩ Tryz.func51 rfl (by decide) (by kernel_rfl) rfl an_spec_DrawMemoryOf fun x ho hx => ?_
 obtain ⟨c, ⟨⟩⟩ := x
 refine Keeps.of (vc_spec_DrawMemoryOf c) ?_
 revert c ho hx
 show ∀ (c : List (Int)), _
 intro c ho hx
 dsimp only [C_spec_DrawMemoryOf, okPTL, okPT, Ok, Ty.cells, SN.cells, OkL, OkC, okI, ci, cb, cs, cl] at ho
 dsimp only [C_spec_DrawMemoryOf, vc, v1, decB, SR.pre] at hx
 (try delta i64 LN); simp only [DRt, ex_sect2]; (repeat' first | apply And.intro | (intro x hq _; replace hq := List.mem_of_getElem? hq; simp only [List.mem_cons, List.not_mem_nil, or_false] at hq) | intro _); all_goals (try omega)
 all_goals (try grind)
def C_spec_l20Archive : Con := { ps := [.box (.ty (.st .reader)), .ro .i], out := fun x => let r : Reader := x.1; let n : Int := x.2.1; .req (0 ≤ r.p ∧ r.p ≤ 500000 ∧ 0 ≤ n ∧ n ≤ 100000) (.all (List Member) fun l => .all Int fun p => .giv (r.p ≤ p ∧ p ≤ r.p + 10000 ∧ l.length ≤ 6 ∧ mbsA l = true) (rdF 111 (.st .member) l p)), det := false }
abbrev L_spec_l20Archive : List (Nat × Con) := [(111, C_spec_l20Objects), (171, C_spec_l20Name_det), (157, C_spec_l20Rd_odd), (154, C_spec_l20Rd_pick), (90, C_spec_l20Object)]
def G_spec_l20Archive : Cfg := GK L_spec_l20Archive
def an_spec_l20Archive : PTL C_spec_l20Archive.ps → Nat → Option Ann := fun x kk_ => let r : Reader := x.1; let n : Int := x.2.1; if kk_ = 4 then some (.all (List Objt) fun l => .all (Int) fun k => .all (List Member) fun m => .all (Int) fun p => .giv (l.length ≤ 5 ∧ objsA l = true ∧ 0 ≤ k ∧ k ≤ l.length ∧ m.length ≤ k ∧ mbsA m = true ∧ r.p ≤ p ∧ p ≤ r.p + 5000 + 3 * k) (.mk [(6, al (.st .obj) l), (7, ai k), (5, asl 20), (0, aref 0), (1, ai n)] [(0, lent (.st .reader) ⟨r.b, p⟩), (20, .row (some 111) (.st .member) m false)] ((l.length - k.toNat)))) else none
theorem vc_spec_l20Archive (r : Reader) (n : Int) : (KP Tryz.f112 G_spec_l20Archive C_spec_l20Archive an_spec_l20Archive (r, n, ())) = ((0 ≤ r.p ∧ r.p ≤ 1000000 ∧ (0 : Int) ≤ (0 : Int) ∧ (0 : Int) ≤ (100000 : Int)) ∧ (∀ (a : List Objt), (∀ (c : Int), r.p ≤ c ∧ c ≤ r.p + 5000 ∧ a.length ≤ 5 ∧ objsA a = true →
 (∃ (d : List Objt), (∃ (e : Int), (∃ (f : List Member), (∃ (g : Int), a = d ∧ 0 = e ∧ n = n ∧ r.b = r.b ∧ c = g ∧ ([] : List Member) = f ∧ (d.length ≤ 5 ∧ objsA d = true ∧ 0 ≤ e ∧ e ≤ LN d ∧ LN f ≤ e ∧ mbsA f = true ∧ r.p ≤ g ∧ g ≤ r.p + 5000 + 3 * e) ∧ True)))) ∧ (∀ (h : List Objt), (∀ (i : Int), (∀ (j : List Member), (∀ (k : Int), h.length ≤ 5 ∧ objsA h = true ∧ 0 ≤ i ∧ i ≤ LN h ∧ LN j ≤ i ∧ mbsA j = true ∧ r.p ≤ k ∧ k ≤ r.p + 5000 + 3 * i →
 h.length ≤ 9223372036854775807 →
 (decide (i < LN h) = true →
 (0 ≤ k ∧ k ≤ 1000000000 ∧ (0 : Int) ≤ (1000000 : Int)) ∧ (0 ≤ i ∧ i < LN h) ∧ (∀ (l : Objt), h[i.toNat]? = some l →
 Ok (Ty.st SN.obj) l →
 ((j.length + [Member.mk (nameF r.b k 0) l].length) * 64 ≤ 140737488355328 ∧ j.length + [Member.mk (nameF r.b k 0) l].length ≤ 1000000000000) ∧ i64 (i + 1) ∧ (∃ (m : List Objt), (∃ (o : Int), (∃ (q : List Member), (∃ (s : Int), h = m ∧ i + 1 = o ∧ n = n ∧ r.b = r.b ∧ oddP k 0 + 1 = s ∧ j ++ [Member.mk (nameF r.b k 0) l] = q ∧ (m.length ≤ 5 ∧ objsA m = true ∧ 0 ≤ o ∧ o ≤ LN m ∧ LN q ≤ o ∧ mbsA q = true ∧ r.p ≤ s ∧ s ≤ r.p + 5000 + 3 * o) ∧ m.length - o.toNat < h.length - i.toNat)))))) ∧ (decide (i < LN h) = false →
 (0 ≤ k ∧ k ≤ 1000000000000 ∧ n ≤ 1000000) ∧ (∀ (t : Bool), (∀ (u : Int), k ≤ u ∧ u ≤ k + 1 ∧ (n ≤ 0 →
 t = false) →
 (t = true →
 (0 ≤ u ∧ u ≤ 1000000000000) ∧ (decide (pickF r.b u 3 = 0) = true →
 (0 ≤ u + 1 ∧ u + 1 ≤ 1000000000 ∧ (1 : Int) ≤ (1000000 : Int)) ∧ ((j.length + [Member.mk (nameF r.b (u + 1) 1) (Objt.mk ([] : List Sect) ([] : List Sym))].length) * 64 ≤ 140737488355328 ∧ j.length + [Member.mk (nameF r.b (u + 1) 1) (Objt.mk ([] : List Sect) ([] : List Sym))].length ≤ 1000000000000) ∧ (∃ (v : List Member), (∃ (w : Int), (j ++ [Member.mk (nameF r.b (u + 1) 1) (Objt.mk ([] : List Sect) ([] : List Sym))] = v ∧ r.b = r.b ∧ oddP (u + 1) 1 + 1 = w ∧ True) ∧ r.p ≤ w ∧ w ≤ r.p + 10000 ∧ v.length ≤ 6 ∧ mbsA v = true))) ∧ (decide (pickF r.b u 3 = 0) = false →
 (decide (pickF r.b u 3 = 1) = true →
 (0 ≤ u + 1 ∧ u + 1 ≤ 10000000 ∧ (1 : Int) ≤ (1000000 : Int)) ∧ (∀ (x : Objt), (∀ (y : Int), u + 1 ≤ y ∧ y ≤ u + 1 + 700 ∧ objSm x = true →
 ((j.length + [Member.mk (ByteArray.mk (@Array.mk UInt8 [(120 : UInt8)])) x].length) * 64 ≤ 140737488355328 ∧ j.length + [Member.mk (ByteArray.mk (@Array.mk UInt8 [(120 : UInt8)])) x].length ≤ 1000000000000) ∧ (∃ (z : List Member), (∃ (A : Int), (j ++ [Member.mk (ByteArray.mk (@Array.mk UInt8 [(120 : UInt8)])) x] = z ∧ r.b = r.b ∧ y = A ∧ True) ∧ r.p ≤ A ∧ A ≤ r.p + 10000 ∧ z.length ≤ 6 ∧ mbsA z = true))))) ∧ (decide (pickF r.b u 3 = 1) = false →
 ((5 : Int) = (5 : Int) ∧ (0 : Int) ≤ (5 : Int) ∧ (5 : Int) ≤ (1000000000000 : Int) ∧ @Nat.cast Int _ (64 : Nat) * 5 ≤ 140737488355328) ∧ (∃ (B : List Member), (∃ (C : Int), (@repl Member (5 : Int) (Member.mk (ByteArray.mk (@Array.mk UInt8 ([] : List UInt8))) (Objt.mk ([] : List Sect) ([] : List Sym))) = B ∧ r.b = r.b ∧ u + 1 = C ∧ True) ∧ r.p ≤ C ∧ C ≤ r.p + 10000 ∧ B.length ≤ 6 ∧ mbsA B = true))))) ∧ (t = false →
 (∃ (D : List Member), (∃ (E : Int), (j = D ∧ r.b = r.b ∧ u = E ∧ True) ∧ r.p ≤ E ∧ E ≤ r.p + 10000 ∧ D.length ≤ 6 ∧ mbsA D = true))))))))))))) := by kernel_rfl
theorem det_spec_l20Archive : C_spec_l20Archive.det = true → ∀ x, (C_spec_l20Archive.out x).Det := fun h => absurd h Bool.false_ne_true
theorem ok_spec_l20Archive : ConOK Tryz.prog 112 C_spec_l20Archive := by
 refine con_q (l := L_spec_l20Archive) ⟨⟨ok_spec_l20Objects, det_spec_l20Objects⟩, ⟨⟨ok_spec_l20Name_det, det_spec_l20Name_det⟩, ⟨⟨ok_spec_l20Rd_odd, det_spec_l20Rd_odd⟩, ⟨⟨ok_spec_l20Rd_pick, det_spec_l20Rd_pick⟩, ⟨⟨ok_spec_l20Object, det_spec_l20Object⟩, trivial⟩⟩⟩⟩⟩ Tryz.func112 rfl (by decide) (by kernel_rfl) rfl an_spec_l20Archive fun x ho hx => ?_
 obtain ⟨r, n, ⟨⟩⟩ := x
 refine Keeps.of (vc_spec_l20Archive r n) ?_
 revert r n ho hx
 show ∀ (r : Reader) (n : Int), _
 intro r n ho hx
 dsimp only [C_spec_l20Archive, okPTL, okPT, Ok, Ty.cells, SN.cells, OkL, OkC, okI, ci, cb, cs, cl] at ho
 dsimp only [C_spec_l20Archive, vc, v1, decB, SR.pre] at hx
 have hs := nameF_sm r.b
 have ho := oddP_bd
 have hb := pickF_bd r.b
 have hg := @objsA_get
 have ha := @mbsA_app
 (try delta i64 LN); simp only [DRt, ex_sect2]; (repeat' first | apply And.intro | (intro x hq _; replace hq := List.mem_of_getElem? hq; simp only [List.mem_cons, List.not_mem_nil, or_false] at hq) | intro _); all_goals (try omega)
 all_goals first | exact mbsA_app (by assumption) (mbSm_mk (by first | assumption | exact nameF_sm _ _ _ | decide) (by first | assumption | rfl | exact objsA_get (by assumption) (by assumption))) | (try grind [mbsA_nil, mbSm_mk, repl_mbs, repl_len])
end Go.Proofs.YtfdngmkmeeaeeaaGreat
