/- Where sections are placed: both packages keep the same contracts. -/
import Derived.Test.YtpgglbnagphgoaaGreatLayDS
import Derived.Test.YtpgglbnagphgoaaGreatObjVS
import Derived.Test.YtpgglbnagphgoaaGreatObjCS
set_option linter.unusedVariables false
set_option linter.unusedSimpArgs false
set_option maxRecDepth 200000
set_option maxHeartbeats 4000000
namespace Go.Proofs.YtpgglbnagphgoaaGreat
open Go Go.RowKit


def C_impl_layoutOf : Con := { ps := [.ro (.list (.st .obj)), .ro .i], out := fun x => let l : List (Objt) := x.1; let b : Int := x.2.1; newSB .layout (layout l b) (layOk l b), det := true }
abbrev L_impl_layoutOf : List (Nat × Con) := [(47, C_impl_ObjectsValid), (80, C_impl_isBase), (79, C_impl_aligned), (81, C_impl_SectionSize)]
def G_impl_layoutOf : Cfg := GK L_impl_layoutOf
def an_impl_layoutOf : PTL C_impl_layoutOf.ps → Nat → Option Ann := fun x kk_ => let l : List (Objt) := x.1; let b : Int := x.2.1; if kk_ = 5 then some (.all (Int) fun k => .giv (layOk l b = true ∧ l.length ≤ 4 ∧ 0 ≤ k ∧ k ≤ l.length) (.mk [(29, ai k), (4, aref 30), (6, aref 31), (7, ai b), (0, al (.st .obj) l), (27, al (.st .obj) l), (28, ai (List.length l))] [(30, .box false [.nil, .nil]), (31, .box false [.sl 32 [], .nil]), (32, .row (some 62) (.list .i) ((l.take k.toNat).map fun o => List.replicate o.sects.length (0 : Int)) true)] ((l.length - k.toNat)))) else if kk_ = 10 then some (.all (Int) fun c => .giv (layOk l b = true ∧ 1 ≤ c ∧ c ≤ 4) (.mk [(10, ai c), (4, aref 30), (6, aref 31), (7, ai (atK l b (c - 1).toNat)), (0, al (.st .obj) l)] [(30, .box false [.nil, .nil]), (31, .box false [.sl 32 [], .sl 33 []]), (32, .row none (.list .i) (plN l b c 0 0) true), (33, .row (some 62) (.list .i) (endsK l b (c - 1).toNat) true)] ((4 - c).toNat))) else if kk_ = 2015 then some (.all (Int) fun c => .all (Int) fun k => .giv (layOk l b = true ∧ l.length ≤ 4 ∧ 1 ≤ c ∧ c ≤ 3 ∧ 0 ≤ k ∧ k ≤ l.length) (.mk [(10, ai c), (52, ai k), (4, aref 30), (6, aref 31), (11, ai (begK l b c)), (7, ai (curO l b c k)), (0, al (.st .obj) l), (50, al (.st .obj) l), (51, ai (List.length l))] [(30, .box false [.nil, .nil]), (31, .box false [.sl 32 [], .sl 33 []]), (32, .row none (.list .i) (plN l b c k 0) true), (33, .row (some 62) (.list .i) (endsK l b (c - 1).toNat) true)] ((4 - c).toNat * 1000000 + (l.length - k.toNat) * 1000))) else if kk_ = 2018 then some (.all (Int) fun c => .all (Int) fun k => .all (Int) fun i => .giv (layOk l b = true ∧ l.length ≤ 4 ∧ (sectsAt l k).length ≤ 8 ∧ 1 ≤ c ∧ c ≤ 3 ∧ 0 ≤ k ∧ k < l.length ∧ 0 ≤ i ∧ i ≤ (sectsAt l k).length) (.mk [(10, ai c), (52, ai k), (60, ai i), (12, ai k), (4, aref 30), (6, aref 31), (11, ai (begK l b c)), (7, ai (curAt l b c k i)), (58, al (.st .sect) (sectsAt l k)), (59, ai (sectsAt l k).length), (0, al (.st .obj) l), (50, al (.st .obj) l), (51, ai (List.length l))] [(30, .box false [.nil, .nil]), (31, .box false [.sl 32 [], .sl 33 []]), (32, .row none (.list .i) (plN l b c k i) true), (33, .row (some 62) (.list .i) (endsK l b (c - 1).toNat) true)] ((4 - c).toNat * 1000000 + (l.length - k.toNat) * 1000 + (100 - i).toNat))) else none
theorem vc_impl_layoutOf (l : List (Objt)) (b : Int) : (KP Tryz.f40 G_impl_layoutOf C_impl_layoutOf an_impl_layoutOf (l, b, ())) = ((Bool.not (objsB l) = true →
 false = layOk l b ∧ ([] : List (List Int)) = (layout l b).places ∧ ([] : List (List Int)) = (layout l b).ends ∧ True) ∧ (Bool.not (objsB l) = false →
 (Bool.not (decide (isBase b)) = true →
 false = layOk l b ∧ ([] : List (List Int)) = (layout l b).places ∧ ([] : List (List Int)) = (layout l b).ends ∧ True) ∧ (Bool.not (decide (isBase b)) = false →
 l.length ≤ 9223372036854775807 →
 (∃ (a : Int), 0 = a ∧ b = b ∧ l = l ∧ l = l ∧ LN l = LN l ∧ ([] : List (List Int)) = @List.map Objt (List Int) (fun (c : Objt) => @List.replicate Int c.sects.length (0 : Int)) (l.take a.toNat) ∧ (layOk l b = true ∧ l.length ≤ 4 ∧ 0 ≤ a ∧ a ≤ LN l) ∧ True) ∧ (∀ (d : Int), layOk l b = true ∧ l.length ≤ 4 ∧ 0 ≤ d ∧ d ≤ LN l →
 (decide (d < LN l) = true →
 (0 ≤ d ∧ d < LN l) ∧ (∀ (e : Objt), l[d.toNat]? = some e →
 Ok (Ty.st SN.obj) e →
 e.sects.length ≤ 9223372036854775807 →
 (LN e.sects = LN e.sects ∧ 0 ≤ LN e.sects ∧ LN e.sects ≤ 1000000000000 ∧ @Nat.cast Int _ (8 : Nat) * LN e.sects ≤ 140737488355328) ∧ (((@List.map Objt (List Int) (fun (f : Objt) => @List.replicate Int f.sects.length (0 : Int)) (l.take d.toNat)).length + [@repl Int (LN e.sects) (0 : Int)].length) * 24 ≤ 140737488355328 ∧ (@List.map Objt (List Int) (fun (g : Objt) => @List.replicate Int g.sects.length (0 : Int)) (l.take d.toNat)).length + [@repl Int (LN e.sects) (0 : Int)].length ≤ 1000000000000) ∧ i64 (d + 1) ∧ (∃ (h : Int), d + 1 = h ∧ b = b ∧ l = l ∧ l = l ∧ LN l = LN l ∧ @List.map Objt (List Int) (fun (i : Objt) => @List.replicate Int i.sects.length (0 : Int)) (l.take d.toNat) ++ [@repl Int (LN e.sects) (0 : Int)] = @List.map Objt (List Int) (fun (j : Objt) => @List.replicate Int j.sects.length (0 : Int)) (l.take h.toNat) ∧ (layOk l b = true ∧ l.length ≤ 4 ∧ 0 ≤ h ∧ h ≤ LN l) ∧ l.length - h.toNat < l.length - d.toNat))) ∧ (decide (d < LN l) = false →
 (∃ (k : Int), 1 = k ∧ b = atK l b (k - 1).toNat ∧ l = l ∧ @List.map Objt (List Int) (fun (m : Objt) => @List.replicate Int m.sects.length (0 : Int)) (l.take d.toNat) = plN l b k 0 0 ∧ ([] : List (List Int)) = endsK l b (k - 1).toNat ∧ (layOk l b = true ∧ 1 ≤ k ∧ k ≤ 4) ∧ True) ∧ (∀ (n : Int), layOk l b = true ∧ 1 ≤ n ∧ n ≤ 4 →
 (decide (n ≤ 3) = true →
 (0 ≤ atK l b (n - 1).toNat ∧ atK l b (n - 1).toNat ≤ 1000000000 ∧ (1 : Int) ≤ (8 : Int) ∧ (8 : Int) ≤ (8 : Int)) ∧ (l.length ≤ 9223372036854775807 →
 (∃ (o : Int), (∃ (p : Int), n = o ∧ 0 = p ∧ alg (atK l b (n - 1).toNat) 8 = begK l b o ∧ alg (atK l b (n - 1).toNat) 8 = curO l b o p ∧ l = l ∧ l = l ∧ LN l = LN l ∧ plN l b n 0 0 = plN l b o p 0 ∧ endsK l b (n - 1).toNat = endsK l b (o - 1).toNat ∧ (layOk l b = true ∧ l.length ≤ 4 ∧ 1 ≤ o ∧ o ≤ 3 ∧ 0 ≤ p ∧ p ≤ LN l) ∧ (∀ (q : Int), (∀ (r : Int), layOk l b = true ∧ l.length ≤ 4 ∧ 1 ≤ q ∧ q ≤ 3 ∧ 0 ≤ r ∧ r ≤ LN l →
 (4 - q).toNat * 1000000 + (l.length - r.toNat) * 1000 ≤ (4 - o).toNat * 1000000 + (l.length - p.toNat) * 1000 →
 (decide (r < LN l) = true →
 (0 ≤ r ∧ r < LN l) ∧ (∀ (s : Objt), l[r.toNat]? = some s →
 Ok (Ty.st SN.obj) s →
 s.sects.length ≤ 9223372036854775807 →
 (∃ (t : Int), (∃ (u : Int), (∃ (v : Int), q = t ∧ r = u ∧ 0 = v ∧ r = u ∧ begK l b q = begK l b t ∧ curO l b q r = curAt l b t u v ∧ s.sects = sectsAt l u ∧ LN s.sects = LN (sectsAt l u) ∧ l = l ∧ l = l ∧ LN l = LN l ∧ plN l b q r 0 = plN l b t u v ∧ endsK l b (q - 1).toNat = endsK l b (t - 1).toNat ∧ (layOk l b = true ∧ l.length ≤ 4 ∧ (sectsAt l u).length ≤ 8 ∧ 1 ≤ t ∧ t ≤ 3 ∧ 0 ≤ u ∧ u < LN l ∧ 0 ≤ v ∧ v ≤ LN (sectsAt l u)) ∧ (∀ (w : Int), (∀ (x : Int), (∀ (y : Int), layOk l b = true ∧ l.length ≤ 4 ∧ (sectsAt l x).length ≤ 8 ∧ 1 ≤ w ∧ w ≤ 3 ∧ 0 ≤ x ∧ x < LN l ∧ 0 ≤ y ∧ y ≤ LN (sectsAt l x) →
 (4 - w).toNat * 1000000 + (l.length - x.toNat) * 1000 + (100 - y).toNat ≤ (4 - t).toNat * 1000000 + (l.length - u.toNat) * 1000 + (100 - v).toNat →
 (decide (y < LN (sectsAt l x)) = true →
 (0 ≤ y ∧ y < LN (sectsAt l x)) ∧ (∀ (z : Sect), (sectsAt l x)[y.toNat]? = some z →
 Ok (Ty.st SN.sect) z →
 (decide (z.kind = w) = true →
 (0 ≤ curAt l b w x y ∧ curAt l b w x y ≤ 1000000000 ∧ 1 ≤ z.align ∧ z.align ≤ 8) ∧ (0 ≤ x ∧ x < LN (plN l b w x y)) ∧ (∀ (A : List Int), (plN l b w x y)[x.toNat]? = some A →
 Ok (Ty.list (Ty.int IntKind.i64)) A →
 (∀ (B : List Int), (plN l b w x y)[x.toNat]? = some B →
 (0 ≤ y ∧ y < LN B) ∧ (∀ (C : List Int), (plN l b w x y)[x.toNat]? = some C →
 (∀ (D : Int), C[y.toNat]? = some D →
 i64 (alg (curAt l b w x y) z.align + secSize z) ∧ i64 (y + 1) ∧ (∃ (E : Int), (∃ (F : Int), (∃ (G : Int), w = E ∧ x = F ∧ y + 1 = G ∧ x = F ∧ begK l b w = begK l b E ∧ alg (curAt l b w x y) z.align + secSize z = curAt l b E F G ∧ sectsAt l x = sectsAt l F ∧ LN (sectsAt l x) = LN (sectsAt l F) ∧ l = l ∧ l = l ∧ LN l = LN l ∧ (plN l b w x y).set x.toNat (C.set y.toNat (alg (curAt l b w x y) z.align)) = plN l b E F G ∧ endsK l b (w - 1).toNat = endsK l b (E - 1).toNat ∧ (layOk l b = true ∧ l.length ≤ 4 ∧ (sectsAt l F).length ≤ 8 ∧ 1 ≤ E ∧ E ≤ 3 ∧ 0 ≤ F ∧ F < LN l ∧ 0 ≤ G ∧ G ≤ LN (sectsAt l F)) ∧ (4 - E).toNat * 1000000 + (l.length - F.toNat) * 1000 + (100 - G).toNat < (4 - w).toNat * 1000000 + (l.length - x.toNat) * 1000 + (100 - y).toNat)))))))) ∧ (decide (z.kind = w) = false →
 i64 (y + 1) ∧ (∃ (H : Int), (∃ (I : Int), (∃ (J : Int), w = H ∧ x = I ∧ y + 1 = J ∧ x = I ∧ begK l b w = begK l b H ∧ curAt l b w x y = curAt l b H I J ∧ sectsAt l x = sectsAt l I ∧ LN (sectsAt l x) = LN (sectsAt l I) ∧ l = l ∧ l = l ∧ LN l = LN l ∧ plN l b w x y = plN l b H I J ∧ endsK l b (w - 1).toNat = endsK l b (H - 1).toNat ∧ (layOk l b = true ∧ l.length ≤ 4 ∧ (sectsAt l I).length ≤ 8 ∧ 1 ≤ H ∧ H ≤ 3 ∧ 0 ≤ I ∧ I < LN l ∧ 0 ≤ J ∧ J ≤ LN (sectsAt l I)) ∧ (4 - H).toNat * 1000000 + (l.length - I.toNat) * 1000 + (100 - J).toNat < (4 - w).toNat * 1000000 + (l.length - x.toNat) * 1000 + (100 - y).toNat)))))) ∧ (decide (y < LN (sectsAt l x)) = false →
 i64 (x + 1) ∧ (∃ (K : Int), (∃ (L : Int), w = K ∧ x + 1 = L ∧ begK l b w = begK l b K ∧ curAt l b w x y = curO l b K L ∧ l = l ∧ l = l ∧ LN l = LN l ∧ plN l b w x y = plN l b K L 0 ∧ endsK l b (w - 1).toNat = endsK l b (K - 1).toNat ∧ (layOk l b = true ∧ l.length ≤ 4 ∧ 1 ≤ K ∧ K ≤ 3 ∧ 0 ≤ L ∧ L ≤ LN l) ∧ (4 - K).toNat * 1000000 + (l.length - L.toNat) * 1000 < (4 - q).toNat * 1000000 + (l.length - r.toNat) * 1000))))))))))) ∧ (decide (r < LN l) = false →
 (((endsK l b (q - 1).toNat).length + [[begK l b q, curO l b q r]].length) * 24 ≤ 140737488355328 ∧ (endsK l b (q - 1).toNat).length + [[begK l b q, curO l b q r]].length ≤ 1000000000000) ∧ i64 (q + 1) ∧ (∃ (M : Int), q + 1 = M ∧ curO l b q r = atK l b (M - 1).toNat ∧ l = l ∧ plN l b q r 0 = plN l b M 0 0 ∧ endsK l b (q - 1).toNat ++ [[begK l b q, curO l b q r]] = endsK l b (M - 1).toNat ∧ (layOk l b = true ∧ 1 ≤ M ∧ M ≤ 4) ∧ (4 - M).toNat < (4 - n).toNat)))))))) ∧ (decide (n ≤ 3) = false →
 true = layOk l b ∧ plN l b n 0 0 = (layout l b).places ∧ endsK l b (n - 1).toNat = (layout l b).ends ∧ True))))))) := by kernel_rfl
theorem det_impl_layoutOf : C_impl_layoutOf.det = true → ∀ x, (C_impl_layoutOf.out x).Det := fun _ _ => Det.ret _
theorem ok_impl_layoutOf : ConOK Tryz.prog 40 C_impl_layoutOf := by
 refine con_q (l := L_impl_layoutOf) ⟨⟨ok_impl_ObjectsValid, det_impl_ObjectsValid⟩, ⟨⟨ok_impl_isBase, det_impl_isBase⟩, ⟨⟨ok_impl_aligned, det_impl_aligned⟩, ⟨⟨ok_impl_SectionSize, det_impl_SectionSize⟩, trivial⟩⟩⟩⟩ Tryz.func40 rfl (by decide) (by kernel_rfl) rfl an_impl_layoutOf fun x ho hx => ?_
 obtain ⟨l, b, ⟨⟩⟩ := x
 refine Keeps.of (vc_impl_layoutOf l b) ?_
 revert l b ho hx
 show ∀ (l : List (Objt)) (b : Int), _
 intro l b ho hx
 dsimp only [C_impl_layoutOf, okPTL, okPT, Ok, Ty.cells, SN.cells, OkL, OkC, okI, ci, cb, cs, cl] at ho
 dsimp only [C_impl_layoutOf, vc, v1, decB, SR.pre] at hx
 (try delta i64 LN); simp only [VBt]; (repeat' first | intro _ | apply And.intro); all_goals (try omega)
 all_goals (try have hsG := sectsAt_get (by assumption) (by assumption)); all_goals (try have hsL := sectsAt_lt (by assumption) (by assumption)); all_goals (try have hsE := sectsAt_ge (by assumption) (by assumption)); all_goals first | omega | rfl | exact plN_first (by assumption) (by assumption) | exact at_nn (by assumption) (by assumption) (by assumption) | exact at_le (by assumption) (by assumption) (by assumption) | exact curAt_nn (by assumption) (by assumption) (by assumption) | exact curAt_le (by assumption) (by assumption) (by assumption) | exact align_ge (by assumption) (by assumption) | exact align_le (by assumption) (by assumption) | exact go_lo (by assumption) (by assumption) (by assumption) (by assumption) | exact go_hi (by assumption) (by assumption) (by assumption) (by assumption) | exact plN_lt (by assumption) | exact plN_rlt (by assumption) (by assumption) | exact plN_set (by assumption) (by assumption) (by assumption) (by assumption) (by assumption) (by assumption) | exact (curAt_hit (by assumption) (by assumption) (by assumption)).symm | exact (curAt_miss (by assumption) (by assumption) (by assumption)).symm | exact plN_skip (by assumption) (by assumption) (by assumption) (by assumption) (by assumption) | exact curAt_end (by assumption) (by assumption) (by assumption) | exact plN_obj (by assumption) (by assumption) (by assumption) | exact endsK_cur (by assumption) (by assumption) | exact curO_atK (by assumption) (by assumption) | exact plN_kind (by assumption) | exact plN_lay (by assumption) (by assumption) | exact ends_lay (by assumption) (by assumption) (by assumption) | exact at_lay (by assumption) (by assumption) (by assumption) | exact sects8 (by assumption) | exact lay4 (by assumption) | exact up_beg (by assumption) (by assumption) (by assumption) | exact up_lo (by assumption) (by assumption) (by assumption) (by assumption) | exact up_hi (by assumption) (by assumption) (by assumption) (by assumption) | exact up_hit (by assumption) (by assumption) (by assumption) (by assumption) (by assumption) (by assumption) | exact up_set (by assumption) (by assumption) (by assumption) (by assumption) (by assumption) (by assumption) (by assumption) (by assumption) (by assumption) | exact pl_hit (by assumption) (by assumption) (by assumption) (by assumption) (by assumption) (by assumption) (by assumption) | exact places_lt (by assumption) | exact places_rlt (by assumption) (by assumption) | exact repl_next (by assumption) (by assumption) | exact layOk_yes (by assumption) (by assumption) | exact (layOk_no1 (by assumption)).symm | exact (layOk_no2 (by assumption)).symm | (rw [lay_no1 (by assumption)]) | (rw [lay_no2 (by assumption)]) | (have := sects_len8 (by assumption) (by assumption); omega) | (have := pl_bd (by assumption) (by assumption) (by assumption) (by assumption) (by assumption) (by assumption) (by assumption); omega) | (rw [← sectsAt_eq (by assumption)])| exact curO_end (by assumption) (by assumption) | exact endsK_cur2 (by assumption) (by assumption) | (rw [endsK_len]; omega) | (simp only [List.length_map, List.length_take]; omega) | exact Eq.symm (by assumption) | exact (endPl_no (layOk_no1 (by assumption))).symm | exact (endPl_no (layOk_no3 (by assumption))).symm | exact (endPl_no (layOk_no4 (by assumption))).symm | exact (layOk_no3 (by assumption)).symm | exact (layOk_no4 (by assumption)).symm | (rw [layout_no (layOk_no3 (by assumption))]) | (rw [layout_no (layOk_no4 (by assumption))]) | exact layOk_yes2 (by assumption) (by assumption) (by assumption) (by assumption) | exact sectsAt_lt (by assumption) (by assumption) | exact sectsAt_ge (by assumption) (by assumption) | (rw [layout_no (by assumption)]) | (rw [layout_yes (by assumption)]) | (have := lmap_len (by assumption); omega) | (have := lmap_len (l := l) (k := _) (by assumption); omega) | exact (objsB_all (by assumption)).2 | exact up_hit (by assumption) (by assumption) (by assumption) (by assumption) (by assumption) (by omega) | exact up_set (by assumption) (by assumption) (by assumption) (by assumption) (by assumption) (by assumption) (by assumption) (by omega) (by assumption) | skip
def C_impl_layout_end : Con := { ps := [.ro (.st .layout)], out := fun x => let d : Layout := x.1; .req (isLay d) (vc .i (endV d)), det := true }
abbrev L_impl_layout_end : List (Nat × Con) := []
def G_impl_layout_end : Cfg := GK L_impl_layout_end
def an_impl_layout_end : PTL C_impl_layout_end.ps → Nat → Option Ann := fun _ _ => none
theorem vc_impl_layout_end (d : Layout) : (KP Tryz.f42 G_impl_layout_end C_impl_layout_end an_impl_layout_end (d, ())) = (d.ends.length ≤ 9223372036854775807 →
 i64 (LN d.ends - 1) ∧ (0 ≤ LN d.ends - 1 ∧ LN d.ends - 1 < LN d.ends) ∧ (∀ (a : List Int), d.ends[(LN d.ends - 1).toNat]? = some a →
 Ok (Ty.list (Ty.int IntKind.i64)) a →
 ((0 : Int) ≤ (1 : Int) ∧ 1 < LN a) ∧ (∀ (b : Int), a[(1 : Nat)]? = some b →
 Ok (Ty.int IntKind.i64) b →
 b = endV d ∧ True))) := by kernel_rfl
theorem det_impl_layout_end : C_impl_layout_end.det = true → ∀ x, (C_impl_layout_end.out x).Det := fun _ x => by simp only [C_impl_layout_end]; repeat (first | exact Det.ret _ | exact Det.vc' | apply Det.req)
theorem ok_impl_layout_end : ConOK Tryz.prog 42 C_impl_layout_end := by
 refine con_q (l := L_impl_layout_end) trivial Tryz.func42 rfl (by decide) (by kernel_rfl) rfl an_impl_layout_end fun x ho hx => ?_
 obtain ⟨d, ⟨⟩⟩ := x
 refine Keeps.of (vc_impl_layout_end d) ?_
 revert d ho hx
 show ∀ (d : Layout), _
 intro d ho hx
 dsimp only [C_impl_layout_end, okPTL, okPT, Ok, Ty.cells, SN.cells, OkL, OkC, okI, ci, cb, cs, cl] at ho
 dsimp only [C_impl_layout_end, vc, v1, decB, SR.pre] at hx
 have h := isLay_ends hx.1
 (try delta i64 LN); simp only [VBt]; (repeat' first | intro _ | apply And.intro); all_goals (try omega)
 all_goals (try grind)
end Go.Proofs.YtpgglbnagphgoaaGreat
