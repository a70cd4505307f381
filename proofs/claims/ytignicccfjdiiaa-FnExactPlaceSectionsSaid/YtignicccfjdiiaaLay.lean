/- Where sections are placed: both packages keep the same contracts. -/
import Derived.Test.YtignicccfjdiiaaLayD
import Derived.Test.YtignicccfjdiiaaObjV
import Derived.Test.YtignicccfjdiiaaObjC
set_option linter.unusedVariables false
set_option linter.unusedSimpArgs false
namespace Go.Proofs.Ytignicccfjdiiaa
open Go Go.RowKit


def newPl (l : List (List Int)) (n : Int) (b : Bool) : SR := .ret { val := .tup [(false, [.sl 100 []]), (false, [.c (ci n)]), (false, [.c (cb b)])], ins := [(100, .row none (.list .i) l true)] }
def C_impl_layoutOf : Con := { ps := [.ro (.list (.st .obj)), .ro .i], out := fun x => let l : List (Objt) := x.1; let b : Int := x.2.1; newSB .layout (layout l b) (layOk l b), det := true }
abbrev L_impl_layoutOf : List (Nat × Con) := [(89, C_impl_ObjectsValid), (106, C_impl_isBase), (105, C_impl_aligned), (26, C_impl_SectionSize)]
def G_impl_layoutOf : Cfg := mkG (tyL tys_) L_impl_layoutOf false
def an_impl_layoutOf : PTL C_impl_layoutOf.ps → Nat → Option Ann := fun x kk_ => let l : List (Objt) := x.1; let b : Int := x.2.1; if kk_ = 5 then some (.all (Int) fun k => .giv (layOk l b = true ∧ l.length ≤ 4 ∧ 0 ≤ k ∧ k ≤ l.length) (.mk [(29, ai k), (4, aref 30), (6, aref 31), (7, ai b), (0, al (.st .obj) l), (27, al (.st .obj) l), (28, ai (List.length l))] [(30, .box false [.nil, .nil]), (31, .box false [.sl 32 [], .nil]), (32, .row (some 47) (.list .i) ((l.take k.toNat).map fun o => List.replicate o.sects.length (0 : Int)) true)] ((l.length - k.toNat)))) else if kk_ = 10 then some (.all (Int) fun c => .giv (layOk l b = true ∧ 1 ≤ c ∧ c ≤ 4) (.mk [(10, ai c), (4, aref 30), (6, aref 31), (7, ai (atK l b (c - 1).toNat)), (0, al (.st .obj) l)] [(30, .box false [.nil, .nil]), (31, .box false [.sl 32 [], .sl 33 []]), (32, .row none (.list .i) (plN l b c 0 0) true), (33, .row (some 47) (.list .i) (endsK l b (c - 1).toNat) true)] ((4 - c).toNat))) else if kk_ = 2015 then some (.all (Int) fun c => .all (Int) fun k => .giv (layOk l b = true ∧ l.length ≤ 4 ∧ 1 ≤ c ∧ c ≤ 3 ∧ 0 ≤ k ∧ k ≤ l.length) (.mk [(10, ai c), (52, ai k), (4, aref 30), (6, aref 31), (11, ai (begK l b c)), (7, ai (curO l b c k)), (0, al (.st .obj) l), (50, al (.st .obj) l), (51, ai (List.length l))] [(30, .box false [.nil, .nil]), (31, .box false [.sl 32 [], .sl 33 []]), (32, .row none (.list .i) (plN l b c k 0) true), (33, .row (some 47) (.list .i) (endsK l b (c - 1).toNat) true)] ((4 - c).toNat * 1000000 + (l.length - k.toNat) * 1000))) else if kk_ = 2018 then some (.all (Int) fun c => .all (Int) fun k => .all (Int) fun i => .giv (layOk l b = true ∧ l.length ≤ 4 ∧ (sectsAt l k).length ≤ 8 ∧ 1 ≤ c ∧ c ≤ 3 ∧ 0 ≤ k ∧ k < l.length ∧ 0 ≤ i ∧ i ≤ (sectsAt l k).length) (.mk [(10, ai c), (52, ai k), (60, ai i), (12, ai k), (4, aref 30), (6, aref 31), (11, ai (begK l b c)), (7, ai (curAt l b c k i)), (58, al (.st .sect) (sectsAt l k)), (59, ai (sectsAt l k).length), (0, al (.st .obj) l), (50, al (.st .obj) l), (51, ai (List.length l))] [(30, .box false [.nil, .nil]), (31, .box false [.sl 32 [], .sl 33 []]), (32, .row none (.list .i) (plN l b c k i) true), (33, .row (some 47) (.list .i) (endsK l b (c - 1).toNat) true)] ((4 - c).toNat * 1000000 + (l.length - k.toNat) * 1000 + (100 - i).toNat))) else none
set_option maxRecDepth 200000 in
theorem vc_impl_layoutOf (l : List (Objt)) (b : Int) : (keeps Try.prog G_impl_layoutOf (an_impl_layoutOf (l, b, ())) (Try.f71.body.getD .skip) Try.f71.results.toList C_impl_layoutOf (l, b, ())) = (((((Bool.not (objsB l)) = true) →
 ((false = (layOk l b)) ∧
 ((@Eq (List (List Int)) ([] : List (List Int)) (Layout.places (layout l b))) ∧
 ((@Eq (List (List Int)) ([] : List (List Int)) (Layout.ends (layout l b))) ∧
 True)))) ∧
 (((Bool.not (objsB l)) = false) →
 ((((Bool.not (decide (isBase b))) = true) →
 ((false = (layOk l b)) ∧
 ((@Eq (List (List Int)) ([] : List (List Int)) (Layout.places (layout l b))) ∧
 ((@Eq (List (List Int)) ([] : List (List Int)) (Layout.ends (layout l b))) ∧
 True)))) ∧
 (((Bool.not (decide (isBase b))) = false) →
 (((List.length l) ≤ 9223372036854775807) →
 ((∃ (x_1 : Int), ((0 = x_1) ∧
 ((b = b) ∧
 ((@Eq (List Objt) l l) ∧
 ((@Eq (List Objt) l l) ∧
 (((LN l) = (LN l)) ∧
 ((@Eq (List (List Int)) ([] : List (List Int)) (@List.map Objt (List Int) (fun (o_2 : Objt) => (@List.replicate Int (List.length (Objt.sects o_2)) (0 : Int))) (List.take (Int.toNat x_1) l))) ∧
 ((((layOk l b) = true) ∧
 (((List.length l) ≤ 4) ∧
 ((0 ≤ x_1) ∧
 (x_1 ≤ (LN l))))) ∧
 True)))))))) ∧
 (∀ (x_3 : Int), ((((layOk l b) = true) ∧
 (((List.length l) ≤ 4) ∧
 ((0 ≤ x_3) ∧
 (x_3 ≤ (LN l))))) →
 ((((decide (x_3 < (LN l))) = true) →
 (((0 ≤ x_3) ∧
 (x_3 < (LN l))) ∧
 (∀ (x_4 : Objt), ((@Eq (Option Objt) (l)[(Int.toNat x_3)]? (some x_4)) →
 ((Ok (Ty.st SN.obj) x_4) →
 (((List.length (Objt.sects x_4)) ≤ 9223372036854775807) →
 ((((LN (Objt.sects x_4)) = (LN (Objt.sects x_4))) ∧
 ((0 ≤ (LN (Objt.sects x_4))) ∧
 (((LN (Objt.sects x_4)) ≤ 1000000000000) ∧
 (((@Nat.cast Int _ (8 : Nat)) * (LN (Objt.sects x_4))) ≤ 140737488355328)))) ∧
 ((((((List.length (@List.map Objt (List Int) (fun (o_5 : Objt) => (@List.replicate Int (List.length (Objt.sects o_5)) (0 : Int))) (List.take (Int.toNat x_3) l))) + (List.length [(@repl Int (LN (Objt.sects x_4)) (0 : Int))])) * 24) ≤ 140737488355328) ∧
 (((List.length (@List.map Objt (List Int) (fun (o_6 : Objt) => (@List.replicate Int (List.length (Objt.sects o_6)) (0 : Int))) (List.take (Int.toNat x_3) l))) + (List.length [(@repl Int (LN (Objt.sects x_4)) (0 : Int))])) ≤ 1000000000000)) ∧
 ((i64 (x_3 + (1 : Int))) ∧
 (∃ (x_7 : Int), (((x_3 + (1 : Int)) = x_7) ∧
 ((b = b) ∧
 ((@Eq (List Objt) l l) ∧
 ((@Eq (List Objt) l l) ∧
 (((LN l) = (LN l)) ∧
 ((@Eq (List (List Int)) ((@List.map Objt (List Int) (fun (o_8 : Objt) => (@List.replicate Int (List.length (Objt.sects o_8)) (0 : Int))) (List.take (Int.toNat x_3) l)) ++ [(@repl Int (LN (Objt.sects x_4)) (0 : Int))]) (@List.map Objt (List Int) (fun (o_9 : Objt) => (@List.replicate Int (List.length (Objt.sects o_9)) (0 : Int))) (List.take (Int.toNat x_7) l))) ∧
 ((((layOk l b) = true) ∧
 (((List.length l) ≤ 4) ∧
 ((0 ≤ x_7) ∧
 (x_7 ≤ (LN l))))) ∧
 (((List.length l) - (Int.toNat x_7)) < ((List.length l) - (Int.toNat x_3)))))))))))))))))))) ∧
 (((decide (x_3 < (LN l))) = false) →
 ((∃ (x_10 : Int), ((1 = x_10) ∧
 ((b = (atK l b (Int.toNat (x_10 - (1 : Int))))) ∧
 ((@Eq (List Objt) l l) ∧
 ((@Eq (List (List Int)) (@List.map Objt (List Int) (fun (o_11 : Objt) => (@List.replicate Int (List.length (Objt.sects o_11)) (0 : Int))) (List.take (Int.toNat x_3) l)) (plN l b x_10 (0 : Int) (0 : Int))) ∧
 ((@Eq (List (List Int)) ([] : List (List Int)) (endsK l b (Int.toNat (x_10 - (1 : Int))))) ∧
 ((((layOk l b) = true) ∧
 ((1 ≤ x_10) ∧
 (x_10 ≤ (4 : Int)))) ∧
 True))))))) ∧
 (∀ (x_12 : Int), ((((layOk l b) = true) ∧
 ((1 ≤ x_12) ∧
 (x_12 ≤ (4 : Int)))) →
 ((((decide (x_12 ≤ (3 : Int))) = true) →
 (((0 ≤ (atK l b (Int.toNat (x_12 - (1 : Int))))) ∧
 (((atK l b (Int.toNat (x_12 - (1 : Int)))) ≤ 1000000000) ∧
 (((1 : Int) ≤ (8 : Int)) ∧
 ((8 : Int) ≤ (8 : Int))))) ∧
 (((List.length l) ≤ 9223372036854775807) →
 (∃ (x_13 : Int), (∃ (x_14 : Int), ((x_12 = x_13) ∧
 ((0 = x_14) ∧
 (((alg (atK l b (Int.toNat (x_12 - (1 : Int)))) (8 : Int)) = (begK l b x_13)) ∧
 (((alg (atK l b (Int.toNat (x_12 - (1 : Int)))) (8 : Int)) = (curO l b x_13 x_14)) ∧
 ((@Eq (List Objt) l l) ∧
 ((@Eq (List Objt) l l) ∧
 (((LN l) = (LN l)) ∧
 ((@Eq (List (List Int)) (plN l b x_12 (0 : Int) (0 : Int)) (plN l b x_13 x_14 (0 : Int))) ∧
 ((@Eq (List (List Int)) (endsK l b (Int.toNat (x_12 - (1 : Int)))) (endsK l b (Int.toNat (x_13 - (1 : Int))))) ∧
 ((((layOk l b) = true) ∧
 (((List.length l) ≤ 4) ∧
 ((1 ≤ x_13) ∧
 ((x_13 ≤ (3 : Int)) ∧
 ((0 ≤ x_14) ∧
 (x_14 ≤ (LN l))))))) ∧
 (∀ (x_15 : Int), (∀ (x_16 : Int), ((((layOk l b) = true) ∧
 (((List.length l) ≤ 4) ∧
 ((1 ≤ x_15) ∧
 ((x_15 ≤ (3 : Int)) ∧
 ((0 ≤ x_16) ∧
 (x_16 ≤ (LN l))))))) →
 (((((Int.toNat (4 - x_15)) * 1000000) + (((List.length l) - (Int.toNat x_16)) * 1000)) ≤ (((Int.toNat (4 - x_13)) * 1000000) + (((List.length l) - (Int.toNat x_14)) * 1000))) →
 ((((decide (x_16 < (LN l))) = true) →
 (((0 ≤ x_16) ∧
 (x_16 < (LN l))) ∧
 (∀ (x_17 : Objt), ((@Eq (Option Objt) (l)[(Int.toNat x_16)]? (some x_17)) →
 ((Ok (Ty.st SN.obj) x_17) →
 (((List.length (Objt.sects x_17)) ≤ 9223372036854775807) →
 (∃ (x_18 : Int), (∃ (x_19 : Int), (∃ (x_20 : Int), ((x_15 = x_18) ∧
 ((x_16 = x_19) ∧
 ((0 = x_20) ∧
 ((x_16 = x_19) ∧
 (((begK l b x_15) = (begK l b x_18)) ∧
 (((curO l b x_15 x_16) = (curAt l b x_18 x_19 x_20)) ∧
 ((@Eq (List Sect) (Objt.sects x_17) (sectsAt l x_19)) ∧
 (((LN (Objt.sects x_17)) = (LN (sectsAt l x_19))) ∧
 ((@Eq (List Objt) l l) ∧
 ((@Eq (List Objt) l l) ∧
 (((LN l) = (LN l)) ∧
 ((@Eq (List (List Int)) (plN l b x_15 x_16 (0 : Int)) (plN l b x_18 x_19 x_20)) ∧
 ((@Eq (List (List Int)) (endsK l b (Int.toNat (x_15 - (1 : Int)))) (endsK l b (Int.toNat (x_18 - (1 : Int))))) ∧
 ((((layOk l b) = true) ∧
 (((List.length l) ≤ 4) ∧
 (((List.length (sectsAt l x_19)) ≤ 8) ∧
 ((1 ≤ x_18) ∧
 ((x_18 ≤ (3 : Int)) ∧
 ((0 ≤ x_19) ∧
 ((x_19 < (LN l)) ∧
 ((0 ≤ x_20) ∧
 (x_20 ≤ (LN (sectsAt l x_19))))))))))) ∧
 (∀ (x_21 : Int), (∀ (x_22 : Int), (∀ (x_23 : Int), ((((layOk l b) = true) ∧
 (((List.length l) ≤ 4) ∧
 (((List.length (sectsAt l x_22)) ≤ 8) ∧
 ((1 ≤ x_21) ∧
 ((x_21 ≤ (3 : Int)) ∧
 ((0 ≤ x_22) ∧
 ((x_22 < (LN l)) ∧
 ((0 ≤ x_23) ∧
 (x_23 ≤ (LN (sectsAt l x_22))))))))))) →
 ((((((Int.toNat (4 - x_21)) * 1000000) + (((List.length l) - (Int.toNat x_22)) * 1000)) + (Int.toNat (100 - x_23))) ≤ ((((Int.toNat (4 - x_18)) * 1000000) + (((List.length l) - (Int.toNat x_19)) * 1000)) + (Int.toNat (100 - x_20)))) →
 ((((decide (x_23 < (LN (sectsAt l x_22)))) = true) →
 (((0 ≤ x_23) ∧
 (x_23 < (LN (sectsAt l x_22)))) ∧
 (∀ (x_24 : Sect), ((@Eq (Option Sect) ((sectsAt l x_22))[(Int.toNat x_23)]? (some x_24)) →
 ((Ok (Ty.st SN.sect) x_24) →
 ((((decide ((Sect.kind x_24) = x_21)) = true) →
 (((0 ≤ (curAt l b x_21 x_22 x_23)) ∧
 (((curAt l b x_21 x_22 x_23) ≤ 1000000000) ∧
 ((1 ≤ (Sect.align x_24)) ∧
 ((Sect.align x_24) ≤ 8)))) ∧
 (((0 ≤ x_22) ∧
 (x_22 < (LN (plN l b x_21 x_22 x_23)))) ∧
 (∀ (x_25 : (List Int)), ((@Eq (Option (List Int)) ((plN l b x_21 x_22 x_23))[(Int.toNat x_22)]? (some x_25)) →
 ((Ok (Ty.list (Ty.int IntKind.i64)) x_25) →
 (∀ (x_26 : (List Int)), ((@Eq (Option (List Int)) ((plN l b x_21 x_22 x_23))[(Int.toNat x_22)]? (some x_26)) →
 (((0 ≤ x_23) ∧
 (x_23 < (LN x_26))) ∧
 (∀ (x_27 : (List Int)), ((@Eq (Option (List Int)) ((plN l b x_21 x_22 x_23))[(Int.toNat x_22)]? (some x_27)) →
 (∀ (x_28 : Int), ((@Eq (Option Int) (x_27)[(Int.toNat x_23)]? (some x_28)) →
 ((i64 ((alg (curAt l b x_21 x_22 x_23) (Sect.align x_24)) + (secSize x_24))) ∧
 ((i64 (x_23 + (1 : Int))) ∧
 (∃ (x_29 : Int), (∃ (x_30 : Int), (∃ (x_31 : Int), ((x_21 = x_29) ∧
 ((x_22 = x_30) ∧
 (((x_23 + (1 : Int)) = x_31) ∧
 ((x_22 = x_30) ∧
 (((begK l b x_21) = (begK l b x_29)) ∧
 ((((alg (curAt l b x_21 x_22 x_23) (Sect.align x_24)) + (secSize x_24)) = (curAt l b x_29 x_30 x_31)) ∧
 ((@Eq (List Sect) (sectsAt l x_22) (sectsAt l x_30)) ∧
 (((LN (sectsAt l x_22)) = (LN (sectsAt l x_30))) ∧
 ((@Eq (List Objt) l l) ∧
 ((@Eq (List Objt) l l) ∧
 (((LN l) = (LN l)) ∧
 ((@Eq (List (List Int)) (List.set (plN l b x_21 x_22 x_23) (Int.toNat x_22) (List.set x_27 (Int.toNat x_23) (alg (curAt l b x_21 x_22 x_23) (Sect.align x_24)))) (plN l b x_29 x_30 x_31)) ∧
 ((@Eq (List (List Int)) (endsK l b (Int.toNat (x_21 - (1 : Int)))) (endsK l b (Int.toNat (x_29 - (1 : Int))))) ∧
 ((((layOk l b) = true) ∧
 (((List.length l) ≤ 4) ∧
 (((List.length (sectsAt l x_30)) ≤ 8) ∧
 ((1 ≤ x_29) ∧
 ((x_29 ≤ (3 : Int)) ∧
 ((0 ≤ x_30) ∧
 ((x_30 < (LN l)) ∧
 ((0 ≤ x_31) ∧
 (x_31 ≤ (LN (sectsAt l x_30))))))))))) ∧
 (((((Int.toNat (4 - x_29)) * 1000000) + (((List.length l) - (Int.toNat x_30)) * 1000)) + (Int.toNat (100 - x_31))) < ((((Int.toNat (4 - x_21)) * 1000000) + (((List.length l) - (Int.toNat x_22)) * 1000)) + (Int.toNat (100 - x_23)))))))))))))))))))))))))))))))))))) ∧
 (((decide ((Sect.kind x_24) = x_21)) = false) →
 ((i64 (x_23 + (1 : Int))) ∧
 (∃ (x_32 : Int), (∃ (x_33 : Int), (∃ (x_34 : Int), ((x_21 = x_32) ∧
 ((x_22 = x_33) ∧
 (((x_23 + (1 : Int)) = x_34) ∧
 ((x_22 = x_33) ∧
 (((begK l b x_21) = (begK l b x_32)) ∧
 (((curAt l b x_21 x_22 x_23) = (curAt l b x_32 x_33 x_34)) ∧
 ((@Eq (List Sect) (sectsAt l x_22) (sectsAt l x_33)) ∧
 (((LN (sectsAt l x_22)) = (LN (sectsAt l x_33))) ∧
 ((@Eq (List Objt) l l) ∧
 ((@Eq (List Objt) l l) ∧
 (((LN l) = (LN l)) ∧
 ((@Eq (List (List Int)) (plN l b x_21 x_22 x_23) (plN l b x_32 x_33 x_34)) ∧
 ((@Eq (List (List Int)) (endsK l b (Int.toNat (x_21 - (1 : Int)))) (endsK l b (Int.toNat (x_32 - (1 : Int))))) ∧
 ((((layOk l b) = true) ∧
 (((List.length l) ≤ 4) ∧
 (((List.length (sectsAt l x_33)) ≤ 8) ∧
 ((1 ≤ x_32) ∧
 ((x_32 ≤ (3 : Int)) ∧
 ((0 ≤ x_33) ∧
 ((x_33 < (LN l)) ∧
 ((0 ≤ x_34) ∧
 (x_34 ≤ (LN (sectsAt l x_33))))))))))) ∧
 (((((Int.toNat (4 - x_32)) * 1000000) + (((List.length l) - (Int.toNat x_33)) * 1000)) + (Int.toNat (100 - x_34))) < ((((Int.toNat (4 - x_21)) * 1000000) + (((List.length l) - (Int.toNat x_22)) * 1000)) + (Int.toNat (100 - x_23))))))))))))))))))))))))))))) ∧
 (((decide (x_23 < (LN (sectsAt l x_22)))) = false) →
 ((i64 (x_22 + (1 : Int))) ∧
 (∃ (x_35 : Int), (∃ (x_36 : Int), ((x_21 = x_35) ∧
 (((x_22 + (1 : Int)) = x_36) ∧
 (((begK l b x_21) = (begK l b x_35)) ∧
 (((curAt l b x_21 x_22 x_23) = (curO l b x_35 x_36)) ∧
 ((@Eq (List Objt) l l) ∧
 ((@Eq (List Objt) l l) ∧
 (((LN l) = (LN l)) ∧
 ((@Eq (List (List Int)) (plN l b x_21 x_22 x_23) (plN l b x_35 x_36 (0 : Int))) ∧
 ((@Eq (List (List Int)) (endsK l b (Int.toNat (x_21 - (1 : Int)))) (endsK l b (Int.toNat (x_35 - (1 : Int))))) ∧
 ((((layOk l b) = true) ∧
 (((List.length l) ≤ 4) ∧
 ((1 ≤ x_35) ∧
 ((x_35 ≤ (3 : Int)) ∧
 ((0 ≤ x_36) ∧
 (x_36 ≤ (LN l))))))) ∧
 ((((Int.toNat (4 - x_35)) * 1000000) + (((List.length l) - (Int.toNat x_36)) * 1000)) < (((Int.toNat (4 - x_15)) * 1000000) + (((List.length l) - (Int.toNat x_16)) * 1000)))))))))))))))))))))))))))))))))))))))))))))) ∧
 (((decide (x_16 < (LN l))) = false) →
 ((((((List.length (endsK l b (Int.toNat (x_15 - (1 : Int))))) + (List.length [[(begK l b x_15), (curO l b x_15 x_16)]])) * 24) ≤ 140737488355328) ∧
 (((List.length (endsK l b (Int.toNat (x_15 - (1 : Int))))) + (List.length [[(begK l b x_15), (curO l b x_15 x_16)]])) ≤ 1000000000000)) ∧
 ((i64 (x_15 + (1 : Int))) ∧
 (∃ (x_37 : Int), (((x_15 + (1 : Int)) = x_37) ∧
 (((curO l b x_15 x_16) = (atK l b (Int.toNat (x_37 - (1 : Int))))) ∧
 ((@Eq (List Objt) l l) ∧
 ((@Eq (List (List Int)) (plN l b x_15 x_16 (0 : Int)) (plN l b x_37 (0 : Int) (0 : Int))) ∧
 ((@Eq (List (List Int)) ((endsK l b (Int.toNat (x_15 - (1 : Int)))) ++ [[(begK l b x_15), (curO l b x_15 x_16)]]) (endsK l b (Int.toNat (x_37 - (1 : Int))))) ∧
 ((((layOk l b) = true) ∧
 ((1 ≤ x_37) ∧
 (x_37 ≤ (4 : Int)))) ∧
 ((Int.toNat (4 - x_37)) < (Int.toNat (4 - x_12))))))))))))))))))))))))))))))))) ∧
 (((decide (x_12 ≤ (3 : Int))) = false) →
 ((true = (layOk l b)) ∧
 ((@Eq (List (List Int)) (plN l b x_12 (0 : Int) (0 : Int)) (Layout.places (layout l b))) ∧
 ((@Eq (List (List Int)) (endsK l b (Int.toNat (x_12 - (1 : Int)))) (Layout.ends (layout l b))) ∧
 True))))))))))))))))))) := by kernel_rfl
theorem det_impl_layoutOf : C_impl_layoutOf.det = true → ∀ x, (C_impl_layoutOf.out x).Det := fun _ x => by simp only [C_impl_layoutOf]; repeat (first | exact Det.ret _ | exact Det.vc' | apply Det.req)
set_option maxRecDepth 200000 in
set_option maxHeartbeats 4000000 in
theorem ok_impl_layoutOf : ConOK Try.prog 71 C_impl_layoutOf := by
  refine con_mk (wr := false) (ty := tyL tys_) (l := L_impl_layoutOf) ⟨⟨ok_impl_ObjectsValid, det_impl_ObjectsValid⟩, ⟨⟨ok_impl_isBase, det_impl_isBase⟩, ⟨⟨ok_impl_aligned, det_impl_aligned⟩, ⟨⟨ok_impl_SectionSize, det_impl_SectionSize⟩, trivial⟩⟩⟩⟩ Try.checked.mixed (fn := Try.f71) (body := Try.f71.body.getD .skip) Try.func71 rfl (by decide) (by kernel_rfl) rfl an_impl_layoutOf fun x ho hx => ?_
  obtain ⟨l, b, ⟨⟩⟩ := x
  refine Keeps.of (vc_impl_layoutOf l b) ?_
  revert l b ho hx
  show ∀ (l : List (Objt)) (b : Int), _
  intro l b ho hx
  dsimp only [C_impl_layoutOf, okPTL, okPT, Ok, Ty.cells, SN.cells, OkL, OkC, okI, ci, cb, cs, cl] at ho
  dsimp only [C_impl_layoutOf, vc, v1, decB, SR.pre] at hx
  (try delta i64 LN); simp only [VBt]; (repeat' first | intro _ | apply And.intro); all_goals (try omega)
  all_goals (try have hsG := sectsAt_get (by assumption) (by assumption)); all_goals (try have hsL := sectsAt_lt (by assumption) (by assumption)); all_goals (try have hsE := sectsAt_ge (by assumption) (by assumption)); all_goals first | omega | rfl | exact plN_first (by assumption) (by assumption) | exact at_nn (by assumption) (by assumption) (by assumption) | exact at_le (by assumption) (by assumption) (by assumption) | exact curAt_nn (by assumption) (by assumption) (by assumption) | exact curAt_le (by assumption) (by assumption) (by assumption) | exact align_ge (by assumption) (by assumption) | exact align_le (by assumption) (by assumption) | exact go_lo (by assumption) (by assumption) (by assumption) (by assumption) | exact go_hi (by assumption) (by assumption) (by assumption) (by assumption) | exact plN_lt (by assumption) | exact plN_rlt (by assumption) (by assumption) | exact plN_set (by assumption) (by assumption) (by assumption) (by assumption) (by assumption) (by assumption) | exact (curAt_hit (by assumption) (by assumption) (by assumption)).symm | exact (curAt_miss (by assumption) (by assumption) (by assumption)).symm | exact plN_skip (by assumption) (by assumption) (by assumption) (by assumption) (by assumption) | exact curAt_end (by assumption) (by assumption) (by assumption) | exact plN_obj (by assumption) (by assumption) (by assumption) | exact endsK_cur (by assumption) (by assumption) | exact curO_atK (by assumption) (by assumption) | exact plN_kind (by assumption) | exact plN_lay (by assumption) (by assumption) | exact ends_lay (by assumption) (by assumption) (by assumption) | exact at_lay (by assumption) (by assumption) (by assumption) | exact sects8 (by assumption) | exact lay4 (by assumption) | exact up_beg (by assumption) (by assumption) (by assumption) | exact up_lo (by assumption) (by assumption) (by assumption) (by assumption) | exact up_hi (by assumption) (by assumption) (by assumption) (by assumption) | exact up_hit (by assumption) (by assumption) (by assumption) (by assumption) (by assumption) (by assumption) | exact up_set (by assumption) (by assumption) (by assumption) (by assumption) (by assumption) (by assumption) (by assumption) (by assumption) (by assumption) | exact pl_hit (by assumption) (by assumption) (by assumption) (by assumption) (by assumption) (by assumption) (by assumption) | exact places_lt (by assumption) | exact places_rlt (by assumption) (by assumption) | exact repl_next (by assumption) (by assumption) | exact layOk_yes (by assumption) (by assumption) | exact (layOk_no1 (by assumption)).symm | exact (layOk_no2 (by assumption)).symm | (rw [lay_no1 (by assumption)]) | (rw [lay_no2 (by assumption)]) | (have := sects_len8 (by assumption) (by assumption); omega) | (have := pl_bd (by assumption) (by assumption) (by assumption) (by assumption) (by assumption) (by assumption) (by assumption); omega) | (rw [← sectsAt_eq (by assumption)])| exact curO_end (by assumption) (by assumption) | exact endsK_cur2 (by assumption) (by assumption) | (rw [endsK_len]; omega) | (simp only [List.length_map, List.length_take]; omega) | exact Eq.symm (by assumption) | exact (endPl_no (layOk_no1 (by assumption))).symm | exact (endPl_no (layOk_no3 (by assumption))).symm | exact (endPl_no (layOk_no4 (by assumption))).symm | exact (layOk_no3 (by assumption)).symm | exact (layOk_no4 (by assumption)).symm | (rw [layout_no (layOk_no3 (by assumption))]) | (rw [layout_no (layOk_no4 (by assumption))]) | exact layOk_yes2 (by assumption) (by assumption) (by assumption) (by assumption) | exact sectsAt_lt (by assumption) (by assumption) | exact sectsAt_ge (by assumption) (by assumption) | (rw [layout_no (by assumption)]) | (rw [layout_yes (by assumption)]) | (have := lmap_len (by assumption); omega) | (have := lmap_len (l := l) (k := _) (by assumption); omega) | exact (objsB_all (by assumption)).2 | exact up_hit (by assumption) (by assumption) (by assumption) (by assumption) (by assumption) (by omega) | exact up_set (by assumption) (by assumption) (by assumption) (by assumption) (by assumption) (by assumption) (by assumption) (by omega) (by assumption) | skip
def C_impl_layout_end : Con := { ps := [.ro (.st .layout)], out := fun x => let d : Layout := x.1; .req (isLay d) (vc .i (endV d)), det := true }
abbrev L_impl_layout_end : List (Nat × Con) := []
def G_impl_layout_end : Cfg := mkG (tyL tys_) L_impl_layout_end false
def an_impl_layout_end : PTL C_impl_layout_end.ps → Nat → Option Ann := fun _ _ => none
set_option maxRecDepth 200000 in
theorem vc_impl_layout_end (d : Layout) : (keeps Try.prog G_impl_layout_end (an_impl_layout_end (d, ())) (Try.f72.body.getD .skip) Try.f72.results.toList C_impl_layout_end (d, ())) = ((((List.length (Layout.ends d)) ≤ 9223372036854775807) →
 ((i64 ((LN (Layout.ends d)) - 1)) ∧
 (((0 ≤ ((LN (Layout.ends d)) - 1)) ∧
 (((LN (Layout.ends d)) - 1) < (LN (Layout.ends d)))) ∧
 (∀ (x_1 : (List Int)), ((@Eq (Option (List Int)) ((Layout.ends d))[(Int.toNat ((LN (Layout.ends d)) - 1))]? (some x_1)) →
 ((Ok (Ty.list (Ty.int IntKind.i64)) x_1) →
 ((((0 : Int) ≤ (1 : Int)) ∧
 (1 < (LN x_1))) ∧
 (∀ (x_2 : Int), ((@Eq (Option Int) (x_1)[(1 : Nat)]? (some x_2)) →
 ((Ok (Ty.int IntKind.i64) x_2) →
 ((x_2 = (endV d)) ∧
 True)))))))))))) := by kernel_rfl
theorem det_impl_layout_end : C_impl_layout_end.det = true → ∀ x, (C_impl_layout_end.out x).Det := fun _ x => by simp only [C_impl_layout_end]; repeat (first | exact Det.ret _ | exact Det.vc' | apply Det.req)
set_option maxRecDepth 200000 in
set_option maxHeartbeats 4000000 in
theorem ok_impl_layout_end : ConOK Try.prog 72 C_impl_layout_end := by
  refine con_mk (wr := false) (ty := tyL tys_) (l := L_impl_layout_end) trivial Try.checked.mixed (fn := Try.f72) (body := Try.f72.body.getD .skip) Try.func72 rfl (by decide) (by kernel_rfl) rfl an_impl_layout_end fun x ho hx => ?_
  obtain ⟨d, ⟨⟩⟩ := x
  refine Keeps.of (vc_impl_layout_end d) ?_
  revert d ho hx
  show ∀ (d : Layout), _
  intro d ho hx
  dsimp only [C_impl_layout_end, okPTL, okPT, Ok, Ty.cells, SN.cells, OkL, OkC, okI, ci, cb, cs, cl] at ho
  dsimp only [C_impl_layout_end, vc, v1, decB, SR.pre] at hx
  have h := isLay_ends hx.1
  (try delta i64 LN); simp only [VBt]; (repeat' first | intro _ | apply And.intro); all_goals (try omega)
  all_goals (try grind)
def C_impl_PlaceSections : Con := { ps := [.ro (.list (.st .obj)), .ro .i], out := fun x => let l : List (Objt) := x.1; let b : Int := x.2.1; newPl (layout l b).places (endPl l b) (layOk l b), det := true }
abbrev L_impl_PlaceSections : List (Nat × Con) := [(71, C_impl_layoutOf), (72, C_impl_layout_end)]
def G_impl_PlaceSections : Cfg := mkG (tyL tys_) L_impl_PlaceSections false
def an_impl_PlaceSections : PTL C_impl_PlaceSections.ps → Nat → Option Ann := fun _ _ => none
set_option maxRecDepth 200000 in
theorem vc_impl_PlaceSections (l : List (Objt)) (b : Int) : (keeps Try.prog G_impl_PlaceSections (an_impl_PlaceSections (l, b, ())) (Try.f23.body.getD .skip) Try.f23.results.toList C_impl_PlaceSections (l, b, ())) = (((((Bool.not (layOk l b)) = true) →
 ((0 = (endPl l b)) ∧
 ((false = (layOk l b)) ∧
 ((@Eq (List (List Int)) ([] : List (List Int)) (Layout.places (layout l b))) ∧
 True)))) ∧
 (((Bool.not (layOk l b)) = false) →
 ((isLay (layout l b)) ∧
 (((endV (layout l b)) = (endPl l b)) ∧
 ((true = (layOk l b)) ∧
 ((@Eq (List (List Int)) (Layout.places (layout l b)) (Layout.places (layout l b))) ∧
 True))))))) := by kernel_rfl
theorem det_impl_PlaceSections : C_impl_PlaceSections.det = true → ∀ x, (C_impl_PlaceSections.out x).Det := fun _ x => by simp only [C_impl_PlaceSections]; repeat (first | exact Det.ret _ | exact Det.vc' | apply Det.req)
set_option maxRecDepth 200000 in
set_option maxHeartbeats 4000000 in
theorem ok_impl_PlaceSections : ConOK Try.prog 23 C_impl_PlaceSections := by
  refine con_mk (wr := false) (ty := tyL tys_) (l := L_impl_PlaceSections) ⟨⟨ok_impl_layoutOf, det_impl_layoutOf⟩, ⟨⟨ok_impl_layout_end, det_impl_layout_end⟩, trivial⟩⟩ Try.checked.mixed (fn := Try.f23) (body := Try.f23.body.getD .skip) Try.func23 rfl (by decide) (by kernel_rfl) rfl an_impl_PlaceSections fun x ho hx => ?_
  obtain ⟨l, b, ⟨⟩⟩ := x
  refine Keeps.of (vc_impl_PlaceSections l b) ?_
  revert l b ho hx
  show ∀ (l : List (Objt)) (b : Int), _
  intro l b ho hx
  dsimp only [C_impl_PlaceSections, okPTL, okPT, Ok, Ty.cells, SN.cells, OkL, OkC, okI, ci, cb, cs, cl] at ho
  dsimp only [C_impl_PlaceSections, vc, v1, decB, SR.pre] at hx
  have hn := @layout_no l b
  have he := @endV_lay l b
  have hi : layOk l b = true → isLay (layout l b) := fun h => ⟨l, b, h, rfl⟩
  have e1 := @endPl_yes l b
  have e2 := @endPl_no l b
  (try delta i64 LN); simp only [VBt]; (repeat' first | intro _ | apply And.intro); all_goals (try omega)
  all_goals (try grind)
def C_impl_KindEnds : Con := { ps := [.ro (.list (.st .obj)), .ro .i], out := fun x => let l : List (Objt) := x.1; let b : Int := x.2.1; newL (.list .i) (layout l b).ends, det := true }
abbrev L_impl_KindEnds : List (Nat × Con) := [(71, C_impl_layoutOf)]
def G_impl_KindEnds : Cfg := mkG (tyL tys_) L_impl_KindEnds false
def an_impl_KindEnds : PTL C_impl_KindEnds.ps → Nat → Option Ann := fun _ _ => none
set_option maxRecDepth 200000 in
theorem vc_impl_KindEnds (l : List (Objt)) (b : Int) : (keeps Try.prog G_impl_KindEnds (an_impl_KindEnds (l, b, ())) (Try.f28.body.getD .skip) Try.f28.results.toList C_impl_KindEnds (l, b, ())) = (((@Eq (List (List Int)) (Layout.ends (layout l b)) (Layout.ends (layout l b))) ∧
 True)) := by kernel_rfl
theorem det_impl_KindEnds : C_impl_KindEnds.det = true → ∀ x, (C_impl_KindEnds.out x).Det := fun _ x => by simp only [C_impl_KindEnds]; repeat (first | exact Det.ret _ | exact Det.vc' | apply Det.req)
set_option maxRecDepth 200000 in
set_option maxHeartbeats 4000000 in
theorem ok_impl_KindEnds : ConOK Try.prog 28 C_impl_KindEnds := by
  refine con_mk (wr := false) (ty := tyL tys_) (l := L_impl_KindEnds) ⟨⟨ok_impl_layoutOf, det_impl_layoutOf⟩, trivial⟩ Try.checked.mixed (fn := Try.f28) (body := Try.f28.body.getD .skip) Try.func28 rfl (by decide) (by kernel_rfl) rfl an_impl_KindEnds fun x ho hx => ?_
  obtain ⟨l, b, ⟨⟩⟩ := x
  refine Keeps.of (vc_impl_KindEnds l b) ?_
  revert l b ho hx
  show ∀ (l : List (Objt)) (b : Int), _
  intro l b ho hx
  dsimp only [C_impl_KindEnds, okPTL, okPT, Ok, Ty.cells, SN.cells, OkL, OkC, okI, ci, cb, cs, cl] at ho
  dsimp only [C_impl_KindEnds, vc, v1, decB, SR.pre] at hx
  have hy := @layout_yes l b
  have hn := @layout_no l b
  (try delta i64 LN); simp only [VBt]; (repeat' first | intro _ | apply And.intro); all_goals (try omega)
  all_goals (try grind)
def C_spec_PlaceSections : Con := { ps := [.ro (.list (.st .obj)), .ro .i], out := fun x => let l : List (Objt) := x.1; let b : Int := x.2.1; .req (l.length + sumI szOb l ≤ 1048576) (newPl (layout l b).places (endPl l b) (layOk l b)), det := true }
abbrev L_spec_PlaceSections : List (Nat × Con) := [(73, C_spec_l1OwnObjectList), (74, C_spec_ObjectsValid), (75, C_spec_l1In), (76, C_spec_AlignUp), (77, C_spec_SectionSize)]
def G_spec_PlaceSections : Cfg := mkG (tyL tys_) L_spec_PlaceSections false
def an_spec_PlaceSections : PTL C_spec_PlaceSections.ps → Nat → Option Ann := fun x kk_ => let l : List (Objt) := x.1; let b : Int := x.2.1; if kk_ = 6 then some (.all (Int) fun k => .giv (layOk l b = true ∧ l.length ≤ 4 ∧ 0 ≤ k ∧ k ≤ l.length) (.mk [(8, ai k), (0, al (.st .obj) l), (7, asl 32), (1, ai b)] [(32, .row (some 47) (.list .i) ((l.take k.toNat).map fun o => List.replicate o.sects.length (0 : Int)) true)] ((l.length - k.toNat)))) else if kk_ = 11 then some (.all (Int) fun c => .giv (layOk l b = true ∧ 1 ≤ c ∧ c ≤ 4) (.mk [(10, ai c), (0, al (.st .obj) l), (7, asl 32), (9, ai (atK l b (c - 1).toNat))] [(32, .row none (.list .i) (plN l b c 0 0) true)] ((4 - c).toNat))) else if kk_ = 2015 then some (.all (Int) fun c => .all (Int) fun k => .giv (layOk l b = true ∧ l.length ≤ 4 ∧ 1 ≤ c ∧ c ≤ 3 ∧ 0 ≤ k ∧ k ≤ l.length) (.mk [(10, ai c), (11, ai k), (0, al (.st .obj) l), (7, asl 32), (9, ai (curO l b c k))] [(32, .row none (.list .i) (plN l b c k 0) true)] ((4 - c).toNat * 1000000 + (l.length - k.toNat) * 1000))) else if kk_ = 2018 then some (.all (Int) fun c => .all (Int) fun k => .all (Int) fun i => .giv (layOk l b = true ∧ l.length ≤ 4 ∧ (sectsAt l k).length ≤ 8 ∧ 1 ≤ c ∧ c ≤ 3 ∧ 0 ≤ k ∧ k < l.length ∧ 0 ≤ i ∧ i ≤ (sectsAt l k).length) (.mk [(10, ai c), (11, ai k), (12, ai i), (0, al (.st .obj) l), (7, asl 32), (9, ai (curAt l b c k i))] [(32, .row none (.list .i) (plN l b c k i) true)] ((4 - c).toNat * 1000000 + (l.length - k.toNat) * 1000 + (100 - i).toNat))) else none
set_option maxRecDepth 200000 in
theorem vc_spec_PlaceSections (l : List (Objt)) (b : Int) : (keeps Try.prog G_spec_PlaceSections (an_spec_PlaceSections (l, b, ())) (Try.f24.body.getD .skip) Try.f24.results.toList C_spec_PlaceSections (l, b, ())) = (((((LN l) + (@sumI Objt szOb l)) ≤ 1048576) ∧
 ((((Bool.not (objsB l)) = true) →
 ((0 = (endPl l b)) ∧
 ((false = (layOk l b)) ∧
 ((@Eq (List (List Int)) ([] : List (List Int)) (Layout.places (layout l b))) ∧
 True)))) ∧
 (((Bool.not (objsB l)) = false) →
 ((((Bool.not (decide ((0 ≤ b) ∧
 (b ≤ 4096)))) = true) →
 ((0 = (endPl l b)) ∧
 ((false = (layOk l b)) ∧
 ((@Eq (List (List Int)) ([] : List (List Int)) (Layout.places (layout l b))) ∧
 True)))) ∧
 (((Bool.not (decide ((0 ≤ b) ∧
 (b ≤ 4096)))) = false) →
 (((0 ≤ b) ∧
 ((0 : Int) < (8 : Int))) ∧
 ((((decide ((b % 8) ≠ 0)) = true) →
 ((0 = (endPl l b)) ∧
 ((false = (layOk l b)) ∧
 ((@Eq (List (List Int)) ([] : List (List Int)) (Layout.places (layout l b))) ∧
 True)))) ∧
 (((decide ((b % 8) ≠ 0)) = false) →
 ((∃ (x_1 : Int), ((0 = x_1) ∧
 ((@Eq (List Objt) l l) ∧
 ((b = b) ∧
 ((@Eq (List (List Int)) ([] : List (List Int)) (@List.map Objt (List Int) (fun (o_2 : Objt) => (@List.replicate Int (List.length (Objt.sects o_2)) (0 : Int))) (List.take (Int.toNat x_1) l))) ∧
 ((((layOk l b) = true) ∧
 (((List.length l) ≤ 4) ∧
 ((0 ≤ x_1) ∧
 (x_1 ≤ (LN l))))) ∧
 True)))))) ∧
 (∀ (x_3 : Int), ((((layOk l b) = true) ∧
 (((List.length l) ≤ 4) ∧
 ((0 ≤ x_3) ∧
 (x_3 ≤ (LN l))))) →
 (((List.length l) ≤ 9223372036854775807) →
 ((((decide (x_3 < (LN l))) = true) →
 (((0 ≤ x_3) ∧
 (x_3 < (LN l))) ∧
 (∀ (x_4 : Objt), ((@Eq (Option Objt) (l)[(Int.toNat x_3)]? (some x_4)) →
 ((Ok (Ty.st SN.obj) x_4) →
 (((List.length (Objt.sects x_4)) ≤ 9223372036854775807) →
 ((((LN (Objt.sects x_4)) = (LN (Objt.sects x_4))) ∧
 ((0 ≤ (LN (Objt.sects x_4))) ∧
 (((LN (Objt.sects x_4)) ≤ 1000000000000) ∧
 (((@Nat.cast Int _ (8 : Nat)) * (LN (Objt.sects x_4))) ≤ 140737488355328)))) ∧
 ((((((List.length (@List.map Objt (List Int) (fun (o_5 : Objt) => (@List.replicate Int (List.length (Objt.sects o_5)) (0 : Int))) (List.take (Int.toNat x_3) l))) + (List.length [(@repl Int (LN (Objt.sects x_4)) (0 : Int))])) * 24) ≤ 140737488355328) ∧
 (((List.length (@List.map Objt (List Int) (fun (o_6 : Objt) => (@List.replicate Int (List.length (Objt.sects o_6)) (0 : Int))) (List.take (Int.toNat x_3) l))) + (List.length [(@repl Int (LN (Objt.sects x_4)) (0 : Int))])) ≤ 1000000000000)) ∧
 ((i64 (x_3 + (1 : Int))) ∧
 (∃ (x_7 : Int), (((x_3 + (1 : Int)) = x_7) ∧
 ((@Eq (List Objt) l l) ∧
 ((b = b) ∧
 ((@Eq (List (List Int)) ((@List.map Objt (List Int) (fun (o_8 : Objt) => (@List.replicate Int (List.length (Objt.sects o_8)) (0 : Int))) (List.take (Int.toNat x_3) l)) ++ [(@repl Int (LN (Objt.sects x_4)) (0 : Int))]) (@List.map Objt (List Int) (fun (o_9 : Objt) => (@List.replicate Int (List.length (Objt.sects o_9)) (0 : Int))) (List.take (Int.toNat x_7) l))) ∧
 ((((layOk l b) = true) ∧
 (((List.length l) ≤ 4) ∧
 ((0 ≤ x_7) ∧
 (x_7 ≤ (LN l))))) ∧
 (((List.length l) - (Int.toNat x_7)) < ((List.length l) - (Int.toNat x_3)))))))))))))))))) ∧
 (((decide (x_3 < (LN l))) = false) →
 ((∃ (x_10 : Int), ((1 = x_10) ∧
 ((@Eq (List Objt) l l) ∧
 ((b = (atK l b (Int.toNat (x_10 - (1 : Int))))) ∧
 ((@Eq (List (List Int)) (@List.map Objt (List Int) (fun (o_11 : Objt) => (@List.replicate Int (List.length (Objt.sects o_11)) (0 : Int))) (List.take (Int.toNat x_3) l)) (plN l b x_10 (0 : Int) (0 : Int))) ∧
 ((((layOk l b) = true) ∧
 ((1 ≤ x_10) ∧
 (x_10 ≤ (4 : Int)))) ∧
 True)))))) ∧
 (∀ (x_12 : Int), ((((layOk l b) = true) ∧
 ((1 ≤ x_12) ∧
 (x_12 ≤ (4 : Int)))) →
 ((((decide (x_12 ≤ (3 : Int))) = true) →
 (∃ (x_13 : Int), (∃ (x_14 : Int), ((x_12 = x_13) ∧
 ((0 = x_14) ∧
 ((@Eq (List Objt) l l) ∧
 (((alignUp (atK l b (Int.toNat (x_12 - (1 : Int)))) (8 : Int)) = (curO l b x_13 x_14)) ∧
 ((@Eq (List (List Int)) (plN l b x_12 (0 : Int) (0 : Int)) (plN l b x_13 x_14 (0 : Int))) ∧
 ((((layOk l b) = true) ∧
 (((List.length l) ≤ 4) ∧
 ((1 ≤ x_13) ∧
 ((x_13 ≤ (3 : Int)) ∧
 ((0 ≤ x_14) ∧
 (x_14 ≤ (LN l))))))) ∧
 (∀ (x_15 : Int), (∀ (x_16 : Int), ((((layOk l b) = true) ∧
 (((List.length l) ≤ 4) ∧
 ((1 ≤ x_15) ∧
 ((x_15 ≤ (3 : Int)) ∧
 ((0 ≤ x_16) ∧
 (x_16 ≤ (LN l))))))) →
 (((((Int.toNat (4 - x_15)) * 1000000) + (((List.length l) - (Int.toNat x_16)) * 1000)) ≤ (((Int.toNat (4 - x_13)) * 1000000) + (((List.length l) - (Int.toNat x_14)) * 1000))) →
 (((List.length l) ≤ 9223372036854775807) →
 ((((decide (x_16 < (LN l))) = true) →
 (∃ (x_17 : Int), (∃ (x_18 : Int), (∃ (x_19 : Int), ((x_15 = x_17) ∧
 ((x_16 = x_18) ∧
 ((0 = x_19) ∧
 ((@Eq (List Objt) l l) ∧
 (((curO l b x_15 x_16) = (curAt l b x_17 x_18 x_19)) ∧
 ((@Eq (List (List Int)) (plN l b x_15 x_16 (0 : Int)) (plN l b x_17 x_18 x_19)) ∧
 ((((layOk l b) = true) ∧
 (((List.length l) ≤ 4) ∧
 (((List.length (sectsAt l x_18)) ≤ 8) ∧
 ((1 ≤ x_17) ∧
 ((x_17 ≤ (3 : Int)) ∧
 ((0 ≤ x_18) ∧
 ((x_18 < (LN l)) ∧
 ((0 ≤ x_19) ∧
 (x_19 ≤ (LN (sectsAt l x_18))))))))))) ∧
 (∀ (x_20 : Int), (∀ (x_21 : Int), (∀ (x_22 : Int), ((((layOk l b) = true) ∧
 (((List.length l) ≤ 4) ∧
 (((List.length (sectsAt l x_21)) ≤ 8) ∧
 ((1 ≤ x_20) ∧
 ((x_20 ≤ (3 : Int)) ∧
 ((0 ≤ x_21) ∧
 ((x_21 < (LN l)) ∧
 ((0 ≤ x_22) ∧
 (x_22 ≤ (LN (sectsAt l x_21))))))))))) →
 ((((((Int.toNat (4 - x_20)) * 1000000) + (((List.length l) - (Int.toNat x_21)) * 1000)) + (Int.toNat (100 - x_22))) ≤ ((((Int.toNat (4 - x_17)) * 1000000) + (((List.length l) - (Int.toNat x_18)) * 1000)) + (Int.toNat (100 - x_19)))) →
 (((0 ≤ x_21) ∧
 (x_21 < (LN l))) ∧
 (∀ (x_23 : Objt), ((@Eq (Option Objt) (l)[(Int.toNat x_21)]? (some x_23)) →
 ((Ok (Ty.st SN.obj) x_23) →
 (((List.length (Objt.sects x_23)) ≤ 9223372036854775807) →
 ((((decide (x_22 < (LN (Objt.sects x_23)))) = true) →
 (((0 ≤ x_21) ∧
 (x_21 < (LN l))) ∧
 (∀ (x_24 : Objt), ((@Eq (Option Objt) (l)[(Int.toNat x_21)]? (some x_24)) →
 ((Ok (Ty.st SN.obj) x_24) →
 (((0 ≤ x_22) ∧
 (x_22 < (LN (Objt.sects x_24)))) ∧
 (∀ (x_25 : Sect), ((@Eq (Option Sect) ((Objt.sects x_24))[(Int.toNat x_22)]? (some x_25)) →
 ((Ok (Ty.st SN.sect) x_25) →
 ((((decide ((Sect.kind x_25) ≠ x_20)) = true) →
 ((i64 (x_22 + (1 : Int))) ∧
 (∃ (x_26 : Int), (∃ (x_27 : Int), (∃ (x_28 : Int), ((x_20 = x_26) ∧
 ((x_21 = x_27) ∧
 (((x_22 + (1 : Int)) = x_28) ∧
 ((@Eq (List Objt) l l) ∧
 (((curAt l b x_20 x_21 x_22) = (curAt l b x_26 x_27 x_28)) ∧
 ((@Eq (List (List Int)) (plN l b x_20 x_21 x_22) (plN l b x_26 x_27 x_28)) ∧
 ((((layOk l b) = true) ∧
 (((List.length l) ≤ 4) ∧
 (((List.length (sectsAt l x_27)) ≤ 8) ∧
 ((1 ≤ x_26) ∧
 ((x_26 ≤ (3 : Int)) ∧
 ((0 ≤ x_27) ∧
 ((x_27 < (LN l)) ∧
 ((0 ≤ x_28) ∧
 (x_28 ≤ (LN (sectsAt l x_27))))))))))) ∧
 (((((Int.toNat (4 - x_26)) * 1000000) + (((List.length l) - (Int.toNat x_27)) * 1000)) + (Int.toNat (100 - x_28))) < ((((Int.toNat (4 - x_20)) * 1000000) + (((List.length l) - (Int.toNat x_21)) * 1000)) + (Int.toNat (100 - x_22)))))))))))))))) ∧
 (((decide ((Sect.kind x_25) ≠ x_20)) = false) →
 (((0 ≤ x_21) ∧
 (x_21 < (LN (plN l b x_20 x_21 x_22)))) ∧
 (∀ (x_29 : (List Int)), ((@Eq (Option (List Int)) ((plN l b x_20 x_21 x_22))[(Int.toNat x_21)]? (some x_29)) →
 ((Ok (Ty.list (Ty.int IntKind.i64)) x_29) →
 (∀ (x_30 : (List Int)), ((@Eq (Option (List Int)) ((plN l b x_20 x_21 x_22))[(Int.toNat x_21)]? (some x_30)) →
 (((0 ≤ x_22) ∧
 (x_22 < (LN x_30))) ∧
 (∀ (x_31 : (List Int)), ((@Eq (Option (List Int)) ((plN l b x_20 x_21 x_22))[(Int.toNat x_21)]? (some x_31)) →
 (∀ (x_32 : Int), ((@Eq (Option Int) (x_31)[(Int.toNat x_22)]? (some x_32)) →
 ((i64 ((alignUp (curAt l b x_20 x_21 x_22) (Sect.align x_25)) + (secSize x_25))) ∧
 ((i64 (x_22 + (1 : Int))) ∧
 (∃ (x_33 : Int), (∃ (x_34 : Int), (∃ (x_35 : Int), ((x_20 = x_33) ∧
 ((x_21 = x_34) ∧
 (((x_22 + (1 : Int)) = x_35) ∧
 ((@Eq (List Objt) l l) ∧
 ((((alignUp (curAt l b x_20 x_21 x_22) (Sect.align x_25)) + (secSize x_25)) = (curAt l b x_33 x_34 x_35)) ∧
 ((@Eq (List (List Int)) (List.set (plN l b x_20 x_21 x_22) (Int.toNat x_21) (List.set x_31 (Int.toNat x_22) (alignUp (curAt l b x_20 x_21 x_22) (Sect.align x_25)))) (plN l b x_33 x_34 x_35)) ∧
 ((((layOk l b) = true) ∧
 (((List.length l) ≤ 4) ∧
 (((List.length (sectsAt l x_34)) ≤ 8) ∧
 ((1 ≤ x_33) ∧
 ((x_33 ≤ (3 : Int)) ∧
 ((0 ≤ x_34) ∧
 ((x_34 < (LN l)) ∧
 ((0 ≤ x_35) ∧
 (x_35 ≤ (LN (sectsAt l x_34))))))))))) ∧
 (((((Int.toNat (4 - x_33)) * 1000000) + (((List.length l) - (Int.toNat x_34)) * 1000)) + (Int.toNat (100 - x_35))) < ((((Int.toNat (4 - x_20)) * 1000000) + (((List.length l) - (Int.toNat x_21)) * 1000)) + (Int.toNat (100 - x_22)))))))))))))))))))))))))))))))))))))) ∧
 (((decide (x_22 < (LN (Objt.sects x_23)))) = false) →
 ((i64 (x_21 + (1 : Int))) ∧
 (∃ (x_36 : Int), (∃ (x_37 : Int), ((x_20 = x_36) ∧
 (((x_21 + (1 : Int)) = x_37) ∧
 ((@Eq (List Objt) l l) ∧
 (((curAt l b x_20 x_21 x_22) = (curO l b x_36 x_37)) ∧
 ((@Eq (List (List Int)) (plN l b x_20 x_21 x_22) (plN l b x_36 x_37 (0 : Int))) ∧
 ((((layOk l b) = true) ∧
 (((List.length l) ≤ 4) ∧
 ((1 ≤ x_36) ∧
 ((x_36 ≤ (3 : Int)) ∧
 ((0 ≤ x_37) ∧
 (x_37 ≤ (LN l))))))) ∧
 ((((Int.toNat (4 - x_36)) * 1000000) + (((List.length l) - (Int.toNat x_37)) * 1000)) < (((Int.toNat (4 - x_15)) * 1000000) + (((List.length l) - (Int.toNat x_16)) * 1000))))))))))))))))))))))))))))))))))) ∧
 (((decide (x_16 < (LN l))) = false) →
 ((i64 (x_15 + (1 : Int))) ∧
 (∃ (x_38 : Int), (((x_15 + (1 : Int)) = x_38) ∧
 ((@Eq (List Objt) l l) ∧
 (((curO l b x_15 x_16) = (atK l b (Int.toNat (x_38 - (1 : Int))))) ∧
 ((@Eq (List (List Int)) (plN l b x_15 x_16 (0 : Int)) (plN l b x_38 (0 : Int) (0 : Int))) ∧
 ((((layOk l b) = true) ∧
 ((1 ≤ x_38) ∧
 (x_38 ≤ (4 : Int)))) ∧
 ((Int.toNat (4 - x_38)) < (Int.toNat (4 - x_12)))))))))))))))))))))))))) ∧
 (((decide (x_12 ≤ (3 : Int))) = false) →
 (((atK l b (Int.toNat (x_12 - (1 : Int)))) = (endPl l b)) ∧
 ((true = (layOk l b)) ∧
 ((@Eq (List (List Int)) (plN l b x_12 (0 : Int) (0 : Int)) (Layout.places (layout l b))) ∧
 True))))))))))))))))))))))) := by kernel_rfl
theorem det_spec_PlaceSections : C_spec_PlaceSections.det = true → ∀ x, (C_spec_PlaceSections.out x).Det := fun _ x => by simp only [C_spec_PlaceSections]; repeat (first | exact Det.ret _ | exact Det.vc' | apply Det.req)
set_option maxRecDepth 200000 in
set_option maxHeartbeats 4000000 in
theorem ok_spec_PlaceSections : ConOK Try.prog 24 C_spec_PlaceSections := by
  refine con_mk (wr := false) (ty := tyL tys_) (l := L_spec_PlaceSections) ⟨⟨ok_spec_l1OwnObjectList, det_spec_l1OwnObjectList⟩, ⟨⟨ok_spec_ObjectsValid, det_spec_ObjectsValid⟩, ⟨⟨ok_spec_l1In, det_spec_l1In⟩, ⟨⟨ok_spec_AlignUp, det_spec_AlignUp⟩, ⟨⟨ok_spec_SectionSize, det_spec_SectionSize⟩, trivial⟩⟩⟩⟩⟩ Try.checked.mixed (fn := Try.f24) (body := Try.f24.body.getD .skip) Try.func24 rfl (by decide) (by kernel_rfl) rfl an_spec_PlaceSections fun x ho hx => ?_
  obtain ⟨l, b, ⟨⟩⟩ := x
  refine Keeps.of (vc_spec_PlaceSections l b) ?_
  revert l b ho hx
  show ∀ (l : List (Objt)) (b : Int), _
  intro l b ho hx
  dsimp only [C_spec_PlaceSections, okPTL, okPT, Ok, Ty.cells, SN.cells, OkL, OkC, okI, ci, cb, cs, cl] at ho
  dsimp only [C_spec_PlaceSections, vc, v1, decB, SR.pre] at hx
  (try delta i64 LN); simp +contextual only [VBt]; (repeat' first | intro _ | apply And.intro); all_goals (try omega)
  all_goals (try have hsG := sectsAt_get (by assumption) (by assumption)); all_goals (try have hsL := sectsAt_lt (by assumption) (by assumption)); all_goals (try have hsE := sectsAt_ge (by assumption) (by assumption)); all_goals first | omega | rfl | exact plN_first (by assumption) (by assumption) | exact at_nn (by assumption) (by assumption) (by assumption) | exact at_le (by assumption) (by assumption) (by assumption) | exact curAt_nn (by assumption) (by assumption) (by assumption) | exact curAt_le (by assumption) (by assumption) (by assumption) | exact align_ge (by assumption) (by assumption) | exact align_le (by assumption) (by assumption) | exact go_lo (by assumption) (by assumption) (by assumption) (by assumption) | exact go_hi (by assumption) (by assumption) (by assumption) (by assumption) | exact plN_lt (by assumption) | exact plN_rlt (by assumption) (by assumption) | exact plN_set (by assumption) (by assumption) (by assumption) (by assumption) (by assumption) (by assumption) | exact (curAt_hit (by assumption) (by assumption) (by assumption)).symm | exact (curAt_miss (by assumption) (by assumption) (by assumption)).symm | exact plN_skip (by assumption) (by assumption) (by assumption) (by assumption) (by assumption) | exact curAt_end (by assumption) (by assumption) (by assumption) | exact plN_obj (by assumption) (by assumption) (by assumption) | exact endsK_cur (by assumption) (by assumption) | exact curO_atK (by assumption) (by assumption) | exact plN_kind (by assumption) | exact plN_lay (by assumption) (by assumption) | exact ends_lay (by assumption) (by assumption) (by assumption) | exact at_lay (by assumption) (by assumption) (by assumption) | exact sects8 (by assumption) | exact lay4 (by assumption) | exact up_beg (by assumption) (by assumption) (by assumption) | exact up_lo (by assumption) (by assumption) (by assumption) (by assumption) | exact up_hi (by assumption) (by assumption) (by assumption) (by assumption) | exact up_hit (by assumption) (by assumption) (by assumption) (by assumption) (by assumption) (by assumption) | exact up_set (by assumption) (by assumption) (by assumption) (by assumption) (by assumption) (by assumption) (by assumption) (by assumption) (by assumption) | exact pl_hit (by assumption) (by assumption) (by assumption) (by assumption) (by assumption) (by assumption) (by assumption) | exact places_lt (by assumption) | exact places_rlt (by assumption) (by assumption) | exact repl_next (by assumption) (by assumption) | exact layOk_yes (by assumption) (by assumption) | exact (layOk_no1 (by assumption)).symm | exact (layOk_no2 (by assumption)).symm | (rw [lay_no1 (by assumption)]) | (rw [lay_no2 (by assumption)]) | (have := sects_len8 (by assumption) (by assumption); omega) | (have := pl_bd (by assumption) (by assumption) (by assumption) (by assumption) (by assumption) (by assumption) (by assumption); omega) | (rw [← sectsAt_eq (by assumption)])| exact curO_end (by assumption) (by assumption) | exact endsK_cur2 (by assumption) (by assumption) | (rw [endsK_len]; omega) | (simp only [List.length_map, List.length_take]; omega) | exact Eq.symm (by assumption) | exact (endPl_no (layOk_no1 (by assumption))).symm | exact (endPl_no (layOk_no3 (by assumption))).symm | exact (endPl_no (layOk_no4 (by assumption))).symm | exact (layOk_no3 (by assumption)).symm | exact (layOk_no4 (by assumption)).symm | (rw [layout_no (layOk_no3 (by assumption))]) | (rw [layout_no (layOk_no4 (by assumption))]) | exact layOk_yes2 (by assumption) (by assumption) (by assumption) (by assumption) | exact sectsAt_lt (by assumption) (by assumption) | exact sectsAt_ge (by assumption) (by assumption) | (rw [layout_no (by assumption)]) | (rw [layout_yes (by assumption)]) | (have := lmap_len (by assumption); omega) | (have := lmap_len (l := l) (k := _) (by assumption); omega) | exact (objsB_all (by assumption)).2 | exact up_hit (by assumption) (by assumption) (by assumption) (by assumption) (by assumption) (by omega) | exact up_set (by assumption) (by assumption) (by assumption) (by assumption) (by assumption) (by assumption) (by assumption) (by omega) (by assumption) | skip
def C_spec_KindEnds : Con := { ps := [.ro (.list (.st .obj)), .ro .i], out := fun x => let l : List (Objt) := x.1; let b : Int := x.2.1; .req (l.length + sumI szOb l ≤ 1048576) (newL (.list .i) (layout l b).ends), det := true }
abbrev L_spec_KindEnds : List (Nat × Con) := [(73, C_spec_l1OwnObjectList), (24, C_spec_PlaceSections), (76, C_spec_AlignUp), (77, C_spec_SectionSize)]
def G_spec_KindEnds : Cfg := mkG (tyL tys_) L_spec_KindEnds false
def an_spec_KindEnds : PTL C_spec_KindEnds.ps → Nat → Option Ann := fun x kk_ => let l : List (Objt) := x.1; let b : Int := x.2.1; if kk_ = 8 then some (.all (Int) fun c => .giv (layOk l b = true ∧ 1 ≤ c ∧ c ≤ 4) (.mk [(10, ai c), (0, al (.st .obj) l), (6, al (.list .i) (places l b)), (5, asl 33), (9, ai (atK l b (c - 1).toNat))] [(33, .row (some 47) (.list .i) (endsK l b (c - 1).toNat) true)] ((4 - c).toNat))) else if kk_ = 2013 then some (.all (Int) fun c => .all (Int) fun k => .giv (layOk l b = true ∧ l.length ≤ 4 ∧ 1 ≤ c ∧ c ≤ 3 ∧ 0 ≤ k ∧ k ≤ l.length) (.mk [(10, ai c), (12, ai k), (0, al (.st .obj) l), (6, al (.list .i) (places l b)), (5, asl 33), (11, ai (begK l b c)), (9, ai (curO l b c k))] [(33, .row (some 47) (.list .i) (endsK l b (c - 1).toNat) true)] ((4 - c).toNat * 1000000 + (l.length - k.toNat) * 1000))) else if kk_ = 2016 then some (.all (Int) fun c => .all (Int) fun k => .all (Int) fun i => .giv (layOk l b = true ∧ l.length ≤ 4 ∧ (sectsAt l k).length ≤ 8 ∧ 1 ≤ c ∧ c ≤ 3 ∧ 0 ≤ k ∧ k < l.length ∧ 0 ≤ i ∧ i ≤ (sectsAt l k).length) (.mk [(10, ai c), (12, ai k), (13, ai i), (0, al (.st .obj) l), (6, al (.list .i) (places l b)), (5, asl 33), (11, ai (begK l b c)), (9, ai (curAt l b c k i))] [(33, .row (some 47) (.list .i) (endsK l b (c - 1).toNat) true)] ((4 - c).toNat * 1000000 + (l.length - k.toNat) * 1000 + (100 - i).toNat))) else none
set_option maxRecDepth 200000 in
theorem vc_spec_KindEnds (l : List (Objt)) (b : Int) : (keeps Try.prog G_spec_KindEnds (an_spec_KindEnds (l, b, ())) (Try.f29.body.getD .skip) Try.f29.results.toList C_spec_KindEnds (l, b, ())) = (((((LN l) + (@sumI Objt szOb l)) ≤ 1048576) ∧
 ((((LN l) + (@sumI Objt szOb l)) ≤ 1048576) ∧
 ((((Bool.not (layOk l b)) = true) →
 ((@Eq (List (List Int)) ([] : List (List Int)) (Layout.ends (layout l b))) ∧
 True)) ∧
 (((Bool.not (layOk l b)) = false) →
 ((∃ (x_1 : Int), ((1 = x_1) ∧
 ((@Eq (List Objt) l l) ∧
 ((@Eq (List (List Int)) (Layout.places (layout l b)) (places l b)) ∧
 ((b = (atK l b (Int.toNat (x_1 - (1 : Int))))) ∧
 ((@Eq (List (List Int)) ([] : List (List Int)) (endsK l b (Int.toNat (x_1 - (1 : Int))))) ∧
 ((((layOk l b) = true) ∧
 ((1 ≤ x_1) ∧
 (x_1 ≤ (4 : Int)))) ∧
 True))))))) ∧
 (∀ (x_2 : Int), ((((layOk l b) = true) ∧
 ((1 ≤ x_2) ∧
 (x_2 ≤ (4 : Int)))) →
 ((((decide (x_2 ≤ (3 : Int))) = true) →
 (∃ (x_3 : Int), (∃ (x_4 : Int), ((x_2 = x_3) ∧
 ((0 = x_4) ∧
 ((@Eq (List Objt) l l) ∧
 ((@Eq (List (List Int)) (places l b) (places l b)) ∧
 (((alignUp (atK l b (Int.toNat (x_2 - (1 : Int)))) (8 : Int)) = (begK l b x_3)) ∧
 (((alignUp (atK l b (Int.toNat (x_2 - (1 : Int)))) (8 : Int)) = (curO l b x_3 x_4)) ∧
 ((@Eq (List (List Int)) (endsK l b (Int.toNat (x_2 - (1 : Int)))) (endsK l b (Int.toNat (x_3 - (1 : Int))))) ∧
 ((((layOk l b) = true) ∧
 (((List.length l) ≤ 4) ∧
 ((1 ≤ x_3) ∧
 ((x_3 ≤ (3 : Int)) ∧
 ((0 ≤ x_4) ∧
 (x_4 ≤ (LN l))))))) ∧
 (∀ (x_5 : Int), (∀ (x_6 : Int), ((((layOk l b) = true) ∧
 (((List.length l) ≤ 4) ∧
 ((1 ≤ x_5) ∧
 ((x_5 ≤ (3 : Int)) ∧
 ((0 ≤ x_6) ∧
 (x_6 ≤ (LN l))))))) →
 (((((Int.toNat (4 - x_5)) * 1000000) + (((List.length l) - (Int.toNat x_6)) * 1000)) ≤ (((Int.toNat (4 - x_3)) * 1000000) + (((List.length l) - (Int.toNat x_4)) * 1000))) →
 (((List.length l) ≤ 9223372036854775807) →
 ((((decide (x_6 < (LN l))) = true) →
 (∃ (x_7 : Int), (∃ (x_8 : Int), (∃ (x_9 : Int), ((x_5 = x_7) ∧
 ((x_6 = x_8) ∧
 ((0 = x_9) ∧
 ((@Eq (List Objt) l l) ∧
 ((@Eq (List (List Int)) (places l b) (places l b)) ∧
 (((begK l b x_5) = (begK l b x_7)) ∧
 (((curO l b x_5 x_6) = (curAt l b x_7 x_8 x_9)) ∧
 ((@Eq (List (List Int)) (endsK l b (Int.toNat (x_5 - (1 : Int)))) (endsK l b (Int.toNat (x_7 - (1 : Int))))) ∧
 ((((layOk l b) = true) ∧
 (((List.length l) ≤ 4) ∧
 (((List.length (sectsAt l x_8)) ≤ 8) ∧
 ((1 ≤ x_7) ∧
 ((x_7 ≤ (3 : Int)) ∧
 ((0 ≤ x_8) ∧
 ((x_8 < (LN l)) ∧
 ((0 ≤ x_9) ∧
 (x_9 ≤ (LN (sectsAt l x_8))))))))))) ∧
 (∀ (x_10 : Int), (∀ (x_11 : Int), (∀ (x_12 : Int), ((((layOk l b) = true) ∧
 (((List.length l) ≤ 4) ∧
 (((List.length (sectsAt l x_11)) ≤ 8) ∧
 ((1 ≤ x_10) ∧
 ((x_10 ≤ (3 : Int)) ∧
 ((0 ≤ x_11) ∧
 ((x_11 < (LN l)) ∧
 ((0 ≤ x_12) ∧
 (x_12 ≤ (LN (sectsAt l x_11))))))))))) →
 ((((((Int.toNat (4 - x_10)) * 1000000) + (((List.length l) - (Int.toNat x_11)) * 1000)) + (Int.toNat (100 - x_12))) ≤ ((((Int.toNat (4 - x_7)) * 1000000) + (((List.length l) - (Int.toNat x_8)) * 1000)) + (Int.toNat (100 - x_9)))) →
 (((0 ≤ x_11) ∧
 (x_11 < (LN l))) ∧
 (∀ (x_13 : Objt), ((@Eq (Option Objt) (l)[(Int.toNat x_11)]? (some x_13)) →
 ((Ok (Ty.st SN.obj) x_13) →
 (((List.length (Objt.sects x_13)) ≤ 9223372036854775807) →
 ((((decide (x_12 < (LN (Objt.sects x_13)))) = true) →
 (((0 ≤ x_11) ∧
 (x_11 < (LN l))) ∧
 (∀ (x_14 : Objt), ((@Eq (Option Objt) (l)[(Int.toNat x_11)]? (some x_14)) →
 ((Ok (Ty.st SN.obj) x_14) →
 (((0 ≤ x_12) ∧
 (x_12 < (LN (Objt.sects x_14)))) ∧
 (∀ (x_15 : Sect), ((@Eq (Option Sect) ((Objt.sects x_14))[(Int.toNat x_12)]? (some x_15)) →
 ((Ok (Ty.st SN.sect) x_15) →
 ((((decide ((Sect.kind x_15) = x_10)) = true) →
 (((0 ≤ x_11) ∧
 (x_11 < (LN (places l b)))) ∧
 (∀ (x_16 : (List Int)), ((@Eq (Option (List Int)) ((places l b))[(Int.toNat x_11)]? (some x_16)) →
 ((Ok (Ty.list (Ty.int IntKind.i64)) x_16) →
 (((0 ≤ x_12) ∧
 (x_12 < (LN x_16))) ∧
 (∀ (x_17 : Int), ((@Eq (Option Int) (x_16)[(Int.toNat x_12)]? (some x_17)) →
 ((Ok (Ty.int IntKind.i64) x_17) →
 ((i64 (x_17 + (secSize x_15))) ∧
 ((i64 (x_12 + (1 : Int))) ∧
 (∃ (x_18 : Int), (∃ (x_19 : Int), (∃ (x_20 : Int), ((x_10 = x_18) ∧
 ((x_11 = x_19) ∧
 (((x_12 + (1 : Int)) = x_20) ∧
 ((@Eq (List Objt) l l) ∧
 ((@Eq (List (List Int)) (places l b) (places l b)) ∧
 (((begK l b x_10) = (begK l b x_18)) ∧
 (((x_17 + (secSize x_15)) = (curAt l b x_18 x_19 x_20)) ∧
 ((@Eq (List (List Int)) (endsK l b (Int.toNat (x_10 - (1 : Int)))) (endsK l b (Int.toNat (x_18 - (1 : Int))))) ∧
 ((((layOk l b) = true) ∧
 (((List.length l) ≤ 4) ∧
 (((List.length (sectsAt l x_19)) ≤ 8) ∧
 ((1 ≤ x_18) ∧
 ((x_18 ≤ (3 : Int)) ∧
 ((0 ≤ x_19) ∧
 ((x_19 < (LN l)) ∧
 ((0 ≤ x_20) ∧
 (x_20 ≤ (LN (sectsAt l x_19))))))))))) ∧
 (((((Int.toNat (4 - x_18)) * 1000000) + (((List.length l) - (Int.toNat x_19)) * 1000)) + (Int.toNat (100 - x_20))) < ((((Int.toNat (4 - x_10)) * 1000000) + (((List.length l) - (Int.toNat x_11)) * 1000)) + (Int.toNat (100 - x_12))))))))))))))))))))))))))) ∧
 (((decide ((Sect.kind x_15) = x_10)) = false) →
 ((i64 (x_12 + (1 : Int))) ∧
 (∃ (x_21 : Int), (∃ (x_22 : Int), (∃ (x_23 : Int), ((x_10 = x_21) ∧
 ((x_11 = x_22) ∧
 (((x_12 + (1 : Int)) = x_23) ∧
 ((@Eq (List Objt) l l) ∧
 ((@Eq (List (List Int)) (places l b) (places l b)) ∧
 (((begK l b x_10) = (begK l b x_21)) ∧
 (((curAt l b x_10 x_11 x_12) = (curAt l b x_21 x_22 x_23)) ∧
 ((@Eq (List (List Int)) (endsK l b (Int.toNat (x_10 - (1 : Int)))) (endsK l b (Int.toNat (x_21 - (1 : Int))))) ∧
 ((((layOk l b) = true) ∧
 (((List.length l) ≤ 4) ∧
 (((List.length (sectsAt l x_22)) ≤ 8) ∧
 ((1 ≤ x_21) ∧
 ((x_21 ≤ (3 : Int)) ∧
 ((0 ≤ x_22) ∧
 ((x_22 < (LN l)) ∧
 ((0 ≤ x_23) ∧
 (x_23 ≤ (LN (sectsAt l x_22))))))))))) ∧
 (((((Int.toNat (4 - x_21)) * 1000000) + (((List.length l) - (Int.toNat x_22)) * 1000)) + (Int.toNat (100 - x_23))) < ((((Int.toNat (4 - x_10)) * 1000000) + (((List.length l) - (Int.toNat x_11)) * 1000)) + (Int.toNat (100 - x_12)))))))))))))))))))))))))))) ∧
 (((decide (x_12 < (LN (Objt.sects x_13)))) = false) →
 ((i64 (x_11 + (1 : Int))) ∧
 (∃ (x_24 : Int), (∃ (x_25 : Int), ((x_10 = x_24) ∧
 (((x_11 + (1 : Int)) = x_25) ∧
 ((@Eq (List Objt) l l) ∧
 ((@Eq (List (List Int)) (places l b) (places l b)) ∧
 (((begK l b x_10) = (begK l b x_24)) ∧
 (((curAt l b x_10 x_11 x_12) = (curO l b x_24 x_25)) ∧
 ((@Eq (List (List Int)) (endsK l b (Int.toNat (x_10 - (1 : Int)))) (endsK l b (Int.toNat (x_24 - (1 : Int))))) ∧
 ((((layOk l b) = true) ∧
 (((List.length l) ≤ 4) ∧
 ((1 ≤ x_24) ∧
 ((x_24 ≤ (3 : Int)) ∧
 ((0 ≤ x_25) ∧
 (x_25 ≤ (LN l))))))) ∧
 ((((Int.toNat (4 - x_24)) * 1000000) + (((List.length l) - (Int.toNat x_25)) * 1000)) < (((Int.toNat (4 - x_5)) * 1000000) + (((List.length l) - (Int.toNat x_6)) * 1000))))))))))))))))))))))))))))))))))))))) ∧
 (((decide (x_6 < (LN l))) = false) →
 ((((((List.length (endsK l b (Int.toNat (x_5 - (1 : Int))))) + (List.length [[(begK l b x_5), (curO l b x_5 x_6)]])) * 24) ≤ 140737488355328) ∧
 (((List.length (endsK l b (Int.toNat (x_5 - (1 : Int))))) + (List.length [[(begK l b x_5), (curO l b x_5 x_6)]])) ≤ 1000000000000)) ∧
 ((i64 (x_5 + (1 : Int))) ∧
 (∃ (x_26 : Int), (((x_5 + (1 : Int)) = x_26) ∧
 ((@Eq (List Objt) l l) ∧
 ((@Eq (List (List Int)) (places l b) (places l b)) ∧
 (((curO l b x_5 x_6) = (atK l b (Int.toNat (x_26 - (1 : Int))))) ∧
 ((@Eq (List (List Int)) ((endsK l b (Int.toNat (x_5 - (1 : Int)))) ++ [[(begK l b x_5), (curO l b x_5 x_6)]]) (endsK l b (Int.toNat (x_26 - (1 : Int))))) ∧
 ((((layOk l b) = true) ∧
 ((1 ≤ x_26) ∧
 (x_26 ≤ (4 : Int)))) ∧
 ((Int.toNat (4 - x_26)) < (Int.toNat (4 - x_2)))))))))))))))))))))))))))))) ∧
 (((decide (x_2 ≤ (3 : Int))) = false) →
 ((@Eq (List (List Int)) (endsK l b (Int.toNat (x_2 - (1 : Int)))) (Layout.ends (layout l b))) ∧
 True))))))))))) := by kernel_rfl
theorem det_spec_KindEnds : C_spec_KindEnds.det = true → ∀ x, (C_spec_KindEnds.out x).Det := fun _ x => by simp only [C_spec_KindEnds]; repeat (first | exact Det.ret _ | exact Det.vc' | apply Det.req)
set_option maxRecDepth 200000 in
set_option maxHeartbeats 4000000 in
theorem ok_spec_KindEnds : ConOK Try.prog 29 C_spec_KindEnds := by
  refine con_mk (wr := false) (ty := tyL tys_) (l := L_spec_KindEnds) ⟨⟨ok_spec_l1OwnObjectList, det_spec_l1OwnObjectList⟩, ⟨⟨ok_spec_PlaceSections, det_spec_PlaceSections⟩, ⟨⟨ok_spec_AlignUp, det_spec_AlignUp⟩, ⟨⟨ok_spec_SectionSize, det_spec_SectionSize⟩, trivial⟩⟩⟩⟩ Try.checked.mixed (fn := Try.f29) (body := Try.f29.body.getD .skip) Try.func29 rfl (by decide) (by kernel_rfl) rfl an_spec_KindEnds fun x ho hx => ?_
  obtain ⟨l, b, ⟨⟩⟩ := x
  refine Keeps.of (vc_spec_KindEnds l b) ?_
  revert l b ho hx
  show ∀ (l : List (Objt)) (b : Int), _
  intro l b ho hx
  dsimp only [C_spec_KindEnds, okPTL, okPT, Ok, Ty.cells, SN.cells, OkL, OkC, okI, ci, cb, cs, cl] at ho
  dsimp only [C_spec_KindEnds, vc, v1, decB, SR.pre] at hx
  (try delta i64 LN); simp +contextual only [VBt]; (repeat' first | intro _ | apply And.intro); all_goals (try omega)
  all_goals (try have hsG := sectsAt_get (by assumption) (by assumption)); all_goals (try have hsL := sectsAt_lt (by assumption) (by assumption)); all_goals (try have hsE := sectsAt_ge (by assumption) (by assumption)); all_goals first | omega | rfl | exact plN_first (by assumption) (by assumption) | exact at_nn (by assumption) (by assumption) (by assumption) | exact at_le (by assumption) (by assumption) (by assumption) | exact curAt_nn (by assumption) (by assumption) (by assumption) | exact curAt_le (by assumption) (by assumption) (by assumption) | exact align_ge (by assumption) (by assumption) | exact align_le (by assumption) (by assumption) | exact go_lo (by assumption) (by assumption) (by assumption) (by assumption) | exact go_hi (by assumption) (by assumption) (by assumption) (by assumption) | exact plN_lt (by assumption) | exact plN_rlt (by assumption) (by assumption) | exact plN_set (by assumption) (by assumption) (by assumption) (by assumption) (by assumption) (by assumption) | exact (curAt_hit (by assumption) (by assumption) (by assumption)).symm | exact (curAt_miss (by assumption) (by assumption) (by assumption)).symm | exact plN_skip (by assumption) (by assumption) (by assumption) (by assumption) (by assumption) | exact curAt_end (by assumption) (by assumption) (by assumption) | exact plN_obj (by assumption) (by assumption) (by assumption) | exact endsK_cur (by assumption) (by assumption) | exact curO_atK (by assumption) (by assumption) | exact plN_kind (by assumption) | exact plN_lay (by assumption) (by assumption) | exact ends_lay (by assumption) (by assumption) (by assumption) | exact at_lay (by assumption) (by assumption) (by assumption) | exact sects8 (by assumption) | exact lay4 (by assumption) | exact up_beg (by assumption) (by assumption) (by assumption) | exact up_lo (by assumption) (by assumption) (by assumption) (by assumption) | exact up_hi (by assumption) (by assumption) (by assumption) (by assumption) | exact up_hit (by assumption) (by assumption) (by assumption) (by assumption) (by assumption) (by assumption) | exact up_set (by assumption) (by assumption) (by assumption) (by assumption) (by assumption) (by assumption) (by assumption) (by assumption) (by assumption) | exact pl_hit (by assumption) (by assumption) (by assumption) (by assumption) (by assumption) (by assumption) (by assumption) | exact places_lt (by assumption) | exact places_rlt (by assumption) (by assumption) | exact repl_next (by assumption) (by assumption) | exact layOk_yes (by assumption) (by assumption) | exact (layOk_no1 (by assumption)).symm | exact (layOk_no2 (by assumption)).symm | (rw [lay_no1 (by assumption)]) | (rw [lay_no2 (by assumption)]) | (have := sects_len8 (by assumption) (by assumption); omega) | (have := pl_bd (by assumption) (by assumption) (by assumption) (by assumption) (by assumption) (by assumption) (by assumption); omega) | (rw [← sectsAt_eq (by assumption)])| exact curO_end (by assumption) (by assumption) | exact endsK_cur2 (by assumption) (by assumption) | (rw [endsK_len]; omega) | (simp only [List.length_map, List.length_take]; omega) | exact Eq.symm (by assumption) | exact (endPl_no (layOk_no1 (by assumption))).symm | exact (endPl_no (layOk_no3 (by assumption))).symm | exact (endPl_no (layOk_no4 (by assumption))).symm | exact (layOk_no3 (by assumption)).symm | exact (layOk_no4 (by assumption)).symm | (rw [layout_no (layOk_no3 (by assumption))]) | (rw [layout_no (layOk_no4 (by assumption))]) | exact layOk_yes2 (by assumption) (by assumption) (by assumption) (by assumption) | exact sectsAt_lt (by assumption) (by assumption) | exact sectsAt_ge (by assumption) (by assumption) | (rw [layout_no (by assumption)]) | (rw [layout_yes (by assumption)]) | (have := lmap_len (by assumption); omega) | (have := lmap_len (l := l) (k := _) (by assumption); omega) | exact (objsB_all (by assumption)).2 | exact up_hit (by assumption) (by assumption) (by assumption) (by assumption) (by assumption) (by omega) | exact up_set (by assumption) (by assumption) (by assumption) (by assumption) (by assumption) (by assumption) (by assumption) (by omega) (by assumption) | skip
def C_impl_layout_regionsOf : Con := { ps := [.ro (.st .layout)], out := fun x => let d : Layout := x.1; .req (isLay d) (newL (.st .region) (regs d.ends 0)), det := true }
abbrev L_impl_layout_regionsOf : List (Nat × Con) := []
def G_impl_layout_regionsOf : Cfg := mkG (tyL tys_) L_impl_layout_regionsOf false
def an_impl_layout_regionsOf : PTL C_impl_layout_regionsOf.ps → Nat → Option Ann := fun x kk_ => let d : Layout := x.1; if kk_ = 3 then some (.all (Int) fun k => .giv (0 ≤ k ∧ k ≤ d.ends.length) (.mk [(10, ai k), (8, al (.list .i) d.ends), (9, ai d.ends.length), (3, asl 20)] [(20, .row (some 56) (.st .region) (regs (d.ends.take k.toNat) 0) true)] ((d.ends.length - k.toNat)))) else none
set_option maxRecDepth 200000 in
theorem vc_impl_layout_regionsOf (d : Layout) : (keeps Try.prog G_impl_layout_regionsOf (an_impl_layout_regionsOf (d, ())) (Try.f78.body.getD .skip) Try.f78.results.toList C_impl_layout_regionsOf (d, ())) = ((((List.length (Layout.ends d)) ≤ 9223372036854775807) →
 ((∃ (x_1 : Int), ((0 = x_1) ∧
 ((@Eq (List (List Int)) (Layout.ends d) (Layout.ends d)) ∧
 (((LN (Layout.ends d)) = (LN (Layout.ends d))) ∧
 ((@Eq (List Region) ([] : List Region) (regs (List.take (Int.toNat x_1) (Layout.ends d)) (0 : Int))) ∧
 (((0 ≤ x_1) ∧
 (x_1 ≤ (LN (Layout.ends d)))) ∧
 True)))))) ∧
 (∀ (x_2 : Int), (((0 ≤ x_2) ∧
 (x_2 ≤ (LN (Layout.ends d)))) →
 ((((decide (x_2 < (LN (Layout.ends d)))) = true) →
 (((0 ≤ x_2) ∧
 (x_2 < (LN (Layout.ends d)))) ∧
 (∀ (x_3 : (List Int)), ((@Eq (Option (List Int)) ((Layout.ends d))[(Int.toNat x_2)]? (some x_3)) →
 ((Ok (Ty.list (Ty.int IntKind.i64)) x_3) →
 ((((0 : Int) ≤ (0 : Int)) ∧
 (0 < (LN x_3))) ∧
 (∀ (x_4 : Int), ((@Eq (Option Int) (x_3)[(0 : Nat)]? (some x_4)) →
 ((Ok (Ty.int IntKind.i64) x_4) →
 ((((0 : Int) ≤ (1 : Int)) ∧
 (1 < (LN x_3))) ∧
 (∀ (x_5 : Int), ((@Eq (Option Int) (x_3)[(1 : Nat)]? (some x_5)) →
 ((Ok (Ty.int IntKind.i64) x_5) →
 ((((decide (x_4 < x_5)) = true) →
 ((((0 : Int) ≤ (0 : Int)) ∧
 (0 < (LN x_3))) ∧
 (∀ (x_6 : Int), ((@Eq (Option Int) (x_3)[(0 : Nat)]? (some x_6)) →
 ((Ok (Ty.int IntKind.i64) x_6) →
 ((((0 : Int) ≤ (1 : Int)) ∧
 (1 < (LN x_3))) ∧
 (∀ (x_7 : Int), ((@Eq (Option Int) (x_3)[(1 : Nat)]? (some x_7)) →
 ((Ok (Ty.int IntKind.i64) x_7) →
 ((((((List.length (regs (List.take (Int.toNat x_2) (Layout.ends d)) (0 : Int))) + (List.length [(Region.mk x_6 x_7 (decide (0 < x_2)) (decide (x_2 = (0 : Int))))])) * 24) ≤ 140737488355328) ∧
 (((List.length (regs (List.take (Int.toNat x_2) (Layout.ends d)) (0 : Int))) + (List.length [(Region.mk x_6 x_7 (decide (0 < x_2)) (decide (x_2 = (0 : Int))))])) ≤ 1000000000000)) ∧
 ((i64 (x_2 + (1 : Int))) ∧
 (∃ (x_8 : Int), (((x_2 + (1 : Int)) = x_8) ∧
 ((@Eq (List (List Int)) (Layout.ends d) (Layout.ends d)) ∧
 (((LN (Layout.ends d)) = (LN (Layout.ends d))) ∧
 ((@Eq (List Region) ((regs (List.take (Int.toNat x_2) (Layout.ends d)) (0 : Int)) ++ [(Region.mk x_6 x_7 (decide (0 < x_2)) (decide (x_2 = (0 : Int))))]) (regs (List.take (Int.toNat x_8) (Layout.ends d)) (0 : Int))) ∧
 (((0 ≤ x_8) ∧
 (x_8 ≤ (LN (Layout.ends d)))) ∧
 (((List.length (Layout.ends d)) - (Int.toNat x_8)) < ((List.length (Layout.ends d)) - (Int.toNat x_2)))))))))))))))))))) ∧
 (((decide (x_4 < x_5)) = false) →
 ((i64 (x_2 + (1 : Int))) ∧
 (∃ (x_9 : Int), (((x_2 + (1 : Int)) = x_9) ∧
 ((@Eq (List (List Int)) (Layout.ends d) (Layout.ends d)) ∧
 (((LN (Layout.ends d)) = (LN (Layout.ends d))) ∧
 ((@Eq (List Region) (regs (List.take (Int.toNat x_2) (Layout.ends d)) (0 : Int)) (regs (List.take (Int.toNat x_9) (Layout.ends d)) (0 : Int))) ∧
 (((0 ≤ x_9) ∧
 (x_9 ≤ (LN (Layout.ends d)))) ∧
 (((List.length (Layout.ends d)) - (Int.toNat x_9)) < ((List.length (Layout.ends d)) - (Int.toNat x_2))))))))))))))))))))))))) ∧
 (((decide (x_2 < (LN (Layout.ends d)))) = false) →
 ((@Eq (List Region) (regs (List.take (Int.toNat x_2) (Layout.ends d)) (0 : Int)) (regs (Layout.ends d) (0 : Int))) ∧
 True)))))))) := by kernel_rfl
theorem det_impl_layout_regionsOf : C_impl_layout_regionsOf.det = true → ∀ x, (C_impl_layout_regionsOf.out x).Det := fun _ x => by simp only [C_impl_layout_regionsOf]; repeat (first | exact Det.ret _ | exact Det.vc' | apply Det.req)
set_option maxRecDepth 200000 in
set_option maxHeartbeats 4000000 in
theorem ok_impl_layout_regionsOf : ConOK Try.prog 78 C_impl_layout_regionsOf := by
  refine con_mk (wr := false) (ty := tyL tys_) (l := L_impl_layout_regionsOf) trivial Try.checked.mixed (fn := Try.f78) (body := Try.f78.body.getD .skip) Try.func78 rfl (by decide) (by kernel_rfl) rfl an_impl_layout_regionsOf fun x ho hx => ?_
  obtain ⟨d, ⟨⟩⟩ := x
  refine Keeps.of (vc_impl_layout_regionsOf d) ?_
  revert d ho hx
  show ∀ (d : Layout), _
  intro d ho hx
  dsimp only [C_impl_layout_regionsOf, okPTL, okPT, Ok, Ty.cells, SN.cells, OkL, OkC, okI, ci, cb, cs, cl] at ho
  dsimp only [C_impl_layout_regionsOf, vc, v1, decB, SR.pre] at hx
  have h := isLay_ends hx.1
  have h1 := fun k => regs_tlen (d.ends) k
  (try delta i64 LN); simp +contextual only [VBt]; (repeat' first | intro _ | apply And.intro); all_goals (try omega)
  all_goals first | omega | rfl | (have := h1 _; omega) | exact reg_yes (by assumption) (by assumption) (by assumption) (by assumption) (by assumption) | exact reg_no (by assumption) (by assumption) (by assumption) (by assumption) (by omega) | exact reg_end (by assumption) | (try grind)
def C_impl_RegionsOf : Con := { ps := [.ro (.list (.st .obj)), .ro .i], out := fun x => let l : List (Objt) := x.1; let b : Int := x.2.1; newL (.st .region) (regs (layout l b).ends 0), det := true }
abbrev L_impl_RegionsOf : List (Nat × Con) := [(71, C_impl_layoutOf), (78, C_impl_layout_regionsOf)]
def G_impl_RegionsOf : Cfg := mkG (tyL tys_) L_impl_RegionsOf false
def an_impl_RegionsOf : PTL C_impl_RegionsOf.ps → Nat → Option Ann := fun _ _ => none
set_option maxRecDepth 200000 in
theorem vc_impl_RegionsOf (l : List (Objt)) (b : Int) : (keeps Try.prog G_impl_RegionsOf (an_impl_RegionsOf (l, b, ())) (Try.f31.body.getD .skip) Try.f31.results.toList C_impl_RegionsOf (l, b, ())) = (((((Bool.not (layOk l b)) = true) →
 ((@Eq (List Region) ([] : List Region) (regs (Layout.ends (layout l b)) (0 : Int))) ∧
 True)) ∧
 (((Bool.not (layOk l b)) = false) →
 ((isLay (layout l b)) ∧
 ((@Eq (List Region) (regs (Layout.ends (layout l b)) (0 : Int)) (regs (Layout.ends (layout l b)) (0 : Int))) ∧
 True))))) := by kernel_rfl
theorem det_impl_RegionsOf : C_impl_RegionsOf.det = true → ∀ x, (C_impl_RegionsOf.out x).Det := fun _ x => by simp only [C_impl_RegionsOf]; repeat (first | exact Det.ret _ | exact Det.vc' | apply Det.req)
set_option maxRecDepth 200000 in
set_option maxHeartbeats 4000000 in
theorem ok_impl_RegionsOf : ConOK Try.prog 31 C_impl_RegionsOf := by
  refine con_mk (wr := false) (ty := tyL tys_) (l := L_impl_RegionsOf) ⟨⟨ok_impl_layoutOf, det_impl_layoutOf⟩, ⟨⟨ok_impl_layout_regionsOf, det_impl_layout_regionsOf⟩, trivial⟩⟩ Try.checked.mixed (fn := Try.f31) (body := Try.f31.body.getD .skip) Try.func31 rfl (by decide) (by kernel_rfl) rfl an_impl_RegionsOf fun x ho hx => ?_
  obtain ⟨l, b, ⟨⟩⟩ := x
  refine Keeps.of (vc_impl_RegionsOf l b) ?_
  revert l b ho hx
  show ∀ (l : List (Objt)) (b : Int), _
  intro l b ho hx
  dsimp only [C_impl_RegionsOf, okPTL, okPT, Ok, Ty.cells, SN.cells, OkL, OkC, okI, ci, cb, cs, cl] at ho
  dsimp only [C_impl_RegionsOf, vc, v1, decB, SR.pre] at hx
  have hn := @layout_no l b
  have hi : layOk l b = true → isLay (layout l b) := fun h => ⟨l, b, h, rfl⟩
  (try delta i64 LN); simp only [VBt]; (repeat' first | intro _ | apply And.intro); all_goals (try omega)
  all_goals (try grind [regs])
def C_spec_RegionsOf : Con := { ps := [.ro (.list (.st .obj)), .ro .i], out := fun x => let l : List (Objt) := x.1; let b : Int := x.2.1; .req (l.length + sumI szOb l ≤ 1048576) (newL (.st .region) (regs (layout l b).ends 0)), det := true }
abbrev L_spec_RegionsOf : List (Nat × Con) := [(29, C_spec_KindEnds)]
def G_spec_RegionsOf : Cfg := mkG (tyL tys_) L_spec_RegionsOf false
def an_spec_RegionsOf : PTL C_spec_RegionsOf.ps → Nat → Option Ann := fun x kk_ => let l : List (Objt) := x.1; let b : Int := x.2.1; if kk_ = 4 then some (.all (Int) fun k => .giv (0 ≤ k ∧ k ≤ (layout l b).ends.length) (.mk [(7, ai k), (6, al (.list .i) (layout l b).ends), (5, asl 20)] [(20, .row (some 56) (.st .region) (regs ((layout l b).ends.take k.toNat) 0) true)] (((layout l b).ends.length - k.toNat)))) else none
set_option maxRecDepth 200000 in
theorem vc_spec_RegionsOf (l : List (Objt)) (b : Int) : (keeps Try.prog G_spec_RegionsOf (an_spec_RegionsOf (l, b, ())) (Try.f32.body.getD .skip) Try.f32.results.toList C_spec_RegionsOf (l, b, ())) = (((((LN l) + (@sumI Objt szOb l)) ≤ 1048576) ∧
 ((∃ (x_1 : Int), ((0 = x_1) ∧
 ((@Eq (List (List Int)) (Layout.ends (layout l b)) (Layout.ends (layout l b))) ∧
 ((@Eq (List Region) ([] : List Region) (regs (List.take (Int.toNat x_1) (Layout.ends (layout l b))) (0 : Int))) ∧
 (((0 ≤ x_1) ∧
 (x_1 ≤ (LN (Layout.ends (layout l b))))) ∧
 True))))) ∧
 (∀ (x_2 : Int), (((0 ≤ x_2) ∧
 (x_2 ≤ (LN (Layout.ends (layout l b))))) →
 (((List.length (Layout.ends (layout l b))) ≤ 9223372036854775807) →
 ((((decide (x_2 < (LN (Layout.ends (layout l b))))) = true) →
 (((0 ≤ x_2) ∧
 (x_2 < (LN (Layout.ends (layout l b))))) ∧
 (∀ (x_3 : (List Int)), ((@Eq (Option (List Int)) ((Layout.ends (layout l b)))[(Int.toNat x_2)]? (some x_3)) →
 ((Ok (Ty.list (Ty.int IntKind.i64)) x_3) →
 ((((0 : Int) ≤ (1 : Int)) ∧
 (1 < (LN x_3))) ∧
 (∀ (x_4 : Int), ((@Eq (Option Int) (x_3)[(1 : Nat)]? (some x_4)) →
 ((Ok (Ty.int IntKind.i64) x_4) →
 (((0 ≤ x_2) ∧
 (x_2 < (LN (Layout.ends (layout l b))))) ∧
 (∀ (x_5 : (List Int)), ((@Eq (Option (List Int)) ((Layout.ends (layout l b)))[(Int.toNat x_2)]? (some x_5)) →
 ((Ok (Ty.list (Ty.int IntKind.i64)) x_5) →
 ((((0 : Int) ≤ (0 : Int)) ∧
 (0 < (LN x_5))) ∧
 (∀ (x_6 : Int), ((@Eq (Option Int) (x_5)[(0 : Nat)]? (some x_6)) →
 ((Ok (Ty.int IntKind.i64) x_6) →
 ((((decide (x_6 < x_4)) = true) →
 (((0 ≤ x_2) ∧
 (x_2 < (LN (Layout.ends (layout l b))))) ∧
 (∀ (x_7 : (List Int)), ((@Eq (Option (List Int)) ((Layout.ends (layout l b)))[(Int.toNat x_2)]? (some x_7)) →
 ((Ok (Ty.list (Ty.int IntKind.i64)) x_7) →
 ((((0 : Int) ≤ (0 : Int)) ∧
 (0 < (LN x_7))) ∧
 (∀ (x_8 : Int), ((@Eq (Option Int) (x_7)[(0 : Nat)]? (some x_8)) →
 ((Ok (Ty.int IntKind.i64) x_8) →
 (((0 ≤ x_2) ∧
 (x_2 < (LN (Layout.ends (layout l b))))) ∧
 (∀ (x_9 : (List Int)), ((@Eq (Option (List Int)) ((Layout.ends (layout l b)))[(Int.toNat x_2)]? (some x_9)) →
 ((Ok (Ty.list (Ty.int IntKind.i64)) x_9) →
 ((((0 : Int) ≤ (1 : Int)) ∧
 (1 < (LN x_9))) ∧
 (∀ (x_10 : Int), ((@Eq (Option Int) (x_9)[(1 : Nat)]? (some x_10)) →
 ((Ok (Ty.int IntKind.i64) x_10) →
 ((((((List.length (regs (List.take (Int.toNat x_2) (Layout.ends (layout l b))) (0 : Int))) + (List.length [(Region.mk x_8 x_10 (decide (0 < x_2)) (decide (x_2 = (0 : Int))))])) * 24) ≤ 140737488355328) ∧
 (((List.length (regs (List.take (Int.toNat x_2) (Layout.ends (layout l b))) (0 : Int))) + (List.length [(Region.mk x_8 x_10 (decide (0 < x_2)) (decide (x_2 = (0 : Int))))])) ≤ 1000000000000)) ∧
 ((i64 (x_2 + (1 : Int))) ∧
 (∃ (x_11 : Int), (((x_2 + (1 : Int)) = x_11) ∧
 ((@Eq (List (List Int)) (Layout.ends (layout l b)) (Layout.ends (layout l b))) ∧
 ((@Eq (List Region) ((regs (List.take (Int.toNat x_2) (Layout.ends (layout l b))) (0 : Int)) ++ [(Region.mk x_8 x_10 (decide (0 < x_2)) (decide (x_2 = (0 : Int))))]) (regs (List.take (Int.toNat x_11) (Layout.ends (layout l b))) (0 : Int))) ∧
 (((0 ≤ x_11) ∧
 (x_11 ≤ (LN (Layout.ends (layout l b))))) ∧
 (((List.length (Layout.ends (layout l b))) - (Int.toNat x_11)) < ((List.length (Layout.ends (layout l b))) - (Int.toNat x_2))))))))))))))))))))))))))) ∧
 (((decide (x_6 < x_4)) = false) →
 ((i64 (x_2 + (1 : Int))) ∧
 (∃ (x_12 : Int), (((x_2 + (1 : Int)) = x_12) ∧
 ((@Eq (List (List Int)) (Layout.ends (layout l b)) (Layout.ends (layout l b))) ∧
 ((@Eq (List Region) (regs (List.take (Int.toNat x_2) (Layout.ends (layout l b))) (0 : Int)) (regs (List.take (Int.toNat x_12) (Layout.ends (layout l b))) (0 : Int))) ∧
 (((0 ≤ x_12) ∧
 (x_12 ≤ (LN (Layout.ends (layout l b))))) ∧
 (((List.length (Layout.ends (layout l b))) - (Int.toNat x_12)) < ((List.length (Layout.ends (layout l b))) - (Int.toNat x_2)))))))))))))))))))))))))))) ∧
 (((decide (x_2 < (LN (Layout.ends (layout l b))))) = false) →
 ((@Eq (List Region) (regs (List.take (Int.toNat x_2) (Layout.ends (layout l b))) (0 : Int)) (regs (Layout.ends (layout l b)) (0 : Int))) ∧
 True))))))))) := by kernel_rfl
theorem det_spec_RegionsOf : C_spec_RegionsOf.det = true → ∀ x, (C_spec_RegionsOf.out x).Det := fun _ x => by simp only [C_spec_RegionsOf]; repeat (first | exact Det.ret _ | exact Det.vc' | apply Det.req)
set_option maxRecDepth 200000 in
set_option maxHeartbeats 4000000 in
theorem ok_spec_RegionsOf : ConOK Try.prog 32 C_spec_RegionsOf := by
  refine con_mk (wr := false) (ty := tyL tys_) (l := L_spec_RegionsOf) ⟨⟨ok_spec_KindEnds, det_spec_KindEnds⟩, trivial⟩ Try.checked.mixed (fn := Try.f32) (body := Try.f32.body.getD .skip) Try.func32 rfl (by decide) (by kernel_rfl) rfl an_spec_RegionsOf fun x ho hx => ?_
  obtain ⟨l, b, ⟨⟩⟩ := x
  refine Keeps.of (vc_spec_RegionsOf l b) ?_
  revert l b ho hx
  show ∀ (l : List (Objt)) (b : Int), _
  intro l b ho hx
  dsimp only [C_spec_RegionsOf, okPTL, okPT, Ok, Ty.cells, SN.cells, OkL, OkC, okI, ci, cb, cs, cl] at ho
  dsimp only [C_spec_RegionsOf, vc, v1, decB, SR.pre] at hx
  have h := lay_ends2 l b
  have h1 := fun k => regs_tlen (layout l b).ends k
  (try delta i64 LN); simp +contextual only [VBt]; (repeat' first | intro _ | apply And.intro); all_goals (try omega)
  all_goals first | omega | rfl | (have := h1 _; omega) | exact reg_yes (by assumption) (by assumption) (by assumption) (by assumption) (by assumption) | exact reg_no (by assumption) (by assumption) (by assumption) (by assumption) (by omega) | exact reg_end (by assumption) | (try grind)
end Go.Proofs.Ytignicccfjdiiaa
