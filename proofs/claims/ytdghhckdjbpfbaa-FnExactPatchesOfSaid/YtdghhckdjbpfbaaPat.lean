/- Patches: both packages keep the same contracts. -/
import Derived.Test.YtdghhckdjbpfbaaPatD
import Derived.Test.YtdghhckdjbpfbaaLib
set_option linter.unusedVariables false
set_option linter.unusedSimpArgs false
namespace Go.Proofs.Ytdghhckdjbpfbaa
open Go Go.RowKit


theorem take_snoc' {α : Type} {l : List α} {k : Int} {x : α} (h : l[k.toNat]? = some x) (hk : 0 ≤ k) : l.take (k + 1).toNat = l.take k.toNat ++ [x] := by rw [toNat_succ hk]; exact take_snoc h
def C_impl_PatchesOf : Con := { ps := [.ro (.st .img), .ro (.st .img)], out := fun x => let a : Img := x.1; let b : Img := x.2.1; newLB (.st .patch) (pats a b) (patOk a b), det := true }
def G_impl_PatchesOf : Cfg := mkG (tyL [(3, .i), (5, .u), (4, .bool), (9, .str), (126, .int .u64), (45, .st .fixup), (24, .st .img), (91, .st .patch), (65, .st .hash), (63, .list .i), (61, .list .str), (22, .list .u), (41, .st .fixup), (33, .st .img), (72, .st .hash)]) [(67, C_impl_ImageValid)] false
def an_impl_PatchesOf : PTL C_impl_PatchesOf.ps → Nat → Option Ann := fun x kk_ => let a : Img := x.1; let b : Img := x.2.1; if kk_ = 5 then some (.all (Int) fun i => .giv (patOk a b = true ∧ 0 ≤ i ∧ i ≤ b.bytes.length) (.mk [(40, ai i), (2, aref 62), (3, aref 63), (6, asl 20), (7, ab (pAt a.base a.bytes b.bytes i.toNat).2), (38, al .u b.bytes), (39, ai b.bytes.length)] [(62, bx (ast .img a)), (63, bx (ast .img b)), (20, .row (some 91) (.st .patch) (pAt a.base a.bytes b.bytes i.toNat).1 true)] ((b.bytes.length - i.toNat)))) else if kk_ = 1012 then some (.all (Int) fun i => .all (Int) fun x => .giv (patOk a b = true ∧ 0 ≤ i ∧ i < b.bytes.length ∧ b.bytes[i.toNat]? = some x ∧ ¬ a.bytes[i.toNat]? = some x) (.mk [(40, ai i), (9, au x), (2, aref 62), (3, aref 63), (6, asl 20), (10, ab true), (11, ai ((preL a.base a.bytes b.bytes i).length - 1)), (38, al .u b.bytes), (39, ai b.bytes.length)] [(62, bx (ast .img a)), (63, bx (ast .img b)), (20, .row (some 91) (.hol .patch) ((preL a.base a.bytes b.bytes i).map fun y => (y, true)) true)] ((b.bytes.length - i.toNat)))) else none
set_option maxRecDepth 200000 in
theorem vc_impl_PatchesOf (a : Img) (b : Img) : (keeps Try.prog G_impl_PatchesOf (an_impl_PatchesOf (a, b, ())) (Try.f16.body.getD .skip) Try.f16.results.toList C_impl_PatchesOf (a, b, ())) = (((((Bool.not (decide (imgOk a))) = true) →
 ((false = (patOk a b)) ∧
 ((@Eq (List Patch) ([] : List Patch) (pats a b)) ∧
 True))) ∧
 (((Bool.not (decide (imgOk a))) = false) →
 ((((Bool.not (decide (imgOk b))) = true) →
 ((false = (patOk a b)) ∧
 ((@Eq (List Patch) ([] : List Patch) (pats a b)) ∧
 True))) ∧
 (((Bool.not (decide (imgOk b))) = false) →
 ((((decide ((Img.base a) ≠ (Img.base b))) = true) →
 ((false = (patOk a b)) ∧
 ((@Eq (List Patch) ([] : List Patch) (pats a b)) ∧
 True))) ∧
 (((decide ((Img.base a) ≠ (Img.base b))) = false) →
 (((List.length (Img.bytes a)) ≤ (9223372036854775807 : Nat)) →
 (((List.length (Img.bytes b)) ≤ (9223372036854775807 : Nat)) →
 ((((decide ((@Nat.cast Int _ (List.length (Img.bytes a))) ≠ (@Nat.cast Int _ (List.length (Img.bytes b))))) = true) →
 ((false = (patOk a b)) ∧
 ((@Eq (List Patch) ([] : List Patch) (pats a b)) ∧
 True))) ∧
 (((decide ((@Nat.cast Int _ (List.length (Img.bytes a))) ≠ (@Nat.cast Int _ (List.length (Img.bytes b))))) = false) →
 (((List.length (Img.bytes b)) ≤ (9223372036854775807 : Nat)) →
 ((∃ (x_1 : Int), (((0 : Int) = x_1) ∧
 ((false = (Prod.snd (pAt (Img.base a) (Img.bytes a) (Img.bytes b) (Int.toNat x_1)))) ∧
 ((@Eq (List Int) (Img.bytes b) (Img.bytes b)) ∧
 (((@Nat.cast Int _ (List.length (Img.bytes b))) = (@Nat.cast Int _ (List.length (Img.bytes b)))) ∧
 (((Img.base a) = (Img.base a)) ∧
 ((@Eq (List Int) (Img.bytes a) (Img.bytes a)) ∧
 (((Img.base b) = (Img.base b)) ∧
 ((@Eq (List Int) (Img.bytes b) (Img.bytes b)) ∧
 ((@Eq (List Patch) ([] : List Patch) (Prod.fst (pAt (Img.base a) (Img.bytes a) (Img.bytes b) (Int.toNat x_1)))) ∧
 ((((patOk a b) = true) ∧
 (((0 : Int) ≤ x_1) ∧
 (x_1 ≤ (@Nat.cast Int _ (List.length (Img.bytes b)))))) ∧
 True))))))))))) ∧
 (∀ (x_2 : Int), ((((patOk a b) = true) ∧
 (((0 : Int) ≤ x_2) ∧
 (x_2 ≤ (@Nat.cast Int _ (List.length (Img.bytes b)))))) →
 ((((decide (x_2 < (@Nat.cast Int _ (List.length (Img.bytes b))))) = true) →
 ((((0 : Int) ≤ x_2) ∧
 (x_2 < (@Nat.cast Int _ (List.length (Img.bytes b))))) ∧
 (∀ (x_3 : Int), ((@Eq (Option Int) ((Img.bytes b))[(Int.toNat x_2)]? (some x_3)) →
 ((Ok (Ty.int IntKind.u8) x_3) →
 ((((0 : Int) ≤ x_2) ∧
 (x_2 < (@Nat.cast Int _ (List.length (Img.bytes a))))) ∧
 (∀ (x_4 : Int), ((@Eq (Option Int) ((Img.bytes a))[(Int.toNat x_2)]? (some x_4)) →
 ((Ok (Ty.int IntKind.u8) x_4) →
 ((((decide (x_4 ≠ x_3)) = true) →
 ((((Bool.not (Prod.snd (pAt (Img.base a) (Img.bytes a) (Img.bytes b) (Int.toNat x_2)))) = true) →
 ((((- (9223372036854775808 : Int)) ≤ ((Img.base b) + x_2)) ∧
 (((Img.base b) + x_2) ≤ (9223372036854775807 : Int))) ∧
 ((((((List.length (Prod.fst (pAt (Img.base a) (Img.bytes a) (Img.bytes b) (Int.toNat x_2)))) + (List.length [(Patch.mk ((Img.base b) + x_2) ([] : List Int))])) * (32 : Nat)) ≤ (140737488355328 : Nat)) ∧
 (((List.length (Prod.fst (pAt (Img.base a) (Img.bytes a) (Img.bytes b) (Int.toNat x_2)))) + (List.length [(Patch.mk ((Img.base b) + x_2) ([] : List Int))])) ≤ (1000000000000 : Nat))) ∧
 ((((decide (x_4 ≠ x_3)) = true) →
 (((List.length ((Prod.fst (pAt (Img.base a) (Img.bytes a) (Img.bytes b) (Int.toNat x_2))) ++ [(Patch.mk ((Img.base b) + x_2) ([] : List Int))])) ≤ (9223372036854775807 : Nat)) →
 ((((- (9223372036854775808 : Int)) ≤ ((@Nat.cast Int _ (List.length ((Prod.fst (pAt (Img.base a) (Img.bytes a) (Img.bytes b) (Int.toNat x_2))) ++ [(Patch.mk ((Img.base b) + x_2) ([] : List Int))]))) - (1 : Int))) ∧
 (((@Nat.cast Int _ (List.length ((Prod.fst (pAt (Img.base a) (Img.bytes a) (Img.bytes b) (Int.toNat x_2))) ++ [(Patch.mk ((Img.base b) + x_2) ([] : List Int))]))) - (1 : Int)) ≤ (9223372036854775807 : Int))) ∧
 (∃ (x_5 : Int), (∃ (x_6 : Int), ((x_2 = x_5) ∧
 ((x_3 = x_6) ∧
 (((decide (x_4 ≠ x_3)) = true) ∧
 ((((@Nat.cast Int _ (List.length ((Prod.fst (pAt (Img.base a) (Img.bytes a) (Img.bytes b) (Int.toNat x_2))) ++ [(Patch.mk ((Img.base b) + x_2) ([] : List Int))]))) - (1 : Int)) = ((@Nat.cast Int _ (List.length (preL (Img.base a) (Img.bytes a) (Img.bytes b) x_5))) - (1 : Int))) ∧
 ((@Eq (List Int) (Img.bytes b) (Img.bytes b)) ∧
 (((@Nat.cast Int _ (List.length (Img.bytes b))) = (@Nat.cast Int _ (List.length (Img.bytes b)))) ∧
 (((Img.base a) = (Img.base a)) ∧
 ((@Eq (List Int) (Img.bytes a) (Img.bytes a)) ∧
 (((Img.base b) = (Img.base b)) ∧
 ((@Eq (List Int) (Img.bytes b) (Img.bytes b)) ∧
 ((@Eq (List (Prod Patch Bool)) (@List.map Patch (Prod Patch Bool) (fun (y_7 : Patch) => (@Prod.mk Patch Bool y_7 true)) ((Prod.fst (pAt (Img.base a) (Img.bytes a) (Img.bytes b) (Int.toNat x_2))) ++ [(Patch.mk ((Img.base b) + x_2) ([] : List Int))])) (@List.map Patch (Prod Patch Bool) (fun (y_8 : Patch) => (@Prod.mk Patch Bool y_8 true)) (preL (Img.base a) (Img.bytes a) (Img.bytes b) x_5))) ∧
 ((((patOk a b) = true) ∧
 (((0 : Int) ≤ x_5) ∧
 ((x_5 < (@Nat.cast Int _ (List.length (Img.bytes b)))) ∧
 ((@Eq (Option Int) ((Img.bytes b))[(Int.toNat x_5)]? (some x_6)) ∧
 (¬ (@Eq (Option Int) ((Img.bytes a))[(Int.toNat x_5)]? (some x_6))))))) ∧
 (∀ (x_9 : Int), (∀ (x_10 : Int), ((((patOk a b) = true) ∧
 (((0 : Int) ≤ x_9) ∧
 ((x_9 < (@Nat.cast Int _ (List.length (Img.bytes b)))) ∧
 ((@Eq (Option Int) ((Img.bytes b))[(Int.toNat x_9)]? (some x_10)) ∧
 (¬ (@Eq (Option Int) ((Img.bytes a))[(Int.toNat x_9)]? (some x_10))))))) →
 ((((List.length (Img.bytes b)) - (Int.toNat x_9)) = ((List.length (Img.bytes b)) - (Int.toNat x_5))) →
 ((((0 : Int) ≤ ((@Nat.cast Int _ (List.length (preL (Img.base a) (Img.bytes a) (Img.bytes b) x_9))) - (1 : Int))) ∧
 (((@Nat.cast Int _ (List.length (preL (Img.base a) (Img.bytes a) (Img.bytes b) x_9))) - (1 : Int)) < (@Nat.cast Int _ (List.length (@List.map Patch (Prod Patch Bool) (fun (y_11 : Patch) => (@Prod.mk Patch Bool y_11 true)) (preL (Img.base a) (Img.bytes a) (Img.bytes b) x_9)))))) ∧
 ((∃ (y_12 : Patch), (@Eq (Option (Prod Patch Bool)) ((@List.map Patch (Prod Patch Bool) (fun (y_13 : Patch) => (@Prod.mk Patch Bool y_13 true)) (preL (Img.base a) (Img.bytes a) (Img.bytes b) x_9)))[(Int.toNat ((@Nat.cast Int _ (List.length (preL (Img.base a) (Img.bytes a) (Img.bytes b) x_9))) - (1 : Int)))]? (some (@Prod.mk Patch Bool y_12 true)))) ∧
 (∀ (x_14 : Patch), ((@Eq (Option (Prod Patch Bool)) ((@List.map Patch (Prod Patch Bool) (fun (y_15 : Patch) => (@Prod.mk Patch Bool y_15 true)) (preL (Img.base a) (Img.bytes a) (Img.bytes b) x_9)))[(Int.toNat ((@Nat.cast Int _ (List.length (preL (Img.base a) (Img.bytes a) (Img.bytes b) x_9))) - (1 : Int)))]? (some (@Prod.mk Patch Bool x_14 true))) →
 ((Ok (Ty.st SN.patch) x_14) →
 ((((((List.length (Patch.bytes x_14)) + (List.length [x_10])) * (1 : Nat)) ≤ (140737488355328 : Nat)) ∧
 (((List.length (Patch.bytes x_14)) + (List.length [x_10])) ≤ (1000000000000 : Nat))) ∧
 ((((0 : Int) ≤ ((@Nat.cast Int _ (List.length (preL (Img.base a) (Img.bytes a) (Img.bytes b) x_9))) - (1 : Int))) ∧
 (((@Nat.cast Int _ (List.length (preL (Img.base a) (Img.bytes a) (Img.bytes b) x_9))) - (1 : Int)) < (@Nat.cast Int _ (List.length (List.set (@List.map Patch (Prod Patch Bool) (fun (y_16 : Patch) => (@Prod.mk Patch Bool y_16 true)) (preL (Img.base a) (Img.bytes a) (Img.bytes b) x_9)) (Int.toNat ((@Nat.cast Int _ (List.length (preL (Img.base a) (Img.bytes a) (Img.bytes b) x_9))) - (1 : Int))) (@Prod.mk Patch Bool x_14 false)))))) ∧
 ((∃ (y_17 : Patch), (@Eq (Option (Prod Patch Bool)) ((List.set (@List.map Patch (Prod Patch Bool) (fun (y_18 : Patch) => (@Prod.mk Patch Bool y_18 true)) (preL (Img.base a) (Img.bytes a) (Img.bytes b) x_9)) (Int.toNat ((@Nat.cast Int _ (List.length (preL (Img.base a) (Img.bytes a) (Img.bytes b) x_9))) - (1 : Int))) (@Prod.mk Patch Bool x_14 false)))[(Int.toNat ((@Nat.cast Int _ (List.length (preL (Img.base a) (Img.bytes a) (Img.bytes b) x_9))) - (1 : Int)))]? (some (@Prod.mk Patch Bool y_17 false)))) ∧
 (∀ (x_19 : Patch), ((@Eq (Option (Prod Patch Bool)) ((List.set (@List.map Patch (Prod Patch Bool) (fun (y_20 : Patch) => (@Prod.mk Patch Bool y_20 true)) (preL (Img.base a) (Img.bytes a) (Img.bytes b) x_9)) (Int.toNat ((@Nat.cast Int _ (List.length (preL (Img.base a) (Img.bytes a) (Img.bytes b) x_9))) - (1 : Int))) (@Prod.mk Patch Bool x_14 false)))[(Int.toNat ((@Nat.cast Int _ (List.length (preL (Img.base a) (Img.bytes a) (Img.bytes b) x_9))) - (1 : Int)))]? (some (@Prod.mk Patch Bool x_19 false))) →
 ((((- (9223372036854775808 : Int)) ≤ (x_9 + (1 : Int))) ∧
 ((x_9 + (1 : Int)) ≤ (9223372036854775807 : Int))) ∧
 (∃ (x_21 : Int), ((@Eq (List (Prod Patch Bool)) (@List.map Patch (Prod Patch Bool) (fun (y_22 : Patch) => (@Prod.mk Patch Bool y_22 true)) (Prod.fst (pAt (Img.base a) (Img.bytes a) (Img.bytes b) (Int.toNat x_21)))) (List.set (List.set (@List.map Patch (Prod Patch Bool) (fun (y_23 : Patch) => (@Prod.mk Patch Bool y_23 true)) (preL (Img.base a) (Img.bytes a) (Img.bytes b) x_9)) (Int.toNat ((@Nat.cast Int _ (List.length (preL (Img.base a) (Img.bytes a) (Img.bytes b) x_9))) - (1 : Int))) (@Prod.mk Patch Bool x_14 false)) (Int.toNat ((@Nat.cast Int _ (List.length (preL (Img.base a) (Img.bytes a) (Img.bytes b) x_9))) - (1 : Int))) (@Prod.mk Patch Bool (Patch.mk (Patch.at_ x_19) ((Patch.bytes x_14) ++ [x_10])) true))) ∧
 (((x_9 + (1 : Int)) = x_21) ∧
 ((true = (Prod.snd (pAt (Img.base a) (Img.bytes a) (Img.bytes b) (Int.toNat x_21)))) ∧
 ((@Eq (List Int) (Img.bytes b) (Img.bytes b)) ∧
 (((@Nat.cast Int _ (List.length (Img.bytes b))) = (@Nat.cast Int _ (List.length (Img.bytes b)))) ∧
 (((Img.base a) = (Img.base a)) ∧
 ((@Eq (List Int) (Img.bytes a) (Img.bytes a)) ∧
 (((Img.base b) = (Img.base b)) ∧
 ((@Eq (List Int) (Img.bytes b) (Img.bytes b)) ∧
 ((@Eq (List Patch) (Prod.fst (pAt (Img.base a) (Img.bytes a) (Img.bytes b) (Int.toNat x_21))) (Prod.fst (pAt (Img.base a) (Img.bytes a) (Img.bytes b) (Int.toNat x_21)))) ∧
 ((((patOk a b) = true) ∧
 (((0 : Int) ≤ x_21) ∧
 (x_21 ≤ (@Nat.cast Int _ (List.length (Img.bytes b)))))) ∧
 (((List.length (Img.bytes b)) - (Int.toNat x_21)) < ((List.length (Img.bytes b)) - (Int.toNat x_2))))))))))))))))))))))))))))))))))))))))))))))) ∧
 (((decide (x_4 ≠ x_3)) = false) →
 ((((- (9223372036854775808 : Int)) ≤ (x_2 + (1 : Int))) ∧
 ((x_2 + (1 : Int)) ≤ (9223372036854775807 : Int))) ∧
 (∃ (x_24 : Int), (((x_2 + (1 : Int)) = x_24) ∧
 (((decide (x_4 ≠ x_3)) = (Prod.snd (pAt (Img.base a) (Img.bytes a) (Img.bytes b) (Int.toNat x_24)))) ∧
 ((@Eq (List Int) (Img.bytes b) (Img.bytes b)) ∧
 (((@Nat.cast Int _ (List.length (Img.bytes b))) = (@Nat.cast Int _ (List.length (Img.bytes b)))) ∧
 (((Img.base a) = (Img.base a)) ∧
 ((@Eq (List Int) (Img.bytes a) (Img.bytes a)) ∧
 (((Img.base b) = (Img.base b)) ∧
 ((@Eq (List Int) (Img.bytes b) (Img.bytes b)) ∧
 ((@Eq (List Patch) ((Prod.fst (pAt (Img.base a) (Img.bytes a) (Img.bytes b) (Int.toNat x_2))) ++ [(Patch.mk ((Img.base b) + x_2) ([] : List Int))]) (Prod.fst (pAt (Img.base a) (Img.bytes a) (Img.bytes b) (Int.toNat x_24)))) ∧
 ((((patOk a b) = true) ∧
 (((0 : Int) ≤ x_24) ∧
 (x_24 ≤ (@Nat.cast Int _ (List.length (Img.bytes b)))))) ∧
 (((List.length (Img.bytes b)) - (Int.toNat x_24)) < ((List.length (Img.bytes b)) - (Int.toNat x_2)))))))))))))))))))) ∧
 (((Bool.not (Prod.snd (pAt (Img.base a) (Img.bytes a) (Img.bytes b) (Int.toNat x_2)))) = false) →
 ((((decide (x_4 ≠ x_3)) = true) →
 (((List.length (Prod.fst (pAt (Img.base a) (Img.bytes a) (Img.bytes b) (Int.toNat x_2)))) ≤ (9223372036854775807 : Nat)) →
 ((((- (9223372036854775808 : Int)) ≤ ((@Nat.cast Int _ (List.length (Prod.fst (pAt (Img.base a) (Img.bytes a) (Img.bytes b) (Int.toNat x_2))))) - (1 : Int))) ∧
 (((@Nat.cast Int _ (List.length (Prod.fst (pAt (Img.base a) (Img.bytes a) (Img.bytes b) (Int.toNat x_2))))) - (1 : Int)) ≤ (9223372036854775807 : Int))) ∧
 (∃ (x_25 : Int), (∃ (x_26 : Int), ((x_2 = x_25) ∧
 ((x_3 = x_26) ∧
 (((decide (x_4 ≠ x_3)) = true) ∧
 ((((@Nat.cast Int _ (List.length (Prod.fst (pAt (Img.base a) (Img.bytes a) (Img.bytes b) (Int.toNat x_2))))) - (1 : Int)) = ((@Nat.cast Int _ (List.length (preL (Img.base a) (Img.bytes a) (Img.bytes b) x_25))) - (1 : Int))) ∧
 ((@Eq (List Int) (Img.bytes b) (Img.bytes b)) ∧
 (((@Nat.cast Int _ (List.length (Img.bytes b))) = (@Nat.cast Int _ (List.length (Img.bytes b)))) ∧
 (((Img.base a) = (Img.base a)) ∧
 ((@Eq (List Int) (Img.bytes a) (Img.bytes a)) ∧
 (((Img.base b) = (Img.base b)) ∧
 ((@Eq (List Int) (Img.bytes b) (Img.bytes b)) ∧
 ((@Eq (List (Prod Patch Bool)) (@List.map Patch (Prod Patch Bool) (fun (y_27 : Patch) => (@Prod.mk Patch Bool y_27 true)) (Prod.fst (pAt (Img.base a) (Img.bytes a) (Img.bytes b) (Int.toNat x_2)))) (@List.map Patch (Prod Patch Bool) (fun (y_28 : Patch) => (@Prod.mk Patch Bool y_28 true)) (preL (Img.base a) (Img.bytes a) (Img.bytes b) x_25))) ∧
 ((((patOk a b) = true) ∧
 (((0 : Int) ≤ x_25) ∧
 ((x_25 < (@Nat.cast Int _ (List.length (Img.bytes b)))) ∧
 ((@Eq (Option Int) ((Img.bytes b))[(Int.toNat x_25)]? (some x_26)) ∧
 (¬ (@Eq (Option Int) ((Img.bytes a))[(Int.toNat x_25)]? (some x_26))))))) ∧
 (∀ (x_29 : Int), (∀ (x_30 : Int), ((((patOk a b) = true) ∧
 (((0 : Int) ≤ x_29) ∧
 ((x_29 < (@Nat.cast Int _ (List.length (Img.bytes b)))) ∧
 ((@Eq (Option Int) ((Img.bytes b))[(Int.toNat x_29)]? (some x_30)) ∧
 (¬ (@Eq (Option Int) ((Img.bytes a))[(Int.toNat x_29)]? (some x_30))))))) →
 ((((List.length (Img.bytes b)) - (Int.toNat x_29)) = ((List.length (Img.bytes b)) - (Int.toNat x_25))) →
 ((((0 : Int) ≤ ((@Nat.cast Int _ (List.length (preL (Img.base a) (Img.bytes a) (Img.bytes b) x_29))) - (1 : Int))) ∧
 (((@Nat.cast Int _ (List.length (preL (Img.base a) (Img.bytes a) (Img.bytes b) x_29))) - (1 : Int)) < (@Nat.cast Int _ (List.length (@List.map Patch (Prod Patch Bool) (fun (y_31 : Patch) => (@Prod.mk Patch Bool y_31 true)) (preL (Img.base a) (Img.bytes a) (Img.bytes b) x_29)))))) ∧
 ((∃ (y_32 : Patch), (@Eq (Option (Prod Patch Bool)) ((@List.map Patch (Prod Patch Bool) (fun (y_33 : Patch) => (@Prod.mk Patch Bool y_33 true)) (preL (Img.base a) (Img.bytes a) (Img.bytes b) x_29)))[(Int.toNat ((@Nat.cast Int _ (List.length (preL (Img.base a) (Img.bytes a) (Img.bytes b) x_29))) - (1 : Int)))]? (some (@Prod.mk Patch Bool y_32 true)))) ∧
 (∀ (x_34 : Patch), ((@Eq (Option (Prod Patch Bool)) ((@List.map Patch (Prod Patch Bool) (fun (y_35 : Patch) => (@Prod.mk Patch Bool y_35 true)) (preL (Img.base a) (Img.bytes a) (Img.bytes b) x_29)))[(Int.toNat ((@Nat.cast Int _ (List.length (preL (Img.base a) (Img.bytes a) (Img.bytes b) x_29))) - (1 : Int)))]? (some (@Prod.mk Patch Bool x_34 true))) →
 ((Ok (Ty.st SN.patch) x_34) →
 ((((((List.length (Patch.bytes x_34)) + (List.length [x_30])) * (1 : Nat)) ≤ (140737488355328 : Nat)) ∧
 (((List.length (Patch.bytes x_34)) + (List.length [x_30])) ≤ (1000000000000 : Nat))) ∧
 ((((0 : Int) ≤ ((@Nat.cast Int _ (List.length (preL (Img.base a) (Img.bytes a) (Img.bytes b) x_29))) - (1 : Int))) ∧
 (((@Nat.cast Int _ (List.length (preL (Img.base a) (Img.bytes a) (Img.bytes b) x_29))) - (1 : Int)) < (@Nat.cast Int _ (List.length (List.set (@List.map Patch (Prod Patch Bool) (fun (y_36 : Patch) => (@Prod.mk Patch Bool y_36 true)) (preL (Img.base a) (Img.bytes a) (Img.bytes b) x_29)) (Int.toNat ((@Nat.cast Int _ (List.length (preL (Img.base a) (Img.bytes a) (Img.bytes b) x_29))) - (1 : Int))) (@Prod.mk Patch Bool x_34 false)))))) ∧
 ((∃ (y_37 : Patch), (@Eq (Option (Prod Patch Bool)) ((List.set (@List.map Patch (Prod Patch Bool) (fun (y_38 : Patch) => (@Prod.mk Patch Bool y_38 true)) (preL (Img.base a) (Img.bytes a) (Img.bytes b) x_29)) (Int.toNat ((@Nat.cast Int _ (List.length (preL (Img.base a) (Img.bytes a) (Img.bytes b) x_29))) - (1 : Int))) (@Prod.mk Patch Bool x_34 false)))[(Int.toNat ((@Nat.cast Int _ (List.length (preL (Img.base a) (Img.bytes a) (Img.bytes b) x_29))) - (1 : Int)))]? (some (@Prod.mk Patch Bool y_37 false)))) ∧
 (∀ (x_39 : Patch), ((@Eq (Option (Prod Patch Bool)) ((List.set (@List.map Patch (Prod Patch Bool) (fun (y_40 : Patch) => (@Prod.mk Patch Bool y_40 true)) (preL (Img.base a) (Img.bytes a) (Img.bytes b) x_29)) (Int.toNat ((@Nat.cast Int _ (List.length (preL (Img.base a) (Img.bytes a) (Img.bytes b) x_29))) - (1 : Int))) (@Prod.mk Patch Bool x_34 false)))[(Int.toNat ((@Nat.cast Int _ (List.length (preL (Img.base a) (Img.bytes a) (Img.bytes b) x_29))) - (1 : Int)))]? (some (@Prod.mk Patch Bool x_39 false))) →
 ((((- (9223372036854775808 : Int)) ≤ (x_29 + (1 : Int))) ∧
 ((x_29 + (1 : Int)) ≤ (9223372036854775807 : Int))) ∧
 (∃ (x_41 : Int), ((@Eq (List (Prod Patch Bool)) (@List.map Patch (Prod Patch Bool) (fun (y_42 : Patch) => (@Prod.mk Patch Bool y_42 true)) (Prod.fst (pAt (Img.base a) (Img.bytes a) (Img.bytes b) (Int.toNat x_41)))) (List.set (List.set (@List.map Patch (Prod Patch Bool) (fun (y_43 : Patch) => (@Prod.mk Patch Bool y_43 true)) (preL (Img.base a) (Img.bytes a) (Img.bytes b) x_29)) (Int.toNat ((@Nat.cast Int _ (List.length (preL (Img.base a) (Img.bytes a) (Img.bytes b) x_29))) - (1 : Int))) (@Prod.mk Patch Bool x_34 false)) (Int.toNat ((@Nat.cast Int _ (List.length (preL (Img.base a) (Img.bytes a) (Img.bytes b) x_29))) - (1 : Int))) (@Prod.mk Patch Bool (Patch.mk (Patch.at_ x_39) ((Patch.bytes x_34) ++ [x_30])) true))) ∧
 (((x_29 + (1 : Int)) = x_41) ∧
 ((true = (Prod.snd (pAt (Img.base a) (Img.bytes a) (Img.bytes b) (Int.toNat x_41)))) ∧
 ((@Eq (List Int) (Img.bytes b) (Img.bytes b)) ∧
 (((@Nat.cast Int _ (List.length (Img.bytes b))) = (@Nat.cast Int _ (List.length (Img.bytes b)))) ∧
 (((Img.base a) = (Img.base a)) ∧
 ((@Eq (List Int) (Img.bytes a) (Img.bytes a)) ∧
 (((Img.base b) = (Img.base b)) ∧
 ((@Eq (List Int) (Img.bytes b) (Img.bytes b)) ∧
 ((@Eq (List Patch) (Prod.fst (pAt (Img.base a) (Img.bytes a) (Img.bytes b) (Int.toNat x_41))) (Prod.fst (pAt (Img.base a) (Img.bytes a) (Img.bytes b) (Int.toNat x_41)))) ∧
 ((((patOk a b) = true) ∧
 (((0 : Int) ≤ x_41) ∧
 (x_41 ≤ (@Nat.cast Int _ (List.length (Img.bytes b)))))) ∧
 (((List.length (Img.bytes b)) - (Int.toNat x_41)) < ((List.length (Img.bytes b)) - (Int.toNat x_2))))))))))))))))))))))))))))))))))))))))))))))) ∧
 (((decide (x_4 ≠ x_3)) = false) →
 ((((- (9223372036854775808 : Int)) ≤ (x_2 + (1 : Int))) ∧
 ((x_2 + (1 : Int)) ≤ (9223372036854775807 : Int))) ∧
 (∃ (x_44 : Int), (((x_2 + (1 : Int)) = x_44) ∧
 (((decide (x_4 ≠ x_3)) = (Prod.snd (pAt (Img.base a) (Img.bytes a) (Img.bytes b) (Int.toNat x_44)))) ∧
 ((@Eq (List Int) (Img.bytes b) (Img.bytes b)) ∧
 (((@Nat.cast Int _ (List.length (Img.bytes b))) = (@Nat.cast Int _ (List.length (Img.bytes b)))) ∧
 (((Img.base a) = (Img.base a)) ∧
 ((@Eq (List Int) (Img.bytes a) (Img.bytes a)) ∧
 (((Img.base b) = (Img.base b)) ∧
 ((@Eq (List Int) (Img.bytes b) (Img.bytes b)) ∧
 ((@Eq (List Patch) (Prod.fst (pAt (Img.base a) (Img.bytes a) (Img.bytes b) (Int.toNat x_2))) (Prod.fst (pAt (Img.base a) (Img.bytes a) (Img.bytes b) (Int.toNat x_44)))) ∧
 ((((patOk a b) = true) ∧
 (((0 : Int) ≤ x_44) ∧
 (x_44 ≤ (@Nat.cast Int _ (List.length (Img.bytes b)))))) ∧
 (((List.length (Img.bytes b)) - (Int.toNat x_44)) < ((List.length (Img.bytes b)) - (Int.toNat x_2)))))))))))))))))))) ∧
 (((decide (x_4 ≠ x_3)) = false) →
 ((((decide (x_4 ≠ x_3)) = true) →
 (((List.length (Prod.fst (pAt (Img.base a) (Img.bytes a) (Img.bytes b) (Int.toNat x_2)))) ≤ (9223372036854775807 : Nat)) →
 ((((- (9223372036854775808 : Int)) ≤ ((@Nat.cast Int _ (List.length (Prod.fst (pAt (Img.base a) (Img.bytes a) (Img.bytes b) (Int.toNat x_2))))) - (1 : Int))) ∧
 (((@Nat.cast Int _ (List.length (Prod.fst (pAt (Img.base a) (Img.bytes a) (Img.bytes b) (Int.toNat x_2))))) - (1 : Int)) ≤ (9223372036854775807 : Int))) ∧
 (∃ (x_45 : Int), (∃ (x_46 : Int), ((x_2 = x_45) ∧
 ((x_3 = x_46) ∧
 (((decide (x_4 ≠ x_3)) = true) ∧
 ((((@Nat.cast Int _ (List.length (Prod.fst (pAt (Img.base a) (Img.bytes a) (Img.bytes b) (Int.toNat x_2))))) - (1 : Int)) = ((@Nat.cast Int _ (List.length (preL (Img.base a) (Img.bytes a) (Img.bytes b) x_45))) - (1 : Int))) ∧
 ((@Eq (List Int) (Img.bytes b) (Img.bytes b)) ∧
 (((@Nat.cast Int _ (List.length (Img.bytes b))) = (@Nat.cast Int _ (List.length (Img.bytes b)))) ∧
 (((Img.base a) = (Img.base a)) ∧
 ((@Eq (List Int) (Img.bytes a) (Img.bytes a)) ∧
 (((Img.base b) = (Img.base b)) ∧
 ((@Eq (List Int) (Img.bytes b) (Img.bytes b)) ∧
 ((@Eq (List (Prod Patch Bool)) (@List.map Patch (Prod Patch Bool) (fun (y_47 : Patch) => (@Prod.mk Patch Bool y_47 true)) (Prod.fst (pAt (Img.base a) (Img.bytes a) (Img.bytes b) (Int.toNat x_2)))) (@List.map Patch (Prod Patch Bool) (fun (y_48 : Patch) => (@Prod.mk Patch Bool y_48 true)) (preL (Img.base a) (Img.bytes a) (Img.bytes b) x_45))) ∧
 ((((patOk a b) = true) ∧
 (((0 : Int) ≤ x_45) ∧
 ((x_45 < (@Nat.cast Int _ (List.length (Img.bytes b)))) ∧
 ((@Eq (Option Int) ((Img.bytes b))[(Int.toNat x_45)]? (some x_46)) ∧
 (¬ (@Eq (Option Int) ((Img.bytes a))[(Int.toNat x_45)]? (some x_46))))))) ∧
 (∀ (x_49 : Int), (∀ (x_50 : Int), ((((patOk a b) = true) ∧
 (((0 : Int) ≤ x_49) ∧
 ((x_49 < (@Nat.cast Int _ (List.length (Img.bytes b)))) ∧
 ((@Eq (Option Int) ((Img.bytes b))[(Int.toNat x_49)]? (some x_50)) ∧
 (¬ (@Eq (Option Int) ((Img.bytes a))[(Int.toNat x_49)]? (some x_50))))))) →
 ((((List.length (Img.bytes b)) - (Int.toNat x_49)) = ((List.length (Img.bytes b)) - (Int.toNat x_45))) →
 ((((0 : Int) ≤ ((@Nat.cast Int _ (List.length (preL (Img.base a) (Img.bytes a) (Img.bytes b) x_49))) - (1 : Int))) ∧
 (((@Nat.cast Int _ (List.length (preL (Img.base a) (Img.bytes a) (Img.bytes b) x_49))) - (1 : Int)) < (@Nat.cast Int _ (List.length (@List.map Patch (Prod Patch Bool) (fun (y_51 : Patch) => (@Prod.mk Patch Bool y_51 true)) (preL (Img.base a) (Img.bytes a) (Img.bytes b) x_49)))))) ∧
 ((∃ (y_52 : Patch), (@Eq (Option (Prod Patch Bool)) ((@List.map Patch (Prod Patch Bool) (fun (y_53 : Patch) => (@Prod.mk Patch Bool y_53 true)) (preL (Img.base a) (Img.bytes a) (Img.bytes b) x_49)))[(Int.toNat ((@Nat.cast Int _ (List.length (preL (Img.base a) (Img.bytes a) (Img.bytes b) x_49))) - (1 : Int)))]? (some (@Prod.mk Patch Bool y_52 true)))) ∧
 (∀ (x_54 : Patch), ((@Eq (Option (Prod Patch Bool)) ((@List.map Patch (Prod Patch Bool) (fun (y_55 : Patch) => (@Prod.mk Patch Bool y_55 true)) (preL (Img.base a) (Img.bytes a) (Img.bytes b) x_49)))[(Int.toNat ((@Nat.cast Int _ (List.length (preL (Img.base a) (Img.bytes a) (Img.bytes b) x_49))) - (1 : Int)))]? (some (@Prod.mk Patch Bool x_54 true))) →
 ((Ok (Ty.st SN.patch) x_54) →
 ((((((List.length (Patch.bytes x_54)) + (List.length [x_50])) * (1 : Nat)) ≤ (140737488355328 : Nat)) ∧
 (((List.length (Patch.bytes x_54)) + (List.length [x_50])) ≤ (1000000000000 : Nat))) ∧
 ((((0 : Int) ≤ ((@Nat.cast Int _ (List.length (preL (Img.base a) (Img.bytes a) (Img.bytes b) x_49))) - (1 : Int))) ∧
 (((@Nat.cast Int _ (List.length (preL (Img.base a) (Img.bytes a) (Img.bytes b) x_49))) - (1 : Int)) < (@Nat.cast Int _ (List.length (List.set (@List.map Patch (Prod Patch Bool) (fun (y_56 : Patch) => (@Prod.mk Patch Bool y_56 true)) (preL (Img.base a) (Img.bytes a) (Img.bytes b) x_49)) (Int.toNat ((@Nat.cast Int _ (List.length (preL (Img.base a) (Img.bytes a) (Img.bytes b) x_49))) - (1 : Int))) (@Prod.mk Patch Bool x_54 false)))))) ∧
 ((∃ (y_57 : Patch), (@Eq (Option (Prod Patch Bool)) ((List.set (@List.map Patch (Prod Patch Bool) (fun (y_58 : Patch) => (@Prod.mk Patch Bool y_58 true)) (preL (Img.base a) (Img.bytes a) (Img.bytes b) x_49)) (Int.toNat ((@Nat.cast Int _ (List.length (preL (Img.base a) (Img.bytes a) (Img.bytes b) x_49))) - (1 : Int))) (@Prod.mk Patch Bool x_54 false)))[(Int.toNat ((@Nat.cast Int _ (List.length (preL (Img.base a) (Img.bytes a) (Img.bytes b) x_49))) - (1 : Int)))]? (some (@Prod.mk Patch Bool y_57 false)))) ∧
 (∀ (x_59 : Patch), ((@Eq (Option (Prod Patch Bool)) ((List.set (@List.map Patch (Prod Patch Bool) (fun (y_60 : Patch) => (@Prod.mk Patch Bool y_60 true)) (preL (Img.base a) (Img.bytes a) (Img.bytes b) x_49)) (Int.toNat ((@Nat.cast Int _ (List.length (preL (Img.base a) (Img.bytes a) (Img.bytes b) x_49))) - (1 : Int))) (@Prod.mk Patch Bool x_54 false)))[(Int.toNat ((@Nat.cast Int _ (List.length (preL (Img.base a) (Img.bytes a) (Img.bytes b) x_49))) - (1 : Int)))]? (some (@Prod.mk Patch Bool x_59 false))) →
 ((((- (9223372036854775808 : Int)) ≤ (x_49 + (1 : Int))) ∧
 ((x_49 + (1 : Int)) ≤ (9223372036854775807 : Int))) ∧
 (∃ (x_61 : Int), ((@Eq (List (Prod Patch Bool)) (@List.map Patch (Prod Patch Bool) (fun (y_62 : Patch) => (@Prod.mk Patch Bool y_62 true)) (Prod.fst (pAt (Img.base a) (Img.bytes a) (Img.bytes b) (Int.toNat x_61)))) (List.set (List.set (@List.map Patch (Prod Patch Bool) (fun (y_63 : Patch) => (@Prod.mk Patch Bool y_63 true)) (preL (Img.base a) (Img.bytes a) (Img.bytes b) x_49)) (Int.toNat ((@Nat.cast Int _ (List.length (preL (Img.base a) (Img.bytes a) (Img.bytes b) x_49))) - (1 : Int))) (@Prod.mk Patch Bool x_54 false)) (Int.toNat ((@Nat.cast Int _ (List.length (preL (Img.base a) (Img.bytes a) (Img.bytes b) x_49))) - (1 : Int))) (@Prod.mk Patch Bool (Patch.mk (Patch.at_ x_59) ((Patch.bytes x_54) ++ [x_50])) true))) ∧
 (((x_49 + (1 : Int)) = x_61) ∧
 ((true = (Prod.snd (pAt (Img.base a) (Img.bytes a) (Img.bytes b) (Int.toNat x_61)))) ∧
 ((@Eq (List Int) (Img.bytes b) (Img.bytes b)) ∧
 (((@Nat.cast Int _ (List.length (Img.bytes b))) = (@Nat.cast Int _ (List.length (Img.bytes b)))) ∧
 (((Img.base a) = (Img.base a)) ∧
 ((@Eq (List Int) (Img.bytes a) (Img.bytes a)) ∧
 (((Img.base b) = (Img.base b)) ∧
 ((@Eq (List Int) (Img.bytes b) (Img.bytes b)) ∧
 ((@Eq (List Patch) (Prod.fst (pAt (Img.base a) (Img.bytes a) (Img.bytes b) (Int.toNat x_61))) (Prod.fst (pAt (Img.base a) (Img.bytes a) (Img.bytes b) (Int.toNat x_61)))) ∧
 ((((patOk a b) = true) ∧
 (((0 : Int) ≤ x_61) ∧
 (x_61 ≤ (@Nat.cast Int _ (List.length (Img.bytes b)))))) ∧
 (((List.length (Img.bytes b)) - (Int.toNat x_61)) < ((List.length (Img.bytes b)) - (Int.toNat x_2))))))))))))))))))))))))))))))))))))))))))))))) ∧
 (((decide (x_4 ≠ x_3)) = false) →
 ((((- (9223372036854775808 : Int)) ≤ (x_2 + (1 : Int))) ∧
 ((x_2 + (1 : Int)) ≤ (9223372036854775807 : Int))) ∧
 (∃ (x_64 : Int), (((x_2 + (1 : Int)) = x_64) ∧
 (((decide (x_4 ≠ x_3)) = (Prod.snd (pAt (Img.base a) (Img.bytes a) (Img.bytes b) (Int.toNat x_64)))) ∧
 ((@Eq (List Int) (Img.bytes b) (Img.bytes b)) ∧
 (((@Nat.cast Int _ (List.length (Img.bytes b))) = (@Nat.cast Int _ (List.length (Img.bytes b)))) ∧
 (((Img.base a) = (Img.base a)) ∧
 ((@Eq (List Int) (Img.bytes a) (Img.bytes a)) ∧
 (((Img.base b) = (Img.base b)) ∧
 ((@Eq (List Int) (Img.bytes b) (Img.bytes b)) ∧
 ((@Eq (List Patch) (Prod.fst (pAt (Img.base a) (Img.bytes a) (Img.bytes b) (Int.toNat x_2))) (Prod.fst (pAt (Img.base a) (Img.bytes a) (Img.bytes b) (Int.toNat x_64)))) ∧
 ((((patOk a b) = true) ∧
 (((0 : Int) ≤ x_64) ∧
 (x_64 ≤ (@Nat.cast Int _ (List.length (Img.bytes b)))))) ∧
 (((List.length (Img.bytes b)) - (Int.toNat x_64)) < ((List.length (Img.bytes b)) - (Int.toNat x_2)))))))))))))))))))))))))))) ∧
 (((decide (x_2 < (@Nat.cast Int _ (List.length (Img.bytes b))))) = false) →
 ((true = (patOk a b)) ∧
 ((@Eq (List Patch) (Prod.fst (pAt (Img.base a) (Img.bytes a) (Img.bytes b) (Int.toNat x_2))) (pats a b)) ∧
 True))))))))))))))))))) := by kernel_rfl
theorem det_impl_PatchesOf : C_impl_PatchesOf.det = true → ∀ x, (C_impl_PatchesOf.out x).Det := fun _ x => by simp only [C_impl_PatchesOf]; repeat (first | exact Det.ret _ | exact Det.vc' | apply Det.req | apply Det.giv | apply Det.fork | apply Det.bif' | intro _)
set_option maxRecDepth 200000 in
set_option maxHeartbeats 1000000 in
theorem ok_impl_PatchesOf : ConOK Try.prog 16 C_impl_PatchesOf := by
  refine con_mk (wr := false) (ty := tyL [(3, .i), (5, .u), (4, .bool), (9, .str), (126, .int .u64), (45, .st .fixup), (24, .st .img), (91, .st .patch), (65, .st .hash), (63, .list .i), (61, .list .str), (22, .list .u), (41, .st .fixup), (33, .st .img), (72, .st .hash)]) (l := [(67, C_impl_ImageValid)]) ⟨⟨ok_impl_ImageValid, det_impl_ImageValid⟩, trivial⟩ Try.checked.mixed (fn := Try.f16) (body := Try.f16.body.getD .skip) Try.func16 rfl (by decide) (by kernel_rfl) rfl an_impl_PatchesOf fun x ho hx => ?_
  obtain ⟨a, b, ⟨⟩⟩ := x
  refine Keeps.of (vc_impl_PatchesOf a b) ?_
  revert a b ho hx
  show ∀ (a : Img) (b : Img), _
  intro a b ho hx
  dsimp only [C_impl_PatchesOf, okPTL, okPT, Ok, Ty.cells, SN.cells, OkL, OkC, okI, ci, cb, cs, cl] at ho
  dsimp only [C_impl_PatchesOf, vc, v1, decB, SR.pre] at hx
  cases hp : patOk a b with
  | false =>
    have hno := pats_no hp
    have hpo : ¬ (imgOk a ∧ imgOk b ∧ a.base = b.base ∧ a.bytes.length = b.bytes.length) := fun h => by rw [patOk_iff.2 h] at hp; cases hp
    simp only [decide_eq_true_eq, decide_eq_false_iff_not, Bool.not_eq_true', Bool.not_eq_false', and_true, true_and, Int.toNat_natCast, exists_eq_left', exists_eq_left, exists_and_left, Int.not_lt, Int.not_le, Bool.false_eq_true, false_implies, implies_true, forall_const, List.length_append, List.length_cons, List.length_nil, Int.sub_add_cancel, Int.add_sub_cancel, and_imp, get_set_iff, forall_eq', forall_eq, List.set_set, mkd_get, mkd_len, List.length_set, Option.some.injEq]; (repeat' first | intro _ | apply And.intro); all_goals (try omega)
    all_goals first | exact hno.symm | (exfalso; omega) | (exfalso; apply hpo; refine ⟨?_, ?_, ?_, ?_⟩ <;> first | assumption | omega)
  | true =>
    obtain ⟨i1, i2, i3, i4⟩ := patOk_iff.1 hp
    have hb1 := imgOk_bd i1
    have lenb : ∀ i : Int, i ≤ b.bytes.length → (pAt a.base a.bytes b.bytes i.toNat).1.length ≤ 2000 := fun i h => Nat.le_trans (pAt_len _).1 (by omega)
    simp only [hol_get, ex_get, get_set_iff, List.length_map, List.length_set, Prod.mk.injEq, and_true, true_and, List.length_append, List.length_cons, List.length_nil]
    simp only [decide_eq_true_eq, decide_eq_false_iff_not, Bool.not_eq_true', Bool.not_eq_false', and_true, true_and, Int.toNat_natCast, exists_eq_left', exists_eq_left, exists_and_left, Int.not_lt, Int.not_le, Bool.false_eq_true, false_implies, implies_true, forall_const, List.length_append, List.length_cons, List.length_nil, Int.sub_add_cancel, Int.add_sub_cancel, and_imp, get_set_iff, forall_eq', forall_eq, List.set_set, mkd_get, mkd_len, List.length_set, Option.some.injEq]; (repeat' first | intro _ | apply And.intro); all_goals (try omega)
    all_goals (try omega)
    all_goals first
      | contradiction
      | exact absurd i1 ‹_›
      | exact absurd i2 ‹_›
      | rfl
      | exact ⟨_, rfl⟩
      | exact (pats_yes hp (by omega) (by omega))
      | exact (pAt_diff (by assumption) (by assumption) (by assumption)).symm
      | (have h1 := lenb _ (Int.le_of_lt ‹_ < ((b.bytes.length : Nat) : Int)›); omega)
      | (have := (preL_diff (base := a.base) i4 (by assumption) ‹b.bytes[_]? = some _› (by assumption)).1; omega)
      | (have h1 := preL_bytes (by assumption); omega)
      | (rw [preL_new ‹_›, i3]; done)
      | (rw [preL_new ‹_›]; simp; done)
      | (rw [preL_more ‹_›]; done)
      | (rw [pAt_same (x := _) (by assumption) ‹a.bytes[_]? = some _› (by grind)]; done)
      | (refine ⟨_, ?_, rfl, ?_, by omega, by omega⟩
         · obtain ⟨p1, p2, p3, p4⟩ := preL_diff (base := a.base) i4 (by assumption) ‹b.bytes[_]? = some _› (by assumption)
           subst_vars
           rw [preL_get _ _ (by assumption) p1, p3]
         · exact (preL_diff (base := a.base) i4 (by assumption) ‹b.bytes[_]? = some _› (by assumption)).2.2.2.symm)
      | (refine ⟨_, ?_, rfl, by omega, by omega⟩
         obtain ⟨p1, p2, p3, p4⟩ := preL_diff (base := a.base) i4 (by assumption) ‹b.bytes[_]? = some _› (by assumption)
         subst_vars
         rw [preL_get _ _ (by assumption) p1, p3])
      | (have hn := ‹_ ≠ _›; exact ns_ (by assumption) hn (by assumption))
      | skip
def C_spec_PatchesOf : Con := { ps := [.ro (.st .img), .ro (.st .img)], out := fun x => let a : Img := x.1; let b : Img := x.2.1; .req (a.bytes.length ≤ 1048576 ∧ b.bytes.length ≤ 1048576) (newLB (.st .patch) (pats a b) (patOk a b)), det := true }
def G_spec_PatchesOf : Cfg := mkG (tyL [(3, .i), (5, .u), (4, .bool), (9, .str), (126, .int .u64), (45, .st .fixup), (24, .st .img), (91, .st .patch), (65, .st .hash), (63, .list .i), (61, .list .str), (22, .list .u), (41, .st .fixup), (33, .st .img), (72, .st .hash)]) [(68, C_spec_l1OwnImage), (69, C_spec_ImageValid)] false
def an_spec_PatchesOf : PTL C_spec_PatchesOf.ps → Nat → Option Ann := fun x kk_ => let a : Img := x.1; let b : Img := x.2.1; if kk_ = 7 then some (.all (Int) fun i => .giv (patOk a b = true ∧ 0 ≤ i ∧ i ≤ a.bytes.length) (.mk [(7, ai i), (2, aref 62), (3, aref 63), (6, asl 20)] [(62, bx (ast .img a)), (63, bx (ast .img b)), (20, .row (some 91) (.st .patch) (pAt a.base a.bytes b.bytes i.toNat).1 true)] ((a.bytes.length - i.toNat)))) else if kk_ = 1012 then some (.all (Int) fun i => .giv (patOk a b = true ∧ 0 ≤ i ∧ i < b.bytes.length ∧ (∀ x, b.bytes[i.toNat]? = some x → ¬ a.bytes[i.toNat]? = some x) ∧ (pAt a.base a.bytes b.bytes i.toNat).2 = true) (.mk [(7, ai i), (2, aref 62), (3, aref 63), (6, asl 20), (8, ai ((preL a.base a.bytes b.bytes i).length - 1))] [(62, bx (ast .img a)), (63, bx (ast .img b)), (20, .row (some 91) (.hol .patch) ((preL a.base a.bytes b.bytes i).map fun y => (y, true)) true)] ((a.bytes.length - i.toNat)))) else none
set_option maxRecDepth 200000 in
theorem vc_spec_PatchesOf (a : Img) (b : Img) : (keeps Try.prog G_spec_PatchesOf (an_spec_PatchesOf (a, b, ())) (Try.f17.body.getD .skip) Try.f17.results.toList C_spec_PatchesOf (a, b, ())) = ((((List.length (Img.bytes a)) ≤ (1048576 : Nat)) ∧
 (((List.length (Img.bytes b)) ≤ (1048576 : Nat)) ∧
 ((((Bool.not (decide (imgOk a))) = true) →
 ((false = (patOk a b)) ∧
 ((@Eq (List Patch) ([] : List Patch) (pats a b)) ∧
 True))) ∧
 (((Bool.not (decide (imgOk a))) = false) →
 ((((Bool.not (decide (imgOk b))) = true) →
 ((false = (patOk a b)) ∧
 ((@Eq (List Patch) ([] : List Patch) (pats a b)) ∧
 True))) ∧
 (((Bool.not (decide (imgOk b))) = false) →
 ((((decide ((Img.base a) ≠ (Img.base b))) = true) →
 ((false = (patOk a b)) ∧
 ((@Eq (List Patch) ([] : List Patch) (pats a b)) ∧
 True))) ∧
 (((decide ((Img.base a) ≠ (Img.base b))) = false) →
 (((List.length (Img.bytes a)) ≤ (9223372036854775807 : Nat)) →
 (((List.length (Img.bytes b)) ≤ (9223372036854775807 : Nat)) →
 ((((decide ((@Nat.cast Int _ (List.length (Img.bytes a))) ≠ (@Nat.cast Int _ (List.length (Img.bytes b))))) = true) →
 ((false = (patOk a b)) ∧
 ((@Eq (List Patch) ([] : List Patch) (pats a b)) ∧
 True))) ∧
 (((decide ((@Nat.cast Int _ (List.length (Img.bytes a))) ≠ (@Nat.cast Int _ (List.length (Img.bytes b))))) = false) →
 ((∃ (x_1 : Int), (((0 : Int) = x_1) ∧
 (((Img.base a) = (Img.base a)) ∧
 ((@Eq (List Int) (Img.bytes a) (Img.bytes a)) ∧
 (((Img.base b) = (Img.base b)) ∧
 ((@Eq (List Int) (Img.bytes b) (Img.bytes b)) ∧
 ((@Eq (List Patch) ([] : List Patch) (Prod.fst (pAt (Img.base a) (Img.bytes a) (Img.bytes b) (Int.toNat x_1)))) ∧
 ((((patOk a b) = true) ∧
 (((0 : Int) ≤ x_1) ∧
 (x_1 ≤ (@Nat.cast Int _ (List.length (Img.bytes a)))))) ∧
 True)))))))) ∧
 (∀ (x_2 : Int), ((((patOk a b) = true) ∧
 (((0 : Int) ≤ x_2) ∧
 (x_2 ≤ (@Nat.cast Int _ (List.length (Img.bytes a)))))) →
 (((List.length (Img.bytes a)) ≤ (9223372036854775807 : Nat)) →
 ((((decide (x_2 < (@Nat.cast Int _ (List.length (Img.bytes a))))) = true) →
 ((((0 : Int) ≤ x_2) ∧
 (x_2 < (@Nat.cast Int _ (List.length (Img.bytes a))))) ∧
 (∀ (x_3 : Int), ((@Eq (Option Int) ((Img.bytes a))[(Int.toNat x_2)]? (some x_3)) →
 ((Ok (Ty.int IntKind.u8) x_3) →
 ((((0 : Int) ≤ x_2) ∧
 (x_2 < (@Nat.cast Int _ (List.length (Img.bytes b))))) ∧
 (∀ (x_4 : Int), ((@Eq (Option Int) ((Img.bytes b))[(Int.toNat x_2)]? (some x_4)) →
 ((Ok (Ty.int IntKind.u8) x_4) →
 ((((decide (x_3 = x_4)) = true) →
 ((((- (9223372036854775808 : Int)) ≤ (x_2 + (1 : Int))) ∧
 ((x_2 + (1 : Int)) ≤ (9223372036854775807 : Int))) ∧
 (∃ (x_5 : Int), (((x_2 + (1 : Int)) = x_5) ∧
 (((Img.base a) = (Img.base a)) ∧
 ((@Eq (List Int) (Img.bytes a) (Img.bytes a)) ∧
 (((Img.base b) = (Img.base b)) ∧
 ((@Eq (List Int) (Img.bytes b) (Img.bytes b)) ∧
 ((@Eq (List Patch) (Prod.fst (pAt (Img.base a) (Img.bytes a) (Img.bytes b) (Int.toNat x_2))) (Prod.fst (pAt (Img.base a) (Img.bytes a) (Img.bytes b) (Int.toNat x_5)))) ∧
 ((((patOk a b) = true) ∧
 (((0 : Int) ≤ x_5) ∧
 (x_5 ≤ (@Nat.cast Int _ (List.length (Img.bytes a)))))) ∧
 (((List.length (Img.bytes a)) - (Int.toNat x_5)) < ((List.length (Img.bytes a)) - (Int.toNat x_2))))))))))))) ∧
 (((decide (x_3 = x_4)) = false) →
 ((((decide ((0 : Int) < x_2)) = true) →
 ((((- (9223372036854775808 : Int)) ≤ (x_2 - (1 : Int))) ∧
 ((x_2 - (1 : Int)) ≤ (9223372036854775807 : Int))) ∧
 ((((0 : Int) ≤ (x_2 - (1 : Int))) ∧
 ((x_2 - (1 : Int)) < (@Nat.cast Int _ (List.length (Img.bytes a))))) ∧
 (∀ (x_6 : Int), ((@Eq (Option Int) ((Img.bytes a))[(Int.toNat (x_2 - (1 : Int)))]? (some x_6)) →
 ((Ok (Ty.int IntKind.u8) x_6) →
 ((((- (9223372036854775808 : Int)) ≤ (x_2 - (1 : Int))) ∧
 ((x_2 - (1 : Int)) ≤ (9223372036854775807 : Int))) ∧
 ((((0 : Int) ≤ (x_2 - (1 : Int))) ∧
 ((x_2 - (1 : Int)) < (@Nat.cast Int _ (List.length (Img.bytes b))))) ∧
 (∀ (x_7 : Int), ((@Eq (Option Int) ((Img.bytes b))[(Int.toNat (x_2 - (1 : Int)))]? (some x_7)) →
 ((Ok (Ty.int IntKind.u8) x_7) →
 ((((decide (x_6 ≠ x_7)) = true) →
 (((List.length (Prod.fst (pAt (Img.base a) (Img.bytes a) (Img.bytes b) (Int.toNat x_2)))) ≤ (9223372036854775807 : Nat)) →
 ((((- (9223372036854775808 : Int)) ≤ ((@Nat.cast Int _ (List.length (Prod.fst (pAt (Img.base a) (Img.bytes a) (Img.bytes b) (Int.toNat x_2))))) - (1 : Int))) ∧
 (((@Nat.cast Int _ (List.length (Prod.fst (pAt (Img.base a) (Img.bytes a) (Img.bytes b) (Int.toNat x_2))))) - (1 : Int)) ≤ (9223372036854775807 : Int))) ∧
 (∃ (x_8 : Int), ((x_2 = x_8) ∧
 ((((@Nat.cast Int _ (List.length (Prod.fst (pAt (Img.base a) (Img.bytes a) (Img.bytes b) (Int.toNat x_2))))) - (1 : Int)) = ((@Nat.cast Int _ (List.length (preL (Img.base a) (Img.bytes a) (Img.bytes b) x_8))) - (1 : Int))) ∧
 (((Img.base a) = (Img.base a)) ∧
 ((@Eq (List Int) (Img.bytes a) (Img.bytes a)) ∧
 (((Img.base b) = (Img.base b)) ∧
 ((@Eq (List Int) (Img.bytes b) (Img.bytes b)) ∧
 ((@Eq (List (Prod Patch Bool)) (@List.map Patch (Prod Patch Bool) (fun (y_9 : Patch) => (@Prod.mk Patch Bool y_9 true)) (Prod.fst (pAt (Img.base a) (Img.bytes a) (Img.bytes b) (Int.toNat x_2)))) (@List.map Patch (Prod Patch Bool) (fun (y_10 : Patch) => (@Prod.mk Patch Bool y_10 true)) (preL (Img.base a) (Img.bytes a) (Img.bytes b) x_8))) ∧
 ((((patOk a b) = true) ∧
 (((0 : Int) ≤ x_8) ∧
 ((x_8 < (@Nat.cast Int _ (List.length (Img.bytes b)))) ∧
 ((∀ (x_11 : Int), ((@Eq (Option Int) ((Img.bytes b))[(Int.toNat x_8)]? (some x_11)) →
 (¬ (@Eq (Option Int) ((Img.bytes a))[(Int.toNat x_8)]? (some x_11))))) ∧
 ((Prod.snd (pAt (Img.base a) (Img.bytes a) (Img.bytes b) (Int.toNat x_8))) = true))))) ∧
 (∀ (x_12 : Int), ((((patOk a b) = true) ∧
 (((0 : Int) ≤ x_12) ∧
 ((x_12 < (@Nat.cast Int _ (List.length (Img.bytes b)))) ∧
 ((∀ (x_13 : Int), ((@Eq (Option Int) ((Img.bytes b))[(Int.toNat x_12)]? (some x_13)) →
 (¬ (@Eq (Option Int) ((Img.bytes a))[(Int.toNat x_12)]? (some x_13))))) ∧
 ((Prod.snd (pAt (Img.base a) (Img.bytes a) (Img.bytes b) (Int.toNat x_12))) = true))))) →
 ((((List.length (Img.bytes a)) - (Int.toNat x_12)) = ((List.length (Img.bytes a)) - (Int.toNat x_8))) →
 ((((0 : Int) ≤ ((@Nat.cast Int _ (List.length (preL (Img.base a) (Img.bytes a) (Img.bytes b) x_12))) - (1 : Int))) ∧
 (((@Nat.cast Int _ (List.length (preL (Img.base a) (Img.bytes a) (Img.bytes b) x_12))) - (1 : Int)) < (@Nat.cast Int _ (List.length (@List.map Patch (Prod Patch Bool) (fun (y_14 : Patch) => (@Prod.mk Patch Bool y_14 true)) (preL (Img.base a) (Img.bytes a) (Img.bytes b) x_12)))))) ∧
 ((∃ (y_15 : Patch), (@Eq (Option (Prod Patch Bool)) ((@List.map Patch (Prod Patch Bool) (fun (y_16 : Patch) => (@Prod.mk Patch Bool y_16 true)) (preL (Img.base a) (Img.bytes a) (Img.bytes b) x_12)))[(Int.toNat ((@Nat.cast Int _ (List.length (preL (Img.base a) (Img.bytes a) (Img.bytes b) x_12))) - (1 : Int)))]? (some (@Prod.mk Patch Bool y_15 true)))) ∧
 (∀ (x_17 : Patch), ((@Eq (Option (Prod Patch Bool)) ((@List.map Patch (Prod Patch Bool) (fun (y_18 : Patch) => (@Prod.mk Patch Bool y_18 true)) (preL (Img.base a) (Img.bytes a) (Img.bytes b) x_12)))[(Int.toNat ((@Nat.cast Int _ (List.length (preL (Img.base a) (Img.bytes a) (Img.bytes b) x_12))) - (1 : Int)))]? (some (@Prod.mk Patch Bool x_17 true))) →
 ((Ok (Ty.st SN.patch) x_17) →
 ((((0 : Int) ≤ x_12) ∧
 (x_12 < (@Nat.cast Int _ (List.length (Img.bytes b))))) ∧
 (∀ (x_19 : Int), ((@Eq (Option Int) ((Img.bytes b))[(Int.toNat x_12)]? (some x_19)) →
 ((Ok (Ty.int IntKind.u8) x_19) →
 ((((((List.length (Patch.bytes x_17)) + (List.length [x_19])) * (1 : Nat)) ≤ (140737488355328 : Nat)) ∧
 (((List.length (Patch.bytes x_17)) + (List.length [x_19])) ≤ (1000000000000 : Nat))) ∧
 ((((0 : Int) ≤ ((@Nat.cast Int _ (List.length (preL (Img.base a) (Img.bytes a) (Img.bytes b) x_12))) - (1 : Int))) ∧
 (((@Nat.cast Int _ (List.length (preL (Img.base a) (Img.bytes a) (Img.bytes b) x_12))) - (1 : Int)) < (@Nat.cast Int _ (List.length (List.set (@List.map Patch (Prod Patch Bool) (fun (y_20 : Patch) => (@Prod.mk Patch Bool y_20 true)) (preL (Img.base a) (Img.bytes a) (Img.bytes b) x_12)) (Int.toNat ((@Nat.cast Int _ (List.length (preL (Img.base a) (Img.bytes a) (Img.bytes b) x_12))) - (1 : Int))) (@Prod.mk Patch Bool x_17 false)))))) ∧
 ((∃ (y_21 : Patch), (@Eq (Option (Prod Patch Bool)) ((List.set (@List.map Patch (Prod Patch Bool) (fun (y_22 : Patch) => (@Prod.mk Patch Bool y_22 true)) (preL (Img.base a) (Img.bytes a) (Img.bytes b) x_12)) (Int.toNat ((@Nat.cast Int _ (List.length (preL (Img.base a) (Img.bytes a) (Img.bytes b) x_12))) - (1 : Int))) (@Prod.mk Patch Bool x_17 false)))[(Int.toNat ((@Nat.cast Int _ (List.length (preL (Img.base a) (Img.bytes a) (Img.bytes b) x_12))) - (1 : Int)))]? (some (@Prod.mk Patch Bool y_21 false)))) ∧
 (∀ (x_23 : Patch), ((@Eq (Option (Prod Patch Bool)) ((List.set (@List.map Patch (Prod Patch Bool) (fun (y_24 : Patch) => (@Prod.mk Patch Bool y_24 true)) (preL (Img.base a) (Img.bytes a) (Img.bytes b) x_12)) (Int.toNat ((@Nat.cast Int _ (List.length (preL (Img.base a) (Img.bytes a) (Img.bytes b) x_12))) - (1 : Int))) (@Prod.mk Patch Bool x_17 false)))[(Int.toNat ((@Nat.cast Int _ (List.length (preL (Img.base a) (Img.bytes a) (Img.bytes b) x_12))) - (1 : Int)))]? (some (@Prod.mk Patch Bool x_23 false))) →
 ((((- (9223372036854775808 : Int)) ≤ (x_12 + (1 : Int))) ∧
 ((x_12 + (1 : Int)) ≤ (9223372036854775807 : Int))) ∧
 (∃ (x_25 : Int), ((@Eq (List (Prod Patch Bool)) (@List.map Patch (Prod Patch Bool) (fun (y_26 : Patch) => (@Prod.mk Patch Bool y_26 true)) (Prod.fst (pAt (Img.base a) (Img.bytes a) (Img.bytes b) (Int.toNat x_25)))) (List.set (List.set (@List.map Patch (Prod Patch Bool) (fun (y_27 : Patch) => (@Prod.mk Patch Bool y_27 true)) (preL (Img.base a) (Img.bytes a) (Img.bytes b) x_12)) (Int.toNat ((@Nat.cast Int _ (List.length (preL (Img.base a) (Img.bytes a) (Img.bytes b) x_12))) - (1 : Int))) (@Prod.mk Patch Bool x_17 false)) (Int.toNat ((@Nat.cast Int _ (List.length (preL (Img.base a) (Img.bytes a) (Img.bytes b) x_12))) - (1 : Int))) (@Prod.mk Patch Bool (Patch.mk (Patch.at_ x_23) ((Patch.bytes x_17) ++ [x_19])) true))) ∧
 (((x_12 + (1 : Int)) = x_25) ∧
 (((Img.base a) = (Img.base a)) ∧
 ((@Eq (List Int) (Img.bytes a) (Img.bytes a)) ∧
 (((Img.base b) = (Img.base b)) ∧
 ((@Eq (List Int) (Img.bytes b) (Img.bytes b)) ∧
 ((@Eq (List Patch) (Prod.fst (pAt (Img.base a) (Img.bytes a) (Img.bytes b) (Int.toNat x_25))) (Prod.fst (pAt (Img.base a) (Img.bytes a) (Img.bytes b) (Int.toNat x_25)))) ∧
 ((((patOk a b) = true) ∧
 (((0 : Int) ≤ x_25) ∧
 (x_25 ≤ (@Nat.cast Int _ (List.length (Img.bytes a)))))) ∧
 (((List.length (Img.bytes a)) - (Int.toNat x_25)) < ((List.length (Img.bytes a)) - (Int.toNat x_2)))))))))))))))))))))))))))))))))))))))))) ∧
 (((decide (x_6 ≠ x_7)) = false) →
 ((((- (9223372036854775808 : Int)) ≤ ((Img.base a) + x_2)) ∧
 (((Img.base a) + x_2) ≤ (9223372036854775807 : Int))) ∧
 ((((0 : Int) ≤ x_2) ∧
 (x_2 < (@Nat.cast Int _ (List.length (Img.bytes b))))) ∧
 (∀ (x_28 : Int), ((@Eq (Option Int) ((Img.bytes b))[(Int.toNat x_2)]? (some x_28)) →
 ((Ok (Ty.int IntKind.u8) x_28) →
 ((((((List.length (Prod.fst (pAt (Img.base a) (Img.bytes a) (Img.bytes b) (Int.toNat x_2)))) + (List.length [(Patch.mk ((Img.base a) + x_2) [x_28])])) * (32 : Nat)) ≤ (140737488355328 : Nat)) ∧
 (((List.length (Prod.fst (pAt (Img.base a) (Img.bytes a) (Img.bytes b) (Int.toNat x_2)))) + (List.length [(Patch.mk ((Img.base a) + x_2) [x_28])])) ≤ (1000000000000 : Nat))) ∧
 ((((- (9223372036854775808 : Int)) ≤ (x_2 + (1 : Int))) ∧
 ((x_2 + (1 : Int)) ≤ (9223372036854775807 : Int))) ∧
 (∃ (x_29 : Int), (((x_2 + (1 : Int)) = x_29) ∧
 (((Img.base a) = (Img.base a)) ∧
 ((@Eq (List Int) (Img.bytes a) (Img.bytes a)) ∧
 (((Img.base b) = (Img.base b)) ∧
 ((@Eq (List Int) (Img.bytes b) (Img.bytes b)) ∧
 ((@Eq (List Patch) ((Prod.fst (pAt (Img.base a) (Img.bytes a) (Img.bytes b) (Int.toNat x_2))) ++ [(Patch.mk ((Img.base a) + x_2) [x_28])]) (Prod.fst (pAt (Img.base a) (Img.bytes a) (Img.bytes b) (Int.toNat x_29)))) ∧
 ((((patOk a b) = true) ∧
 (((0 : Int) ≤ x_29) ∧
 (x_29 ≤ (@Nat.cast Int _ (List.length (Img.bytes a)))))) ∧
 (((List.length (Img.bytes a)) - (Int.toNat x_29)) < ((List.length (Img.bytes a)) - (Int.toNat x_2))))))))))))))))))))))))))))))) ∧
 (((decide ((0 : Int) < x_2)) = false) →
 ((((- (9223372036854775808 : Int)) ≤ ((Img.base a) + x_2)) ∧
 (((Img.base a) + x_2) ≤ (9223372036854775807 : Int))) ∧
 ((((0 : Int) ≤ x_2) ∧
 (x_2 < (@Nat.cast Int _ (List.length (Img.bytes b))))) ∧
 (∀ (x_30 : Int), ((@Eq (Option Int) ((Img.bytes b))[(Int.toNat x_2)]? (some x_30)) →
 ((Ok (Ty.int IntKind.u8) x_30) →
 ((((((List.length (Prod.fst (pAt (Img.base a) (Img.bytes a) (Img.bytes b) (Int.toNat x_2)))) + (List.length [(Patch.mk ((Img.base a) + x_2) [x_30])])) * (32 : Nat)) ≤ (140737488355328 : Nat)) ∧
 (((List.length (Prod.fst (pAt (Img.base a) (Img.bytes a) (Img.bytes b) (Int.toNat x_2)))) + (List.length [(Patch.mk ((Img.base a) + x_2) [x_30])])) ≤ (1000000000000 : Nat))) ∧
 ((((- (9223372036854775808 : Int)) ≤ (x_2 + (1 : Int))) ∧
 ((x_2 + (1 : Int)) ≤ (9223372036854775807 : Int))) ∧
 (∃ (x_31 : Int), (((x_2 + (1 : Int)) = x_31) ∧
 (((Img.base a) = (Img.base a)) ∧
 ((@Eq (List Int) (Img.bytes a) (Img.bytes a)) ∧
 (((Img.base b) = (Img.base b)) ∧
 ((@Eq (List Int) (Img.bytes b) (Img.bytes b)) ∧
 ((@Eq (List Patch) ((Prod.fst (pAt (Img.base a) (Img.bytes a) (Img.bytes b) (Int.toNat x_2))) ++ [(Patch.mk ((Img.base a) + x_2) [x_30])]) (Prod.fst (pAt (Img.base a) (Img.bytes a) (Img.bytes b) (Int.toNat x_31)))) ∧
 ((((patOk a b) = true) ∧
 (((0 : Int) ≤ x_31) ∧
 (x_31 ≤ (@Nat.cast Int _ (List.length (Img.bytes a)))))) ∧
 (((List.length (Img.bytes a)) - (Int.toNat x_31)) < ((List.length (Img.bytes a)) - (Int.toNat x_2))))))))))))))))))))))))))))))) ∧
 (((decide (x_2 < (@Nat.cast Int _ (List.length (Img.bytes a))))) = false) →
 ((true = (patOk a b)) ∧
 ((@Eq (List Patch) (Prod.fst (pAt (Img.base a) (Img.bytes a) (Img.bytes b) (Int.toNat x_2))) (pats a b)) ∧
 True))))))))))))))))))))) := by kernel_rfl
theorem det_spec_PatchesOf : C_spec_PatchesOf.det = true → ∀ x, (C_spec_PatchesOf.out x).Det := fun _ x => by simp only [C_spec_PatchesOf]; repeat (first | exact Det.ret _ | exact Det.vc' | apply Det.req | apply Det.giv | apply Det.fork | apply Det.bif' | intro _)
set_option maxRecDepth 200000 in
set_option maxHeartbeats 1000000 in
theorem ok_spec_PatchesOf : ConOK Try.prog 17 C_spec_PatchesOf := by
  refine con_mk (wr := false) (ty := tyL [(3, .i), (5, .u), (4, .bool), (9, .str), (126, .int .u64), (45, .st .fixup), (24, .st .img), (91, .st .patch), (65, .st .hash), (63, .list .i), (61, .list .str), (22, .list .u), (41, .st .fixup), (33, .st .img), (72, .st .hash)]) (l := [(68, C_spec_l1OwnImage), (69, C_spec_ImageValid)]) ⟨⟨ok_spec_l1OwnImage, det_spec_l1OwnImage⟩, ⟨⟨ok_spec_ImageValid, det_spec_ImageValid⟩, trivial⟩⟩ Try.checked.mixed (fn := Try.f17) (body := Try.f17.body.getD .skip) Try.func17 rfl (by decide) (by kernel_rfl) rfl an_spec_PatchesOf fun x ho hx => ?_
  obtain ⟨a, b, ⟨⟩⟩ := x
  refine Keeps.of (vc_spec_PatchesOf a b) ?_
  revert a b ho hx
  show ∀ (a : Img) (b : Img), _
  intro a b ho hx
  dsimp only [C_spec_PatchesOf, okPTL, okPT, Ok, Ty.cells, SN.cells, OkL, OkC, okI, ci, cb, cs, cl] at ho
  dsimp only [C_spec_PatchesOf, vc, v1, decB, SR.pre] at hx
  cases hp : patOk a b with
  | false =>
    have hno := pats_no hp
    have hpo : ¬ (imgOk a ∧ imgOk b ∧ a.base = b.base ∧ a.bytes.length = b.bytes.length) := fun h => by rw [patOk_iff.2 h] at hp; cases hp
    simp only [decide_eq_true_eq, decide_eq_false_iff_not, Bool.not_eq_true', Bool.not_eq_false', and_true, true_and, Int.toNat_natCast, exists_eq_left', exists_eq_left, exists_and_left, Int.not_lt, Int.not_le, Bool.false_eq_true, false_implies, implies_true, forall_const, List.length_append, List.length_cons, List.length_nil, Int.sub_add_cancel, Int.add_sub_cancel, and_imp, get_set_iff, forall_eq', forall_eq, List.set_set, mkd_get, mkd_len, List.length_set, Option.some.injEq]; (repeat' first | intro _ | apply And.intro); all_goals (try omega)
    all_goals first | exact hno.symm | (exfalso; omega) | (exfalso; apply hpo; refine ⟨?_, ?_, ?_, ?_⟩ <;> first | assumption | omega)
  | true =>
    obtain ⟨i1, i2, i3, i4⟩ := patOk_iff.1 hp
    have hb1 := imgOk_bd i1
    have lenb : ∀ i : Int, i ≤ a.bytes.length → (pAt a.base a.bytes b.bytes i.toNat).1.length ≤ 2000 := fun i h => Nat.le_trans (pAt_len _).1 (by omega)
    simp only [hol_get, ex_get, get_set_iff, List.length_map, List.length_set, Prod.mk.injEq, and_true, true_and, List.length_append, List.length_cons, List.length_nil]
    simp only [decide_eq_true_eq, decide_eq_false_iff_not, Bool.not_eq_true', Bool.not_eq_false', and_true, true_and, Int.toNat_natCast, exists_eq_left', exists_eq_left, exists_and_left, Int.not_lt, Int.not_le, Bool.false_eq_true, false_implies, implies_true, forall_const, List.length_append, List.length_cons, List.length_nil, Int.sub_add_cancel, Int.add_sub_cancel, and_imp, get_set_iff, forall_eq', forall_eq, List.set_set, mkd_get, mkd_len, List.length_set, Option.some.injEq]; (repeat' first | intro _ | apply And.intro); all_goals (try omega)
    all_goals (try omega)
    all_goals first
      | contradiction
      | exact absurd i1 ‹_›
      | exact absurd i2 ‹_›
      | rfl
      | exact ⟨_, rfl⟩
      | exact (pats_yes hp (by omega) (by omega))
      | (have h1 := lenb _ (Int.le_of_lt ‹_ < ((a.bytes.length : Nat) : Int)›); omega)
      | exact sp_same (by assumption) (by assumption) (by assumption) (by assumption)
      | exact sp_new1 (by assumption) (by assumption) (by assumption) (by assumption) (by assumption) (by assumption) (by assumption) (by assumption)
      | exact sp_new0 (by assumption) (by assumption) (by assumption) (by assumption) (by assumption) (by assumption)
      | exact pv_t (by assumption) (by assumption) (by assumption) (by assumption)
      | (rw [preL_more (pv_t (by assumption) (by assumption) (by assumption) (by assumption))]; done)
      | (have h1 := preL_pos (base := a.base) (a := a.bytes) (b := b.bytes) (by assumption); omega)
      | (have h1 := preL_bytes (by assumption); omega)
      | (rename_i q3 q13 q12 q4 q11 q10 q9 q8 q6 q7 q66 q77 q5 q44 q33 q22 q111 q1 q0; exact ns2 q9 q13 q11 q1 q0)
      | exact ⟨_, sp_fin (by assumption) i4 (by assumption) (by assumption) (by assumption) (by assumption), rfl, by omega, by omega⟩
      | skip
def C_impl_ApplyPatches : Con := { ps := [.ro (.st .img), .ro (.list (.st .patch))], out := fun x => let m : Img := x.1; let l : List (Patch) := x.2.1; newSB .img (apP m l) (patB m l), det := true }
def G_impl_ApplyPatches : Cfg := mkG (tyL [(3, .i), (5, .u), (4, .bool), (9, .str), (126, .int .u64), (45, .st .fixup), (24, .st .img), (91, .st .patch), (65, .st .hash), (63, .list .i), (61, .list .str), (22, .list .u), (41, .st .fixup), (33, .st .img), (72, .st .hash)]) [(35, C_impl_PatchesValid), (80, C_impl_copyImage)] false
def an_impl_ApplyPatches : PTL C_impl_ApplyPatches.ps → Nat → Option Ann := fun x kk_ => let m : Img := x.1; let l : List (Patch) := x.2.1; if kk_ = 5 then some (.all (Int) fun i => .giv (patB m l = true ∧ 0 ≤ i ∧ i ≤ l.length) (.mk [(18, ai i), (2, aref 62), (4, aref 64), (6, aref 31), (16, al (.st .patch) l), (17, ai (List.length l))] [(62, bx (ast .img m)), (64, bx (ast .img ⟨0, []⟩)), (31, .box false [.c (ci m.base), .sl 32 []]), (32, .row none .u (apB m.base (l.take i.toNat) m.bytes) true)] ((l.length - i.toNat)))) else none
set_option maxRecDepth 200000 in
theorem vc_impl_ApplyPatches (m : Img) (l : List (Patch)) : (keeps Try.prog G_impl_ApplyPatches (an_impl_ApplyPatches (m, l, ())) (Try.f34.body.getD .skip) Try.f34.results.toList C_impl_ApplyPatches (m, l, ())) = (((((Bool.not (patB m l)) = true) →
 (((0 : Int) = (Img.base (apP m l))) ∧
 ((false = (patB m l)) ∧
 ((@Eq (List Int) ([] : List Int) (Img.bytes (apP m l))) ∧
 True)))) ∧
 (((Bool.not (patB m l)) = false) →
 (((List.length (Img.bytes m)) ≤ (1048576 : Nat)) ∧
 (((List.length l) ≤ (9223372036854775807 : Nat)) →
 ((∃ (x_1 : Int), (((0 : Int) = x_1) ∧
 ((@Eq (List Patch) l l) ∧
 (((@Nat.cast Int _ (List.length l)) = (@Nat.cast Int _ (List.length l))) ∧
 (((Img.base m) = (Img.base m)) ∧
 ((@Eq (List Int) (Img.bytes m) (Img.bytes m)) ∧
 (((0 : Int) = (0 : Int)) ∧
 ((@Eq (List Int) ([] : List Int) ([] : List Int)) ∧
 (((Img.base m) = (Img.base m)) ∧
 ((@Eq (List Int) (Img.bytes m) (apB (Img.base m) (List.take (Int.toNat x_1) l) (Img.bytes m))) ∧
 ((((patB m l) = true) ∧
 (((0 : Int) ≤ x_1) ∧
 (x_1 ≤ (@Nat.cast Int _ (List.length l))))) ∧
 True))))))))))) ∧
 (∀ (x_2 : Int), ((((patB m l) = true) ∧
 (((0 : Int) ≤ x_2) ∧
 (x_2 ≤ (@Nat.cast Int _ (List.length l))))) →
 ((((decide (x_2 < (@Nat.cast Int _ (List.length l)))) = true) →
 ((((0 : Int) ≤ x_2) ∧
 (x_2 < (@Nat.cast Int _ (List.length l)))) ∧
 (∀ (x_3 : Patch), ((@Eq (Option Patch) (l)[(Int.toNat x_2)]? (some x_3)) →
 ((Ok (Ty.st SN.patch) x_3) →
 ((((- (9223372036854775808 : Int)) ≤ ((Patch.at_ x_3) - (Img.base m))) ∧
 (((Patch.at_ x_3) - (Img.base m)) ≤ (9223372036854775807 : Int))) ∧
 ((((0 : Int) ≤ ((Patch.at_ x_3) - (Img.base m))) ∧
 (((Patch.at_ x_3) - (Img.base m)) ≤ (@Nat.cast Int _ (List.length (apB (Img.base m) (List.take (Int.toNat x_2) l) (Img.bytes m)))))) ∧
 ((((Int.toNat ((Patch.at_ x_3) - (Img.base m))) + ((List.length (apB (Img.base m) (List.take (Int.toNat x_2) l) (Img.bytes m))) - (Int.toNat ((Patch.at_ x_3) - (Img.base m))))) ≤ (List.length (apB (Img.base m) (List.take (Int.toNat x_2) l) (Img.bytes m)))) →
 ((((- (9223372036854775808 : Int)) ≤ (x_2 + (1 : Int))) ∧
 ((x_2 + (1 : Int)) ≤ (9223372036854775807 : Int))) ∧
 (∃ (x_4 : Int), (((x_2 + (1 : Int)) = x_4) ∧
 ((@Eq (List Patch) l l) ∧
 (((@Nat.cast Int _ (List.length l)) = (@Nat.cast Int _ (List.length l))) ∧
 (((Img.base m) = (Img.base m)) ∧
 ((@Eq (List Int) (Img.bytes m) (Img.bytes m)) ∧
 (((0 : Int) = (0 : Int)) ∧
 ((@Eq (List Int) ([] : List Int) ([] : List Int)) ∧
 (((Img.base m) = (Img.base m)) ∧
 ((@Eq (List Int) (((List.take (Int.toNat ((Patch.at_ x_3) - (Img.base m))) (apB (Img.base m) (List.take (Int.toNat x_2) l) (Img.bytes m))) ++ (List.take ((List.length (apB (Img.base m) (List.take (Int.toNat x_2) l) (Img.bytes m))) - (Int.toNat ((Patch.at_ x_3) - (Img.base m)))) (Patch.bytes x_3))) ++ (List.drop ((Int.toNat ((Patch.at_ x_3) - (Img.base m))) + (@Min.min Nat _ (List.length (Patch.bytes x_3)) ((List.length (apB (Img.base m) (List.take (Int.toNat x_2) l) (Img.bytes m))) - (Int.toNat ((Patch.at_ x_3) - (Img.base m)))))) (apB (Img.base m) (List.take (Int.toNat x_2) l) (Img.bytes m)))) (apB (Img.base m) (List.take (Int.toNat x_4) l) (Img.bytes m))) ∧
 ((((patB m l) = true) ∧
 (((0 : Int) ≤ x_4) ∧
 (x_4 ≤ (@Nat.cast Int _ (List.length l))))) ∧
 (((List.length l) - (Int.toNat x_4)) < ((List.length l) - (Int.toNat x_2))))))))))))))))))))))) ∧
 (((decide (x_2 < (@Nat.cast Int _ (List.length l)))) = false) →
 (((Img.base m) = (Img.base (apP m l))) ∧
 ((true = (patB m l)) ∧
 ((@Eq (List Int) (apB (Img.base m) (List.take (Int.toNat x_2) l) (Img.bytes m)) (Img.bytes (apP m l))) ∧
 True))))))))))))) := by kernel_rfl
theorem det_impl_ApplyPatches : C_impl_ApplyPatches.det = true → ∀ x, (C_impl_ApplyPatches.out x).Det := fun _ x => by simp only [C_impl_ApplyPatches]; repeat (first | exact Det.ret _ | exact Det.vc' | apply Det.req | apply Det.giv | apply Det.fork | apply Det.bif' | intro _)
set_option maxRecDepth 200000 in
set_option maxHeartbeats 1000000 in
theorem ok_impl_ApplyPatches : ConOK Try.prog 34 C_impl_ApplyPatches := by
  refine con_mk (wr := false) (ty := tyL [(3, .i), (5, .u), (4, .bool), (9, .str), (126, .int .u64), (45, .st .fixup), (24, .st .img), (91, .st .patch), (65, .st .hash), (63, .list .i), (61, .list .str), (22, .list .u), (41, .st .fixup), (33, .st .img), (72, .st .hash)]) (l := [(35, C_impl_PatchesValid), (80, C_impl_copyImage)]) ⟨⟨ok_impl_PatchesValid, det_impl_PatchesValid⟩, ⟨⟨ok_impl_copyImage, det_impl_copyImage⟩, trivial⟩⟩ Try.checked.mixed (fn := Try.f34) (body := Try.f34.body.getD .skip) Try.func34 rfl (by decide) (by kernel_rfl) rfl an_impl_ApplyPatches fun x ho hx => ?_
  obtain ⟨m, l, ⟨⟩⟩ := x
  refine Keeps.of (vc_impl_ApplyPatches m l) ?_
  revert m l ho hx
  show ∀ (m : Img) (l : List (Patch)), _
  intro m l ho hx
  dsimp only [C_impl_ApplyPatches, okPTL, okPT, Ok, Ty.cells, SN.cells, OkL, OkC, okI, ci, cb, cs, cl] at ho
  dsimp only [C_impl_ApplyPatches, vc, v1, decB, SR.pre] at hx
  cases hp : patB m l with
  | false =>
    have e := apP_no hp
    simp only [decide_eq_true_eq, decide_eq_false_iff_not, Bool.not_eq_true', Bool.not_eq_false', and_true, true_and, Int.toNat_natCast, exists_eq_left', exists_eq_left, exists_and_left, Int.not_lt, Int.not_le, Bool.false_eq_true, false_implies, implies_true, forall_const, List.length_append, List.length_cons, List.length_nil, Int.sub_add_cancel, Int.add_sub_cancel, and_imp, get_set_iff, forall_eq', forall_eq, List.set_set, mkd_get, mkd_len, List.length_set, Option.some.injEq]; (repeat' first | intro _ | apply And.intro); all_goals (try omega)
    all_goals first | (rw [e]; done) | contradiction | omega | (simp only [e]; done) | skip
  | true =>
    have e := fun i => apP_yes (i := i) hp
    have hb := patB_bd hp
    have hf := fun i p => ap_fact (i := i) (p := p) hp
    simp only [decide_eq_true_eq, decide_eq_false_iff_not, Bool.not_eq_true', Bool.not_eq_false', and_true, true_and, Int.toNat_natCast, exists_eq_left', exists_eq_left, exists_and_left, Int.not_lt, Int.not_le, Bool.false_eq_true, false_implies, implies_true, forall_const, List.length_append, List.length_cons, List.length_nil, Int.sub_add_cancel, Int.add_sub_cancel, and_imp, get_set_iff, forall_eq', forall_eq, List.set_set, mkd_get, mkd_len, List.length_set, Option.some.injEq]; (repeat' first | intro _ | apply And.intro); all_goals (try omega)
    all_goals (try (have h1 := hf _ _ (by assumption)))
    all_goals first
      | omega
      | rfl
      | (rw [e _ (by assumption)]; done)
      | (rw [apB_next (by assumption) (by assumption)]; exact putP_copy (by omega) (by omega))
      | (exfalso; simp_all; done)
      | skip
def C_spec_l1OwnPatch : Con := { ps := [.ro (.st .patch)], out := fun x => let x : Patch := x.1; .req (x.bytes.length ≤ 1048576) (newS .patch x), det := true }
def G_spec_l1OwnPatch : Cfg := mkG (tyL [(3, .i), (5, .u), (4, .bool), (9, .str), (126, .int .u64), (45, .st .fixup), (24, .st .img), (91, .st .patch), (65, .st .hash), (63, .list .i), (61, .list .str), (22, .list .u), (41, .st .fixup), (33, .st .img), (72, .st .hash)]) [] false
def an_spec_l1OwnPatch : PTL C_spec_l1OwnPatch.ps → Nat → Option Ann := fun _ _ => none
set_option maxRecDepth 200000 in
theorem vc_spec_l1OwnPatch (x : Patch) : (keeps Try.prog G_spec_l1OwnPatch (an_spec_l1OwnPatch (x, ())) (Try.f111.body.getD .skip) Try.f111.results.toList C_spec_l1OwnPatch (x, ())) = (((((((0 : Nat) + (List.length (Patch.bytes x))) * (1 : Nat)) ≤ (140737488355328 : Nat)) ∧
 (((0 : Nat) + (List.length (Patch.bytes x))) ≤ (1000000000000 : Nat))) ∧
 (((Patch.at_ x) = (Patch.at_ x)) ∧
 ((@Eq (List Int) (Patch.bytes x) (Patch.bytes x)) ∧
 True)))) := by kernel_rfl
theorem det_spec_l1OwnPatch : C_spec_l1OwnPatch.det = true → ∀ x, (C_spec_l1OwnPatch.out x).Det := fun _ x => by simp only [C_spec_l1OwnPatch]; repeat (first | exact Det.ret _ | exact Det.vc' | apply Det.req | apply Det.giv | apply Det.fork | apply Det.bif' | intro _)
set_option maxRecDepth 200000 in
set_option maxHeartbeats 1000000 in
theorem ok_spec_l1OwnPatch : ConOK Try.prog 111 C_spec_l1OwnPatch := by
  refine con_mk (wr := false) (ty := tyL [(3, .i), (5, .u), (4, .bool), (9, .str), (126, .int .u64), (45, .st .fixup), (24, .st .img), (91, .st .patch), (65, .st .hash), (63, .list .i), (61, .list .str), (22, .list .u), (41, .st .fixup), (33, .st .img), (72, .st .hash)]) (l := []) trivial Try.checked.mixed (fn := Try.f111) (body := Try.f111.body.getD .skip) Try.func111 rfl (by decide) (by kernel_rfl) rfl an_spec_l1OwnPatch fun x ho hx => ?_
  obtain ⟨x, ⟨⟩⟩ := x
  refine Keeps.of (vc_spec_l1OwnPatch x) ?_
  revert x ho hx
  show ∀ (x : Patch), _
  intro x ho hx
  dsimp only [C_spec_l1OwnPatch, okPTL, okPT, Ok, Ty.cells, SN.cells, OkL, OkC, okI, ci, cb, cs, cl] at ho
  dsimp only [C_spec_l1OwnPatch, vc, v1, decB, SR.pre] at hx
  simp only [decide_eq_true_eq, decide_eq_false_iff_not, Bool.not_eq_true', Bool.not_eq_false', and_true, true_and, Int.toNat_natCast, exists_eq_left', exists_eq_left, exists_and_left, Int.not_lt, Int.not_le, Bool.false_eq_true, false_implies, implies_true, forall_const, List.length_append, List.length_cons, List.length_nil, Int.sub_add_cancel, Int.add_sub_cancel, and_imp, get_set_iff, forall_eq', forall_eq, List.set_set, mkd_get, mkd_len, List.length_set, Option.some.injEq]; (repeat' first | intro _ | apply And.intro); all_goals (try omega); all_goals grind
def C_spec_l1OwnPatchList : Con := { ps := [.ro (.list (.st .patch))], out := fun x => let l : List (Patch) := x.1; .req (l.length + sumI szPa l ≤ 1048576) (newL (.st .patch) l), det := true }
def G_spec_l1OwnPatchList : Cfg := mkG (tyL [(3, .i), (5, .u), (4, .bool), (9, .str), (126, .int .u64), (45, .st .fixup), (24, .st .img), (91, .st .patch), (65, .st .hash), (63, .list .i), (61, .list .str), (22, .list .u), (41, .st .fixup), (33, .st .img), (72, .st .hash)]) [(111, C_spec_l1OwnPatch)] false
def an_spec_l1OwnPatchList : PTL C_spec_l1OwnPatchList.ps → Nat → Option Ann := fun x kk_ => let l : List (Patch) := x.1; if kk_ = 3 then some (.all (Int) fun i => .giv (0 ≤ i ∧ i ≤ l.length) (.mk [(4, ai i), (3, asl 20), (0, al (.st .patch) l)] [(20, .row (some 91) (.st .patch) (l.take i.toNat) true)] ((l.length - i.toNat)))) else none
set_option maxRecDepth 200000 in
theorem vc_spec_l1OwnPatchList (l : List (Patch)) : (keeps Try.prog G_spec_l1OwnPatchList (an_spec_l1OwnPatchList (l, ())) (Try.f82.body.getD .skip) Try.f82.results.toList C_spec_l1OwnPatchList (l, ())) = (((∃ (x_1 : Int), (((0 : Int) = x_1) ∧
 ((@Eq (List Patch) l l) ∧
 ((@Eq (List Patch) ([] : List Patch) (List.take (Int.toNat x_1) l)) ∧
 ((((0 : Int) ≤ x_1) ∧
 (x_1 ≤ (@Nat.cast Int _ (List.length l)))) ∧
 True))))) ∧
 (∀ (x_2 : Int), ((((0 : Int) ≤ x_2) ∧
 (x_2 ≤ (@Nat.cast Int _ (List.length l)))) →
 (((List.length l) ≤ (9223372036854775807 : Nat)) →
 ((((decide (x_2 < (@Nat.cast Int _ (List.length l)))) = true) →
 ((((0 : Int) ≤ x_2) ∧
 (x_2 < (@Nat.cast Int _ (List.length l)))) ∧
 (∀ (x_3 : Patch), ((@Eq (Option Patch) (l)[(Int.toNat x_2)]? (some x_3)) →
 ((Ok (Ty.st SN.patch) x_3) →
 (((List.length (Patch.bytes x_3)) ≤ (1048576 : Nat)) ∧
 ((((((List.length (List.take (Int.toNat x_2) l)) + (List.length [x_3])) * (32 : Nat)) ≤ (140737488355328 : Nat)) ∧
 (((List.length (List.take (Int.toNat x_2) l)) + (List.length [x_3])) ≤ (1000000000000 : Nat))) ∧
 ((((- (9223372036854775808 : Int)) ≤ (x_2 + (1 : Int))) ∧
 ((x_2 + (1 : Int)) ≤ (9223372036854775807 : Int))) ∧
 (∃ (x_4 : Int), (((x_2 + (1 : Int)) = x_4) ∧
 ((@Eq (List Patch) l l) ∧
 ((@Eq (List Patch) ((List.take (Int.toNat x_2) l) ++ [x_3]) (List.take (Int.toNat x_4) l)) ∧
 ((((0 : Int) ≤ x_4) ∧
 (x_4 ≤ (@Nat.cast Int _ (List.length l)))) ∧
 (((List.length l) - (Int.toNat x_4)) < ((List.length l) - (Int.toNat x_2)))))))))))))))) ∧
 (((decide (x_2 < (@Nat.cast Int _ (List.length l)))) = false) →
 ((@Eq (List Patch) (List.take (Int.toNat x_2) l) l) ∧
 True)))))))) := by kernel_rfl
theorem det_spec_l1OwnPatchList : C_spec_l1OwnPatchList.det = true → ∀ x, (C_spec_l1OwnPatchList.out x).Det := fun _ x => by simp only [C_spec_l1OwnPatchList]; repeat (first | exact Det.ret _ | exact Det.vc' | apply Det.req | apply Det.giv | apply Det.fork | apply Det.bif' | intro _)
set_option maxRecDepth 200000 in
set_option maxHeartbeats 1000000 in
theorem ok_spec_l1OwnPatchList : ConOK Try.prog 82 C_spec_l1OwnPatchList := by
  refine con_mk (wr := false) (ty := tyL [(3, .i), (5, .u), (4, .bool), (9, .str), (126, .int .u64), (45, .st .fixup), (24, .st .img), (91, .st .patch), (65, .st .hash), (63, .list .i), (61, .list .str), (22, .list .u), (41, .st .fixup), (33, .st .img), (72, .st .hash)]) (l := [(111, C_spec_l1OwnPatch)]) ⟨⟨ok_spec_l1OwnPatch, det_spec_l1OwnPatch⟩, trivial⟩ Try.checked.mixed (fn := Try.f82) (body := Try.f82.body.getD .skip) Try.func82 rfl (by decide) (by kernel_rfl) rfl an_spec_l1OwnPatchList fun x ho hx => ?_
  obtain ⟨l, ⟨⟩⟩ := x
  refine Keeps.of (vc_spec_l1OwnPatchList l) ?_
  revert l ho hx
  show ∀ (l : List (Patch)), _
  intro l ho hx
  dsimp only [C_spec_l1OwnPatchList, okPTL, okPT, Ok, Ty.cells, SN.cells, OkL, OkC, okI, ci, cb, cs, cl] at ho
  dsimp only [C_spec_l1OwnPatchList, vc, v1, decB, SR.pre] at hx
  have cs := sumI_nn (f := szPa) szPa_nn l
  simp only [decide_eq_true_eq, decide_eq_false_iff_not, Bool.not_eq_true', Bool.not_eq_false', and_true, true_and, Int.toNat_natCast, exists_eq_left', exists_eq_left, exists_and_left, Int.not_lt, Int.not_le, Bool.false_eq_true, false_implies, implies_true, forall_const, List.length_append, List.length_cons, List.length_nil, Int.sub_add_cancel, Int.add_sub_cancel, and_imp, get_set_iff, forall_eq', forall_eq, List.set_set, mkd_get, mkd_len, List.length_set, Option.some.injEq]; (repeat' first | intro _ | apply And.intro); all_goals (try omega)
  all_goals (try (have h1 := sumI_at szPa_nn (by assumption)))
  all_goals first | omega | exact (take_snoc' (by assumption) (by assumption)).symm | exact List.take_of_length_le (by omega) | grind [szPa] | skip
def C_spec_ApplyPatches : Con := { ps := [.ro (.st .img), .ro (.list (.st .patch))], out := fun x => let m : Img := x.1; let l : List (Patch) := x.2.1; .req (m.bytes.length ≤ 1048576 ∧ l.length + sumI szPa l ≤ 1048576) (newSB .img (apP m l) (patB m l)), det := true }
def G_spec_ApplyPatches : Cfg := mkG (tyL [(3, .i), (5, .u), (4, .bool), (9, .str), (126, .int .u64), (45, .st .fixup), (24, .st .img), (91, .st .patch), (65, .st .hash), (63, .list .i), (61, .list .str), (22, .list .u), (41, .st .fixup), (33, .st .img), (72, .st .hash)]) [(68, C_spec_l1OwnImage), (82, C_spec_l1OwnPatchList), (83, C_spec_PatchesValid)] false
def an_spec_ApplyPatches : PTL C_spec_ApplyPatches.ps → Nat → Option Ann := fun x kk_ => let m : Img := x.1; let l : List (Patch) := x.2.1; if kk_ = 7 then some (.all (Int) fun i => .giv (patB m l = true ∧ 0 ≤ i ∧ i ≤ l.length) (.mk [(7, ai i), (1, al (.st .patch) l), (2, aref 62), (4, aref 64), (6, aref 31)] [(62, bx (ast .img m)), (64, bx (ast .img ⟨0, []⟩)), (31, .box false [.c (ci m.base), .sl 32 []]), (32, .row none .u (apB m.base (l.take i.toNat) m.bytes) true)] ((l.length - i.toNat)))) else if kk_ = 2010 then some (.all (Int) fun i => .all (Int) fun j => .giv (patB m l = true ∧ 0 ≤ i ∧ i < l.length ∧ 0 ≤ j ∧ j ≤ (l.getD i.toNat ⟨0, []⟩).bytes.length) (.mk [(7, ai i), (8, ai j), (1, al (.st .patch) l), (2, aref 62), (4, aref 64), (6, aref 31)] [(62, bx (ast .img m)), (64, bx (ast .img ⟨0, []⟩)), (31, .box false [.c (ci m.base), .sl 32 []]), (32, .row none .u (putP (apB m.base (l.take i.toNat) m.bytes) ((l.getD i.toNat ⟨0, []⟩).at_ - m.base) ((l.getD i.toNat ⟨0, []⟩).bytes.take j.toNat)) true)] ((l.length - i.toNat) * 100000 + ((l.getD i.toNat ⟨0, []⟩).bytes.length - j.toNat)))) else none
set_option maxRecDepth 200000 in
theorem vc_spec_ApplyPatches (m : Img) (l : List (Patch)) : (keeps Try.prog G_spec_ApplyPatches (an_spec_ApplyPatches (m, l, ())) (Try.f38.body.getD .skip) Try.f38.results.toList C_spec_ApplyPatches (m, l, ())) = ((((List.length (Img.bytes m)) ≤ (1048576 : Nat)) ∧
 ((((@Nat.cast Int _ (List.length l)) + (@sumI Patch szPa l)) ≤ (1048576 : Int)) ∧
 ((((Bool.not (patB m l)) = true) →
 (((0 : Int) = (Img.base (apP m l))) ∧
 ((false = (patB m l)) ∧
 ((@Eq (List Int) ([] : List Int) (Img.bytes (apP m l))) ∧
 True)))) ∧
 (((Bool.not (patB m l)) = false) →
 ((((((0 : Nat) + (List.length (Img.bytes m))) * (1 : Nat)) ≤ (140737488355328 : Nat)) ∧
 (((0 : Nat) + (List.length (Img.bytes m))) ≤ (1000000000000 : Nat))) ∧
 ((∃ (x_1 : Int), (((0 : Int) = x_1) ∧
 ((@Eq (List Patch) l l) ∧
 (((Img.base m) = (Img.base m)) ∧
 ((@Eq (List Int) (Img.bytes m) (Img.bytes m)) ∧
 (((0 : Int) = (0 : Int)) ∧
 ((@Eq (List Int) ([] : List Int) ([] : List Int)) ∧
 (((Img.base m) = (Img.base m)) ∧
 ((@Eq (List Int) (Img.bytes m) (apB (Img.base m) (List.take (Int.toNat x_1) l) (Img.bytes m))) ∧
 ((((patB m l) = true) ∧
 (((0 : Int) ≤ x_1) ∧
 (x_1 ≤ (@Nat.cast Int _ (List.length l))))) ∧
 True)))))))))) ∧
 (∀ (x_2 : Int), ((((patB m l) = true) ∧
 (((0 : Int) ≤ x_2) ∧
 (x_2 ≤ (@Nat.cast Int _ (List.length l))))) →
 (((List.length l) ≤ (9223372036854775807 : Nat)) →
 ((((decide (x_2 < (@Nat.cast Int _ (List.length l)))) = true) →
 (∃ (x_3 : Int), (∃ (x_4 : Int), ((x_2 = x_3) ∧
 (((0 : Int) = x_4) ∧
 ((@Eq (List Patch) l l) ∧
 (((Img.base m) = (Img.base m)) ∧
 ((@Eq (List Int) (Img.bytes m) (Img.bytes m)) ∧
 (((0 : Int) = (0 : Int)) ∧
 ((@Eq (List Int) ([] : List Int) ([] : List Int)) ∧
 (((Img.base m) = (Img.base m)) ∧
 ((@Eq (List Int) (apB (Img.base m) (List.take (Int.toNat x_2) l) (Img.bytes m)) (putP (apB (Img.base m) (List.take (Int.toNat x_3) l) (Img.bytes m)) ((Patch.at_ (@List.getD Patch l (Int.toNat x_3) (Patch.mk (0 : Int) ([] : List Int)))) - (Img.base m)) (List.take (Int.toNat x_4) (Patch.bytes (@List.getD Patch l (Int.toNat x_3) (Patch.mk (0 : Int) ([] : List Int))))))) ∧
 ((((patB m l) = true) ∧
 (((0 : Int) ≤ x_3) ∧
 ((x_3 < (@Nat.cast Int _ (List.length l))) ∧
 (((0 : Int) ≤ x_4) ∧
 (x_4 ≤ (@Nat.cast Int _ (List.length (Patch.bytes (@List.getD Patch l (Int.toNat x_3) (Patch.mk (0 : Int) ([] : List Int))))))))))) ∧
 (∀ (x_5 : Int), (∀ (x_6 : Int), ((((patB m l) = true) ∧
 (((0 : Int) ≤ x_5) ∧
 ((x_5 < (@Nat.cast Int _ (List.length l))) ∧
 (((0 : Int) ≤ x_6) ∧
 (x_6 ≤ (@Nat.cast Int _ (List.length (Patch.bytes (@List.getD Patch l (Int.toNat x_5) (Patch.mk (0 : Int) ([] : List Int))))))))))) →
 ((((((List.length l) - (Int.toNat x_5)) * (100000 : Nat)) + ((List.length (Patch.bytes (@List.getD Patch l (Int.toNat x_5) (Patch.mk (0 : Int) ([] : List Int))))) - (Int.toNat x_6))) ≤ ((((List.length l) - (Int.toNat x_3)) * (100000 : Nat)) + ((List.length (Patch.bytes (@List.getD Patch l (Int.toNat x_3) (Patch.mk (0 : Int) ([] : List Int))))) - (Int.toNat x_4)))) →
 ((((0 : Int) ≤ x_5) ∧
 (x_5 < (@Nat.cast Int _ (List.length l)))) ∧
 (∀ (x_7 : Patch), ((@Eq (Option Patch) (l)[(Int.toNat x_5)]? (some x_7)) →
 ((Ok (Ty.st SN.patch) x_7) →
 (((List.length (Patch.bytes x_7)) ≤ (9223372036854775807 : Nat)) →
 ((((decide (x_6 < (@Nat.cast Int _ (List.length (Patch.bytes x_7))))) = true) →
 ((((0 : Int) ≤ x_5) ∧
 (x_5 < (@Nat.cast Int _ (List.length l)))) ∧
 (∀ (x_8 : Patch), ((@Eq (Option Patch) (l)[(Int.toNat x_5)]? (some x_8)) →
 ((Ok (Ty.st SN.patch) x_8) →
 ((((- (9223372036854775808 : Int)) ≤ ((Patch.at_ x_8) - (Img.base m))) ∧
 (((Patch.at_ x_8) - (Img.base m)) ≤ (9223372036854775807 : Int))) ∧
 ((((- (9223372036854775808 : Int)) ≤ (((Patch.at_ x_8) - (Img.base m)) + x_6)) ∧
 ((((Patch.at_ x_8) - (Img.base m)) + x_6) ≤ (9223372036854775807 : Int))) ∧
 ((((0 : Int) ≤ x_5) ∧
 (x_5 < (@Nat.cast Int _ (List.length l)))) ∧
 (∀ (x_9 : Patch), ((@Eq (Option Patch) (l)[(Int.toNat x_5)]? (some x_9)) →
 ((Ok (Ty.st SN.patch) x_9) →
 ((((0 : Int) ≤ x_6) ∧
 (x_6 < (@Nat.cast Int _ (List.length (Patch.bytes x_9))))) ∧
 (∀ (x_10 : Int), ((@Eq (Option Int) ((Patch.bytes x_9))[(Int.toNat x_6)]? (some x_10)) →
 ((Ok (Ty.int IntKind.u8) x_10) →
 ((((0 : Int) ≤ (((Patch.at_ x_8) - (Img.base m)) + x_6)) ∧
 ((((Patch.at_ x_8) - (Img.base m)) + x_6) < (@Nat.cast Int _ (List.length (putP (apB (Img.base m) (List.take (Int.toNat x_5) l) (Img.bytes m)) ((Patch.at_ (@List.getD Patch l (Int.toNat x_5) (Patch.mk (0 : Int) ([] : List Int)))) - (Img.base m)) (List.take (Int.toNat x_6) (Patch.bytes (@List.getD Patch l (Int.toNat x_5) (Patch.mk (0 : Int) ([] : List Int)))))))))) ∧
 (∀ (x_11 : Int), ((@Eq (Option Int) ((putP (apB (Img.base m) (List.take (Int.toNat x_5) l) (Img.bytes m)) ((Patch.at_ (@List.getD Patch l (Int.toNat x_5) (Patch.mk (0 : Int) ([] : List Int)))) - (Img.base m)) (List.take (Int.toNat x_6) (Patch.bytes (@List.getD Patch l (Int.toNat x_5) (Patch.mk (0 : Int) ([] : List Int)))))))[(Int.toNat (((Patch.at_ x_8) - (Img.base m)) + x_6))]? (some x_11)) →
 ((((- (9223372036854775808 : Int)) ≤ (x_6 + (1 : Int))) ∧
 ((x_6 + (1 : Int)) ≤ (9223372036854775807 : Int))) ∧
 (∃ (x_12 : Int), (∃ (x_13 : Int), ((x_5 = x_12) ∧
 (((x_6 + (1 : Int)) = x_13) ∧
 ((@Eq (List Patch) l l) ∧
 (((Img.base m) = (Img.base m)) ∧
 ((@Eq (List Int) (Img.bytes m) (Img.bytes m)) ∧
 (((0 : Int) = (0 : Int)) ∧
 ((@Eq (List Int) ([] : List Int) ([] : List Int)) ∧
 (((Img.base m) = (Img.base m)) ∧
 ((@Eq (List Int) (List.set (putP (apB (Img.base m) (List.take (Int.toNat x_5) l) (Img.bytes m)) ((Patch.at_ (@List.getD Patch l (Int.toNat x_5) (Patch.mk (0 : Int) ([] : List Int)))) - (Img.base m)) (List.take (Int.toNat x_6) (Patch.bytes (@List.getD Patch l (Int.toNat x_5) (Patch.mk (0 : Int) ([] : List Int)))))) (Int.toNat (((Patch.at_ x_8) - (Img.base m)) + x_6)) x_10) (putP (apB (Img.base m) (List.take (Int.toNat x_12) l) (Img.bytes m)) ((Patch.at_ (@List.getD Patch l (Int.toNat x_12) (Patch.mk (0 : Int) ([] : List Int)))) - (Img.base m)) (List.take (Int.toNat x_13) (Patch.bytes (@List.getD Patch l (Int.toNat x_12) (Patch.mk (0 : Int) ([] : List Int))))))) ∧
 ((((patB m l) = true) ∧
 (((0 : Int) ≤ x_12) ∧
 ((x_12 < (@Nat.cast Int _ (List.length l))) ∧
 (((0 : Int) ≤ x_13) ∧
 (x_13 ≤ (@Nat.cast Int _ (List.length (Patch.bytes (@List.getD Patch l (Int.toNat x_12) (Patch.mk (0 : Int) ([] : List Int))))))))))) ∧
 (((((List.length l) - (Int.toNat x_12)) * (100000 : Nat)) + ((List.length (Patch.bytes (@List.getD Patch l (Int.toNat x_12) (Patch.mk (0 : Int) ([] : List Int))))) - (Int.toNat x_13))) < ((((List.length l) - (Int.toNat x_5)) * (100000 : Nat)) + ((List.length (Patch.bytes (@List.getD Patch l (Int.toNat x_5) (Patch.mk (0 : Int) ([] : List Int))))) - (Int.toNat x_6))))))))))))))))))))))))))))))))))) ∧
 (((decide (x_6 < (@Nat.cast Int _ (List.length (Patch.bytes x_7))))) = false) →
 ((((- (9223372036854775808 : Int)) ≤ (x_5 + (1 : Int))) ∧
 ((x_5 + (1 : Int)) ≤ (9223372036854775807 : Int))) ∧
 (∃ (x_14 : Int), (((x_5 + (1 : Int)) = x_14) ∧
 ((@Eq (List Patch) l l) ∧
 (((Img.base m) = (Img.base m)) ∧
 ((@Eq (List Int) (Img.bytes m) (Img.bytes m)) ∧
 (((0 : Int) = (0 : Int)) ∧
 ((@Eq (List Int) ([] : List Int) ([] : List Int)) ∧
 (((Img.base m) = (Img.base m)) ∧
 ((@Eq (List Int) (putP (apB (Img.base m) (List.take (Int.toNat x_5) l) (Img.bytes m)) ((Patch.at_ (@List.getD Patch l (Int.toNat x_5) (Patch.mk (0 : Int) ([] : List Int)))) - (Img.base m)) (List.take (Int.toNat x_6) (Patch.bytes (@List.getD Patch l (Int.toNat x_5) (Patch.mk (0 : Int) ([] : List Int)))))) (apB (Img.base m) (List.take (Int.toNat x_14) l) (Img.bytes m))) ∧
 ((((patB m l) = true) ∧
 (((0 : Int) ≤ x_14) ∧
 (x_14 ≤ (@Nat.cast Int _ (List.length l))))) ∧
 (((List.length l) - (Int.toNat x_14)) < ((List.length l) - (Int.toNat x_2)))))))))))))))))))))))))))))))))))))) ∧
 (((decide (x_2 < (@Nat.cast Int _ (List.length l)))) = false) →
 (((Img.base m) = (Img.base (apP m l))) ∧
 ((true = (patB m l)) ∧
 ((@Eq (List Int) (apB (Img.base m) (List.take (Int.toNat x_2) l) (Img.bytes m)) (Img.bytes (apP m l))) ∧
 True))))))))))))))) := by kernel_rfl
theorem det_spec_ApplyPatches : C_spec_ApplyPatches.det = true → ∀ x, (C_spec_ApplyPatches.out x).Det := fun _ x => by simp only [C_spec_ApplyPatches]; repeat (first | exact Det.ret _ | exact Det.vc' | apply Det.req | apply Det.giv | apply Det.fork | apply Det.bif' | intro _)
set_option maxRecDepth 200000 in
set_option maxHeartbeats 1000000 in
theorem ok_spec_ApplyPatches : ConOK Try.prog 38 C_spec_ApplyPatches := by
  refine con_mk (wr := false) (ty := tyL [(3, .i), (5, .u), (4, .bool), (9, .str), (126, .int .u64), (45, .st .fixup), (24, .st .img), (91, .st .patch), (65, .st .hash), (63, .list .i), (61, .list .str), (22, .list .u), (41, .st .fixup), (33, .st .img), (72, .st .hash)]) (l := [(68, C_spec_l1OwnImage), (82, C_spec_l1OwnPatchList), (83, C_spec_PatchesValid)]) ⟨⟨ok_spec_l1OwnImage, det_spec_l1OwnImage⟩, ⟨⟨ok_spec_l1OwnPatchList, det_spec_l1OwnPatchList⟩, ⟨⟨ok_spec_PatchesValid, det_spec_PatchesValid⟩, trivial⟩⟩⟩ Try.checked.mixed (fn := Try.f38) (body := Try.f38.body.getD .skip) Try.func38 rfl (by decide) (by kernel_rfl) rfl an_spec_ApplyPatches fun x ho hx => ?_
  obtain ⟨m, l, ⟨⟩⟩ := x
  refine Keeps.of (vc_spec_ApplyPatches m l) ?_
  revert m l ho hx
  show ∀ (m : Img) (l : List (Patch)), _
  intro m l ho hx
  dsimp only [C_spec_ApplyPatches, okPTL, okPT, Ok, Ty.cells, SN.cells, OkL, OkC, okI, ci, cb, cs, cl] at ho
  dsimp only [C_spec_ApplyPatches, vc, v1, decB, SR.pre] at hx
  cases hp : patB m l with
  | false =>
    have e := apP_no hp
    simp only [decide_eq_true_eq, decide_eq_false_iff_not, Bool.not_eq_true', Bool.not_eq_false', and_true, true_and, Int.toNat_natCast, exists_eq_left', exists_eq_left, exists_and_left, Int.not_lt, Int.not_le, Bool.false_eq_true, false_implies, implies_true, forall_const, List.length_append, List.length_cons, List.length_nil, Int.sub_add_cancel, Int.add_sub_cancel, and_imp, get_set_iff, forall_eq', forall_eq, List.set_set, mkd_get, mkd_len, List.length_set, Option.some.injEq]; (repeat' first | intro _ | apply And.intro); all_goals (try omega)
    all_goals first | (rw [e]; done) | contradiction | omega | (simp only [e]; done) | skip
  | true =>
    have e := fun i => apP_yes (i := i) hp
    have hb := patB_bd hp
    have hf := fun i p => ap_fact (i := i) (p := p) hp
    simp only [decide_eq_true_eq, decide_eq_false_iff_not, Bool.not_eq_true', Bool.not_eq_false', and_true, true_and, Int.toNat_natCast, exists_eq_left', exists_eq_left, exists_and_left, Int.not_lt, Int.not_le, Bool.false_eq_true, false_implies, implies_true, forall_const, List.length_append, List.length_cons, List.length_nil, Int.sub_add_cancel, Int.add_sub_cancel, and_imp, get_set_iff, forall_eq', forall_eq, List.set_set, mkd_get, mkd_len, List.length_set, Option.some.injEq]; (repeat' first | intro _ | apply And.intro); all_goals (try omega)
    all_goals (try (have h1 := hf _ _ (by assumption)))
    all_goals (try (have e1 := getD_of (d := (⟨0, []⟩ : Patch)) (by assumption : l[_]? = some _)))
    all_goals first
      | omega
      | rfl
      | exact putP_zero.symm
      | (rw [e _ (by assumption)]; done)
      | (exfalso; simp_all; done)
      | exact ap_set hp (by assumption) (by assumption) (by assumption) (by assumption)
      | grind [putP_tlen, putP_set, putP_all, apB_next]
      | skip
end Go.Proofs.Ytdghhckdjbpfbaa
