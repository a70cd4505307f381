/- The laws on places. -/
import Derived.Test.YtignicccfjdiiaaDrawL
import Derived.Test.YtignicccfjdiiaaPlcE
import Derived.Test.YtignicccfjdiiaaLnk
import Derived.Test.YtignicccfjdiiaaSame
import Derived.Test.YtignicccfjdiiaaHead
set_option linter.unusedVariables false
set_option linter.unusedSimpArgs false
namespace Go.Proofs.Ytignicccfjdiiaa
open Go Go.RowKit Go.ChangeShapes Go.WideShapes Go.Deep


def C_laws_FnSymbolPlace : Con := { ps := [.ro (.list .u)], out := fun x => let c : List (Int) := x.1; vc .bool true, det := true }
abbrev L_laws_FnSymbolPlace : List (Nat × Con) := [(33, C_spec_DrawSymbolPlace), (34, C_impl_SymbolPlace), (35, C_spec_SymbolPlace), (18, C_laws_alive)]
def G_laws_FnSymbolPlace : Cfg := mkG (tyL tys_) L_laws_FnSymbolPlace false
def an_laws_FnSymbolPlace : PTL C_laws_FnSymbolPlace.ps → Nat → Option Ann := fun x kk_ => let c : List (Int) := x.1; if kk_ = 12 then some (.all (List Objt) fun l => .all (Int) fun b => .all (Int) fun k => .all (Int) fun j => .all (Int) fun n => .all (Int) fun a => .all (Sym) fun s => .giv (SP l b k j n s ∧ l.length ≤ 5 ∧ -8 ≤ b ∧ b ≤ 4104 ∧ 0 ≤ a ∧ a ≤ l.length) (.mk [(3, al (.st .obj) l), (4, ai b), (5, ai k), (6, ai j), (7, ai n), (12, ai a), (11, aref 31)] [(31, bx (ast .sym s))] ((l.length - a.toNat)))) else if kk_ = 2015 then some (.all (List Objt) fun l => .all (Int) fun b => .all (Int) fun k => .all (Int) fun j => .all (Int) fun n => .all (Int) fun a => .all (Int) fun i => .all (Sym) fun s => .giv (SP l b k j n s ∧ l.length ≤ 5 ∧ -8 ≤ b ∧ b ≤ 4104 ∧ 0 ≤ a ∧ a < l.length ∧ (symsAt l a).length ≤ 12 ∧ 0 ≤ i ∧ i ≤ (symsAt l a).length) (.mk [(3, al (.st .obj) l), (4, ai b), (5, ai k), (6, ai j), (7, ai n), (12, ai a), (13, ai i), (11, aref 31)] [(31, bx (ast .sym s))] ((l.length - a.toNat) * 1000 + (100 - i).toNat))) else none
set_option maxRecDepth 200000 in
theorem vc_laws_FnSymbolPlace (c : List (Int)) : (keeps Try.prog G_laws_FnSymbolPlace (an_laws_FnSymbolPlace (c, ())) (Try.f8.body.getD .skip) Try.f8.results.toList C_laws_FnSymbolPlace (c, ())) = ((((List.length c) ≤ 9223372036854775807) →
 ((((decide (1048576 < (LN c))) = true) →
 ((true = true) ∧
 True)) ∧
 (((decide (1048576 < (LN c))) = false) →
 (∀ (x_1 : (List Objt)), (∀ (x_2 : Int), (∀ (x_3 : Int), (∀ (x_4 : Int), ((((List.length x_1) ≤ 5) ∧
 (((objsA x_1) = true) ∧
 (((- (8 : Int)) ≤ x_2) ∧
 (x_2 ≤ (4104 : Int))))) →
 ((((LN x_1) + (@sumI Objt szOb x_1)) ≤ 1048576) ∧
 ((((decide ((@Option.getD Int (syPl x_1 x_2 x_3 x_4) (0 : Int)) ≠ (@Option.getD Int (syPl x_1 x_2 x_3 x_4) (0 : Int)))) = true) →
 ((false = true) ∧
 True)) ∧
 (((decide ((@Option.getD Int (syPl x_1 x_2 x_3 x_4) (0 : Int)) ≠ (@Option.getD Int (syPl x_1 x_2 x_3 x_4) (0 : Int)))) = false) →
 ((((decide ((@Option.isSome Int (syPl x_1 x_2 x_3 x_4)) ≠ (@Option.isSome Int (syPl x_1 x_2 x_3 x_4)))) = true) →
 ((false = true) ∧
 True)) ∧
 (((decide ((@Option.isSome Int (syPl x_1 x_2 x_3 x_4)) ≠ (@Option.isSome Int (syPl x_1 x_2 x_3 x_4)))) = false) →
 ((((Bool.not (@Option.isSome Int (syPl x_1 x_2 x_3 x_4))) = true) →
 ((((decide ((@Option.getD Int (syPl x_1 x_2 x_3 x_4) (0 : Int)) = 0)) = true) →
 ((((Bool.not (@Option.isSome Int (syPl x_1 x_2 x_3 x_4))) = true) →
 ((true = true) ∧
 True)) ∧
 (((Bool.not (@Option.isSome Int (syPl x_1 x_2 x_3 x_4))) = false) →
 ((false = true) ∧
 True)))) ∧
 (((decide ((@Option.getD Int (syPl x_1 x_2 x_3 x_4) (0 : Int)) = 0)) = false) →
 ((false = true) ∧
 True)))) ∧
 (((Bool.not (@Option.isSome Int (syPl x_1 x_2 x_3 x_4))) = false) →
 ((((decide (x_3 < (0 : Int))) = true) →
 ((((decide ((@Option.getD Int (syPl x_1 x_2 x_3 x_4) (0 : Int)) = 0)) = true) →
 ((((Bool.not (@Option.isSome Int (syPl x_1 x_2 x_3 x_4))) = true) →
 ((true = true) ∧
 True)) ∧
 (((Bool.not (@Option.isSome Int (syPl x_1 x_2 x_3 x_4))) = false) →
 ((false = true) ∧
 True)))) ∧
 (((decide ((@Option.getD Int (syPl x_1 x_2 x_3 x_4) (0 : Int)) = 0)) = false) →
 ((false = true) ∧
 True)))) ∧
 (((decide (x_3 < (0 : Int))) = false) →
 (((List.length x_1) ≤ 9223372036854775807) →
 ((((decide ((LN x_1) ≤ x_3)) = true) →
 ((((decide ((@Option.getD Int (syPl x_1 x_2 x_3 x_4) (0 : Int)) = 0)) = true) →
 ((((Bool.not (@Option.isSome Int (syPl x_1 x_2 x_3 x_4))) = true) →
 ((true = true) ∧
 True)) ∧
 (((Bool.not (@Option.isSome Int (syPl x_1 x_2 x_3 x_4))) = false) →
 ((false = true) ∧
 True)))) ∧
 (((decide ((@Option.getD Int (syPl x_1 x_2 x_3 x_4) (0 : Int)) = 0)) = false) →
 ((false = true) ∧
 True)))) ∧
 (((decide ((LN x_1) ≤ x_3)) = false) →
 ((((decide (x_4 < (0 : Int))) = true) →
 ((((decide ((@Option.getD Int (syPl x_1 x_2 x_3 x_4) (0 : Int)) = 0)) = true) →
 ((((Bool.not (@Option.isSome Int (syPl x_1 x_2 x_3 x_4))) = true) →
 ((true = true) ∧
 True)) ∧
 (((Bool.not (@Option.isSome Int (syPl x_1 x_2 x_3 x_4))) = false) →
 ((false = true) ∧
 True)))) ∧
 (((decide ((@Option.getD Int (syPl x_1 x_2 x_3 x_4) (0 : Int)) = 0)) = false) →
 ((false = true) ∧
 True)))) ∧
 (((decide (x_4 < (0 : Int))) = false) →
 (((0 ≤ x_3) ∧
 (x_3 < (LN x_1))) ∧
 (∀ (x_5 : Objt), ((@Eq (Option Objt) (x_1)[(Int.toNat x_3)]? (some x_5)) →
 ((Ok (Ty.st SN.obj) x_5) →
 (((List.length (Objt.syms x_5)) ≤ 9223372036854775807) →
 ((((decide ((LN (Objt.syms x_5)) ≤ x_4)) = true) →
 ((((decide ((@Option.getD Int (syPl x_1 x_2 x_3 x_4) (0 : Int)) = 0)) = true) →
 ((((Bool.not (@Option.isSome Int (syPl x_1 x_2 x_3 x_4))) = true) →
 ((true = true) ∧
 True)) ∧
 (((Bool.not (@Option.isSome Int (syPl x_1 x_2 x_3 x_4))) = false) →
 ((false = true) ∧
 True)))) ∧
 (((decide ((@Option.getD Int (syPl x_1 x_2 x_3 x_4) (0 : Int)) = 0)) = false) →
 ((false = true) ∧
 True)))) ∧
 (((decide ((LN (Objt.syms x_5)) ≤ x_4)) = false) →
 (((0 ≤ x_3) ∧
 (x_3 < (LN x_1))) ∧
 (∀ (x_6 : Objt), ((@Eq (Option Objt) (x_1)[(Int.toNat x_3)]? (some x_6)) →
 ((Ok (Ty.st SN.obj) x_6) →
 (((0 ≤ x_4) ∧
 (x_4 < (LN (Objt.syms x_6)))) ∧
 (∀ (x_7 : Sym), ((@Eq (Option Sym) ((Objt.syms x_6))[(Int.toNat x_4)]? (some x_7)) →
 ((Ok (Ty.st SN.sym) x_7) →
 ((∃ (x_8 : (List Objt)), (∃ (x_9 : Int), (∃ (x_10 : Int), (∃ (x_11 : Int), (∃ (x_12 : Int), (∃ (x_13 : Int), (∃ (x_14 : Sym), ((@Eq (List Objt) x_1 x_8) ∧
 ((x_2 = x_9) ∧
 ((x_3 = x_10) ∧
 ((x_4 = x_11) ∧
 (((@Option.getD Int (syPl x_1 x_2 x_3 x_4) (0 : Int)) = x_12) ∧
 ((0 = x_13) ∧
 ((@Eq ByteArray (Sym.name x_7) (Sym.name x_14)) ∧
 (((Sym.bind x_7) = (Sym.bind x_14)) ∧
 (((Sym.wher x_7) = (Sym.wher x_14)) ∧
 (((Sym.value x_7) = (Sym.value x_14)) ∧
 (((SP x_8 x_9 x_10 x_11 x_12 x_14) ∧
 (((List.length x_8) ≤ 5) ∧
 (((- (8 : Int)) ≤ x_9) ∧
 ((x_9 ≤ (4104 : Int)) ∧
 ((0 ≤ x_13) ∧
 (x_13 ≤ (LN x_8))))))) ∧
 True)))))))))))))))))) ∧
 (∀ (x_15 : (List Objt)), (∀ (x_16 : Int), (∀ (x_17 : Int), (∀ (x_18 : Int), (∀ (x_19 : Int), (∀ (x_20 : Int), (∀ (x_21 : Sym), (((SP x_15 x_16 x_17 x_18 x_19 x_21) ∧
 (((List.length x_15) ≤ 5) ∧
 (((- (8 : Int)) ≤ x_16) ∧
 ((x_16 ≤ (4104 : Int)) ∧
 ((0 ≤ x_20) ∧
 (x_20 ≤ (LN x_15))))))) →
 (((List.length x_15) ≤ 9223372036854775807) →
 ((((decide (x_20 < (LN x_15))) = true) →
 (∃ (x_22 : (List Objt)), (∃ (x_23 : Int), (∃ (x_24 : Int), (∃ (x_25 : Int), (∃ (x_26 : Int), (∃ (x_27 : Int), (∃ (x_28 : Int), (∃ (x_29 : Sym), ((@Eq (List Objt) x_15 x_22) ∧
 ((x_16 = x_23) ∧
 ((x_17 = x_24) ∧
 ((x_18 = x_25) ∧
 ((x_19 = x_26) ∧
 ((x_20 = x_27) ∧
 ((0 = x_28) ∧
 ((@Eq ByteArray (Sym.name x_21) (Sym.name x_29)) ∧
 (((Sym.bind x_21) = (Sym.bind x_29)) ∧
 (((Sym.wher x_21) = (Sym.wher x_29)) ∧
 (((Sym.value x_21) = (Sym.value x_29)) ∧
 (((SP x_22 x_23 x_24 x_25 x_26 x_29) ∧
 (((List.length x_22) ≤ 5) ∧
 (((- (8 : Int)) ≤ x_23) ∧
 ((x_23 ≤ (4104 : Int)) ∧
 ((0 ≤ x_27) ∧
 ((x_27 < (LN x_22)) ∧
 (((List.length (symsAt x_22 x_27)) ≤ 12) ∧
 ((0 ≤ x_28) ∧
 (x_28 ≤ (LN (symsAt x_22 x_27))))))))))) ∧
 (∀ (x_30 : (List Objt)), (∀ (x_31 : Int), (∀ (x_32 : Int), (∀ (x_33 : Int), (∀ (x_34 : Int), (∀ (x_35 : Int), (∀ (x_36 : Int), (∀ (x_37 : Sym), (((SP x_30 x_31 x_32 x_33 x_34 x_37) ∧
 (((List.length x_30) ≤ 5) ∧
 (((- (8 : Int)) ≤ x_31) ∧
 ((x_31 ≤ (4104 : Int)) ∧
 ((0 ≤ x_35) ∧
 ((x_35 < (LN x_30)) ∧
 (((List.length (symsAt x_30 x_35)) ≤ 12) ∧
 ((0 ≤ x_36) ∧
 (x_36 ≤ (LN (symsAt x_30 x_35))))))))))) →
 ((((((List.length x_30) - (Int.toNat x_35)) * 1000) + (Int.toNat (100 - x_36))) ≤ ((((List.length x_22) - (Int.toNat x_27)) * 1000) + (Int.toNat (100 - x_28)))) →
 (((0 ≤ x_35) ∧
 (x_35 < (LN x_30))) ∧
 (∀ (x_38 : Objt), ((@Eq (Option Objt) (x_30)[(Int.toNat x_35)]? (some x_38)) →
 ((Ok (Ty.st SN.obj) x_38) →
 (((List.length (Objt.syms x_38)) ≤ 9223372036854775807) →
 ((((decide (x_36 < (LN (Objt.syms x_38)))) = true) →
 (((0 ≤ x_35) ∧
 (x_35 < (LN x_30))) ∧
 (∀ (x_39 : Objt), ((@Eq (Option Objt) (x_30)[(Int.toNat x_35)]? (some x_39)) →
 ((Ok (Ty.st SN.obj) x_39) →
 (((0 ≤ x_36) ∧
 (x_36 < (LN (Objt.syms x_39)))) ∧
 (∀ (x_40 : Sym), ((@Eq (Option Sym) ((Objt.syms x_39))[(Int.toNat x_36)]? (some x_40)) →
 ((Ok (Ty.st SN.sym) x_40) →
 ((((decide (@Eq ByteArray (Sym.name x_40) (Sym.name x_37))) = true) →
 ((((decide ((Sym.bind x_40) ≠ 0)) = true) →
 ((((decide ((Sym.bind x_37) ≠ 0)) = true) →
 ((((@Option.isSome Int (syPl x_30 x_31 x_35 x_36)) = true) →
 ((((decide ((@Option.getD Int (syPl x_30 x_31 x_35 x_36) (0 : Int)) ≠ x_34)) = true) →
 ((false = true) ∧
 True)) ∧
 (((decide ((@Option.getD Int (syPl x_30 x_31 x_35 x_36) (0 : Int)) ≠ x_34)) = false) →
 ((i64 (x_36 + (1 : Int))) ∧
 (∃ (x_41 : (List Objt)), (∃ (x_42 : Int), (∃ (x_43 : Int), (∃ (x_44 : Int), (∃ (x_45 : Int), (∃ (x_46 : Int), (∃ (x_47 : Int), (∃ (x_48 : Sym), ((@Eq (List Objt) x_30 x_41) ∧
 ((x_31 = x_42) ∧
 ((x_32 = x_43) ∧
 ((x_33 = x_44) ∧
 ((x_34 = x_45) ∧
 ((x_35 = x_46) ∧
 (((x_36 + (1 : Int)) = x_47) ∧
 ((@Eq ByteArray (Sym.name x_37) (Sym.name x_48)) ∧
 (((Sym.bind x_37) = (Sym.bind x_48)) ∧
 (((Sym.wher x_37) = (Sym.wher x_48)) ∧
 (((Sym.value x_37) = (Sym.value x_48)) ∧
 (((SP x_41 x_42 x_43 x_44 x_45 x_48) ∧
 (((List.length x_41) ≤ 5) ∧
 (((- (8 : Int)) ≤ x_42) ∧
 ((x_42 ≤ (4104 : Int)) ∧
 ((0 ≤ x_46) ∧
 ((x_46 < (LN x_41)) ∧
 (((List.length (symsAt x_41 x_46)) ≤ 12) ∧
 ((0 ≤ x_47) ∧
 (x_47 ≤ (LN (symsAt x_41 x_46))))))))))) ∧
 (((((List.length x_41) - (Int.toNat x_46)) * 1000) + (Int.toNat (100 - x_47))) < ((((List.length x_30) - (Int.toNat x_35)) * 1000) + (Int.toNat (100 - x_36)))))))))))))))))))))))))))) ∧
 (((@Option.isSome Int (syPl x_30 x_31 x_35 x_36)) = false) →
 ((i64 (x_36 + (1 : Int))) ∧
 (∃ (x_49 : (List Objt)), (∃ (x_50 : Int), (∃ (x_51 : Int), (∃ (x_52 : Int), (∃ (x_53 : Int), (∃ (x_54 : Int), (∃ (x_55 : Int), (∃ (x_56 : Sym), ((@Eq (List Objt) x_30 x_49) ∧
 ((x_31 = x_50) ∧
 ((x_32 = x_51) ∧
 ((x_33 = x_52) ∧
 ((x_34 = x_53) ∧
 ((x_35 = x_54) ∧
 (((x_36 + (1 : Int)) = x_55) ∧
 ((@Eq ByteArray (Sym.name x_37) (Sym.name x_56)) ∧
 (((Sym.bind x_37) = (Sym.bind x_56)) ∧
 (((Sym.wher x_37) = (Sym.wher x_56)) ∧
 (((Sym.value x_37) = (Sym.value x_56)) ∧
 (((SP x_49 x_50 x_51 x_52 x_53 x_56) ∧
 (((List.length x_49) ≤ 5) ∧
 (((- (8 : Int)) ≤ x_50) ∧
 ((x_50 ≤ (4104 : Int)) ∧
 ((0 ≤ x_54) ∧
 ((x_54 < (LN x_49)) ∧
 (((List.length (symsAt x_49 x_54)) ≤ 12) ∧
 ((0 ≤ x_55) ∧
 (x_55 ≤ (LN (symsAt x_49 x_54))))))))))) ∧
 (((((List.length x_49) - (Int.toNat x_54)) * 1000) + (Int.toNat (100 - x_55))) < ((((List.length x_30) - (Int.toNat x_35)) * 1000) + (Int.toNat (100 - x_36)))))))))))))))))))))))))))) ∧
 (((decide ((Sym.bind x_37) ≠ 0)) = false) →
 ((i64 (x_36 + (1 : Int))) ∧
 (∃ (x_57 : (List Objt)), (∃ (x_58 : Int), (∃ (x_59 : Int), (∃ (x_60 : Int), (∃ (x_61 : Int), (∃ (x_62 : Int), (∃ (x_63 : Int), (∃ (x_64 : Sym), ((@Eq (List Objt) x_30 x_57) ∧
 ((x_31 = x_58) ∧
 ((x_32 = x_59) ∧
 ((x_33 = x_60) ∧
 ((x_34 = x_61) ∧
 ((x_35 = x_62) ∧
 (((x_36 + (1 : Int)) = x_63) ∧
 ((@Eq ByteArray (Sym.name x_37) (Sym.name x_64)) ∧
 (((Sym.bind x_37) = (Sym.bind x_64)) ∧
 (((Sym.wher x_37) = (Sym.wher x_64)) ∧
 (((Sym.value x_37) = (Sym.value x_64)) ∧
 (((SP x_57 x_58 x_59 x_60 x_61 x_64) ∧
 (((List.length x_57) ≤ 5) ∧
 (((- (8 : Int)) ≤ x_58) ∧
 ((x_58 ≤ (4104 : Int)) ∧
 ((0 ≤ x_62) ∧
 ((x_62 < (LN x_57)) ∧
 (((List.length (symsAt x_57 x_62)) ≤ 12) ∧
 ((0 ≤ x_63) ∧
 (x_63 ≤ (LN (symsAt x_57 x_62))))))))))) ∧
 (((((List.length x_57) - (Int.toNat x_62)) * 1000) + (Int.toNat (100 - x_63))) < ((((List.length x_30) - (Int.toNat x_35)) * 1000) + (Int.toNat (100 - x_36)))))))))))))))))))))))))))) ∧
 (((decide ((Sym.bind x_40) ≠ 0)) = false) →
 ((i64 (x_36 + (1 : Int))) ∧
 (∃ (x_65 : (List Objt)), (∃ (x_66 : Int), (∃ (x_67 : Int), (∃ (x_68 : Int), (∃ (x_69 : Int), (∃ (x_70 : Int), (∃ (x_71 : Int), (∃ (x_72 : Sym), ((@Eq (List Objt) x_30 x_65) ∧
 ((x_31 = x_66) ∧
 ((x_32 = x_67) ∧
 ((x_33 = x_68) ∧
 ((x_34 = x_69) ∧
 ((x_35 = x_70) ∧
 (((x_36 + (1 : Int)) = x_71) ∧
 ((@Eq ByteArray (Sym.name x_37) (Sym.name x_72)) ∧
 (((Sym.bind x_37) = (Sym.bind x_72)) ∧
 (((Sym.wher x_37) = (Sym.wher x_72)) ∧
 (((Sym.value x_37) = (Sym.value x_72)) ∧
 (((SP x_65 x_66 x_67 x_68 x_69 x_72) ∧
 (((List.length x_65) ≤ 5) ∧
 (((- (8 : Int)) ≤ x_66) ∧
 ((x_66 ≤ (4104 : Int)) ∧
 ((0 ≤ x_70) ∧
 ((x_70 < (LN x_65)) ∧
 (((List.length (symsAt x_65 x_70)) ≤ 12) ∧
 ((0 ≤ x_71) ∧
 (x_71 ≤ (LN (symsAt x_65 x_70))))))))))) ∧
 (((((List.length x_65) - (Int.toNat x_70)) * 1000) + (Int.toNat (100 - x_71))) < ((((List.length x_30) - (Int.toNat x_35)) * 1000) + (Int.toNat (100 - x_36)))))))))))))))))))))))))))) ∧
 (((decide (@Eq ByteArray (Sym.name x_40) (Sym.name x_37))) = false) →
 ((i64 (x_36 + (1 : Int))) ∧
 (∃ (x_73 : (List Objt)), (∃ (x_74 : Int), (∃ (x_75 : Int), (∃ (x_76 : Int), (∃ (x_77 : Int), (∃ (x_78 : Int), (∃ (x_79 : Int), (∃ (x_80 : Sym), ((@Eq (List Objt) x_30 x_73) ∧
 ((x_31 = x_74) ∧
 ((x_32 = x_75) ∧
 ((x_33 = x_76) ∧
 ((x_34 = x_77) ∧
 ((x_35 = x_78) ∧
 (((x_36 + (1 : Int)) = x_79) ∧
 ((@Eq ByteArray (Sym.name x_37) (Sym.name x_80)) ∧
 (((Sym.bind x_37) = (Sym.bind x_80)) ∧
 (((Sym.wher x_37) = (Sym.wher x_80)) ∧
 (((Sym.value x_37) = (Sym.value x_80)) ∧
 (((SP x_73 x_74 x_75 x_76 x_77 x_80) ∧
 (((List.length x_73) ≤ 5) ∧
 (((- (8 : Int)) ≤ x_74) ∧
 ((x_74 ≤ (4104 : Int)) ∧
 ((0 ≤ x_78) ∧
 ((x_78 < (LN x_73)) ∧
 (((List.length (symsAt x_73 x_78)) ≤ 12) ∧
 ((0 ≤ x_79) ∧
 (x_79 ≤ (LN (symsAt x_73 x_78))))))))))) ∧
 (((((List.length x_73) - (Int.toNat x_78)) * 1000) + (Int.toNat (100 - x_79))) < ((((List.length x_30) - (Int.toNat x_35)) * 1000) + (Int.toNat (100 - x_36)))))))))))))))))))))))))))))))))))) ∧
 (((decide (x_36 < (LN (Objt.syms x_38)))) = false) →
 ((i64 (x_35 + (1 : Int))) ∧
 (∃ (x_81 : (List Objt)), (∃ (x_82 : Int), (∃ (x_83 : Int), (∃ (x_84 : Int), (∃ (x_85 : Int), (∃ (x_86 : Int), (∃ (x_87 : Sym), ((@Eq (List Objt) x_30 x_81) ∧
 ((x_31 = x_82) ∧
 ((x_32 = x_83) ∧
 ((x_33 = x_84) ∧
 ((x_34 = x_85) ∧
 (((x_35 + (1 : Int)) = x_86) ∧
 ((@Eq ByteArray (Sym.name x_37) (Sym.name x_87)) ∧
 (((Sym.bind x_37) = (Sym.bind x_87)) ∧
 (((Sym.wher x_37) = (Sym.wher x_87)) ∧
 (((Sym.value x_37) = (Sym.value x_87)) ∧
 (((SP x_81 x_82 x_83 x_84 x_85 x_87) ∧
 (((List.length x_81) ≤ 5) ∧
 (((- (8 : Int)) ≤ x_82) ∧
 ((x_82 ≤ (4104 : Int)) ∧
 ((0 ≤ x_86) ∧
 (x_86 ≤ (LN x_81))))))) ∧
 (((List.length x_81) - (Int.toNat x_86)) < ((List.length x_15) - (Int.toNat x_20)))))))))))))))))))))))))))))))))))))))))))))))))))))))))))) ∧
 (((decide (x_20 < (LN x_15))) = false) →
 ((i64 (x_16 + (8 : Int))) ∧
 ((((Bool.not (@Option.isSome Int (syPl x_15 (x_16 + (8 : Int)) x_17 x_18))) = true) →
 ((true = true) ∧
 True)) ∧
 (((Bool.not (@Option.isSome Int (syPl x_15 (x_16 + (8 : Int)) x_17 x_18))) = false) →
 ((((decide ((Sym.wher x_21) < 0)) = true) →
 ((true = true) ∧
 True)) ∧
 (((decide ((Sym.wher x_21) < 0)) = false) →
 ((((decide ((Sym.bind x_21) ≠ 0)) = true) →
 ((true = true) ∧
 True)) ∧
 (((decide ((Sym.bind x_21) ≠ 0)) = false) →
 ((i64 (x_19 + (8 : Int))) ∧
 (((decide ((@Option.getD Int (syPl x_15 (x_16 + (8 : Int)) x_17 x_18) (0 : Int)) = (x_19 + (8 : Int)))) = true) ∧
 True))))))))))))))))))))))))))))))))))))))))))))))))))))))))))) := by kernel_rfl
theorem det_laws_FnSymbolPlace : C_laws_FnSymbolPlace.det = true → ∀ x, (C_laws_FnSymbolPlace.out x).Det := fun _ _ => Det.vc'
set_option maxRecDepth 200000 in
set_option maxHeartbeats 4000000 in
theorem ok_laws_FnSymbolPlace : ConOK Try.prog 8 C_laws_FnSymbolPlace := by
  refine con_mk (wr := false) (ty := tyL tys_) (l := L_laws_FnSymbolPlace) ⟨⟨ok_spec_DrawSymbolPlace, det_spec_DrawSymbolPlace⟩, ⟨⟨ok_impl_SymbolPlace, det_impl_SymbolPlace⟩, ⟨⟨ok_spec_SymbolPlace, det_spec_SymbolPlace⟩, ⟨⟨ok_laws_alive, det_laws_alive⟩, trivial⟩⟩⟩⟩ Try.checked.mixed (fn := Try.f8) (body := Try.f8.body.getD .skip) Try.func8 rfl (by decide) (by kernel_rfl) rfl an_laws_FnSymbolPlace fun x ho hx => ?_
  obtain ⟨c, ⟨⟩⟩ := x
  refine Keeps.of (vc_laws_FnSymbolPlace c) ?_
  revert c ho hx
  show ∀ (c : List (Int)), _
  intro c ho hx
  dsimp only [C_laws_FnSymbolPlace, okPTL, okPT, Ok, Ty.cells, SN.cells, OkL, OkC, okI, ci, cb, cs, cl] at ho
  dsimp only [C_laws_FnSymbolPlace, vc, v1, decB, SR.pre] at hx
  have hz := @objsA_sz
  have h1 := @SP_in
  have h2 := @SP_mk
  have h3 := @SP_12
  have h4 := @SP_same
  have h5 := @SP_up
  have h6 := @SP_bd
  have h7 : ∀ o : Option Int, o.isSome = false → o.getD 0 = 0 := fun o h => by cases o with | none => rfl | some _ => cases h
  (try delta i64 LN); simp only [DRt, ex_sect2]; (repeat' first | apply And.intro | (intro x hq _; replace hq := List.mem_of_getElem? hq; simp only [List.mem_cons, List.not_mem_nil, or_false] at hq) | intro _); all_goals (try omega)
  all_goals first
    | (have := hz (by assumption) (by omega); omega)
    | (try grind [symsAt_eq])

theorem rd_u : Reads Try.prog 5 [.u] := reads_u8 Try.underlying5
theorem rd_uL : Reads Try.prog 22 [(.list .u)] := reads_slice (t' := .u) Try.underlying22 (by kernel_rfl) (by decide) rd_u
set_option maxRecDepth 100000 in
theorem lifted_FnSymbolPlace (os : Os) (started : os.Started) (H : Type) (enc : TypeId × Value → H) :
    ReturnsInHanded {} Try.checked os 8 .any (Rows.fnSymbolPlaceSpec.pre6 enc Try.prog Try.f8 Rows.fnSymbolPlaceRow.domain false) (Rows.fnSymbolPlaceSpec.post enc Try.prog Try.f8 false true false false) := by
  refine returnsInHanded_of_change (C := Try.checked) head_own started (by kernel_rfl) Try.func8
    (ChangeSpec.witness6 (enc := enc) (C := Try.checked) false ⟨#[], #[.slice none 0 0], []⟩ 8 (by kernel_rfl) (by kernel_rfl) (by kernel_rfl) (by kernel_rfl)) ?_
  intro W base args ds gs before hval0 hW _ _
  have hval : ∀ (j : Nat) t v, Try.f8.params[j]? = some t → args[j]? = some v → Value.okWide Try.prog W .any base t v := hval0
  have hW' := hW
  obtain ⟨p, q, hA0, hV, rfl, hfz, hnd⟩ := hW
  have hA : DataW.TrodAll enc Try.prog W 0 (fun _ => true) true Try.f8.params.toList args.toList ds p := hA0
  rw [Try.params8] at hA hval
  obtain ⟨v0, vs0, d0, ds0, p0, q0, hargs, rfl, rfl, h0, r0⟩ := trodAll_cons hA
  obtain ⟨rfl, rfl, rfl⟩ := trodAll_nil r0
  obtain rfl : args = #[v0] := by cases args; simp_all
  obtain ⟨rfl, rfl⟩ := trodVars_none hV
  have k0 := h0
  obtain ⟨x0, g0⟩ := open_slice1 Try.underlying22 rd_uL (hval 0 22 v0 rfl rfl) h0
  clear hA0 hval0 hval
  refine (law_calls ok_laws_FnSymbolPlace (x0, ()) rfl rfl (W := W) (vals := [v0]) ⟨g0, trivial⟩).mono fun e W' ⟨he, bel⟩ => ?_
  subst he
  exact ⟨_, rfl, _, _, _, [], _, [], hW', trodAll_mk1 (shut_bool Try.underlying4 _), (trodAll_cons_mk (Below.trod head_laid (by kernel_rfl) (of_decide_eq_true (by kernel_rfl)) k0 bel (trod_lt_ k0)) trodAll_mk0), rfl, bel.frame _, fun h => by cases h⟩

theorem over_FnSymbolPlace : Rows.fnSymbolPlaceRow.holds Try.pinned (OpenSpec.ofChange Rows.fnSymbolPlaceSpec) :=
  OpenClaim.holds_of_wide 8 Try.f8 rfl rfl rfl rfl rfl rfl rfl ⟨rfl, rfl, rfl, rfl, rfl⟩ rfl rfl rfl rfl rfl (by kernel_rfl) Try.func8 (joined_of head_laid head_rowed head_stops head_stopk head_heard head_enter (show (Rows.fnSymbolPlaceRow.lifted == Try.prog.liftsFinal) = true by rw [head_final]; rfl) (show (Try.prog.make == some Rows.fnSymbolPlaceRow.make) = true by rw [head_make]; rfl) (by kernel_rfl))
    (of_decide_eq_true (by kernel_rfl)) (by unfold Func.isWrapper; first | (rw [if_pos (by decide +kernel)]; kernel_rfl) | (rw [if_neg (by decide +kernel)]; exact ⟨rfl, rfl⟩))
    (fun os started H enc _ => lifted_FnSymbolPlace os started H enc)

theorem proved_FnSymbolPlace : Rows.FnSymbolPlaceSaid := over_FnSymbolPlace
#print axioms proved_FnSymbolPlace

end Go.Proofs.Ytignicccfjdiiaa
