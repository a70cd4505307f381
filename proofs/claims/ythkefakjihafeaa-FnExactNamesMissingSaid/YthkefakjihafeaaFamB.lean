/- The laws' families: copies, sizes, comparisons, marks. -/
import Derived.Test.YthkefakjihafeaaFamD
set_option linter.unusedVariables false
set_option linter.unusedSimpArgs false
namespace Go.Proofs.Ythkefakjihafeaa
open Go Go.RowKit


theorem pow10_pos (f : Nat) : (0 : Int) < 10 ^ f := Int.pow_pos (by omega)
def C_laws_markText : Con := { ps := [.ro .i], out := fun x => let k : Int := x.1; .req (0 ≤ k ∧ k ≤ 1000000000000) (vc .str (markT k)), det := true }
abbrev L_laws_markText : List (Nat × Con) := []
def G_laws_markText : Cfg := mkG (tyL tys_) L_laws_markText false
def an_laws_markText : PTL C_laws_markText.ps → Nat → Option Ann := fun x kk_ => let k : Int := x.1; if kk_ = 4 then some (.all (Nat) fun f => .all (Int) fun m => .all (ByteArray) fun o => .giv (0 ≤ m ∧ m < 10 ^ f ∧ digA f m o = digA 20 k (strOf []) ∧ o.size + f = 20) (.mk [(0, ai m), (3, ax o)] [] (f))) else none
set_option maxRecDepth 200000 in
theorem vc_laws_markText (k : Int) : (keeps Try.prog G_laws_markText (an_laws_markText (k, ())) (Try.f60.body.getD .skip) Try.f60.results.toList C_laws_markText (k, ())) = (((((decide (k ≤ 0)) = true) →
 ((@Eq ByteArray (ByteArray.mk (@Array.mk UInt8 [(109 : UInt8), (48 : UInt8)])) (markT k)) ∧
 True)) ∧
 (((decide (k ≤ 0)) = false) →
 ((∃ (x_1 : Nat), (∃ (x_2 : Int), (∃ (x_3 : ByteArray), ((k = x_2) ∧
 ((@Eq ByteArray (ByteArray.mk (@Array.mk UInt8 ([] : List UInt8))) x_3) ∧
 (((0 ≤ x_2) ∧
 ((x_2 < (@HPow.hPow Int Nat Int _ (10 : Int) x_1)) ∧
 ((@Eq ByteArray (digA x_1 x_2 x_3) (digA (20 : Nat) k (strOf ([] : List Int)))) ∧
 (((ByteArray.size x_3) + x_1) = 20)))) ∧
 True)))))) ∧
 (∀ (x_4 : Nat), (∀ (x_5 : Int), (∀ (x_6 : ByteArray), (((0 ≤ x_5) ∧
 ((x_5 < (@HPow.hPow Int Nat Int _ (10 : Int) x_4)) ∧
 ((@Eq ByteArray (digA x_4 x_5 x_6) (digA (20 : Nat) k (strOf ([] : List Int)))) ∧
 (((ByteArray.size x_6) + x_4) = 20)))) →
 ((((decide (0 < x_5)) = true) →
 (((0 ≤ x_5) ∧
 ((0 : Int) < (10 : Int))) ∧
 ((i64 (48 + (x_5 % (10 : Int)))) ∧
 (((List.length [((48 + (x_5 % (10 : Int))) % (256 : (Ty.den Ty.u)))]) ≤ 1000000000000) ∧
 ((((ByteArray.size (strOf [((48 + (x_5 % (10 : Int))) % (256 : (Ty.den Ty.u)))])) + (ByteArray.size x_6)) ≤ 9223372036854775807) ∧
 (((0 ≤ x_5) ∧
 ((0 : Int) < (10 : Int))) ∧
 (∃ (x_7 : Nat), (∃ (x_8 : Int), (∃ (x_9 : ByteArray), (((x_5 / (10 : Int)) = x_8) ∧
 ((@Eq ByteArray ((strOf [((48 + (x_5 % (10 : Int))) % (256 : (Ty.den Ty.u)))]) ++ x_6) x_9) ∧
 (((0 ≤ x_8) ∧
 ((x_8 < (@HPow.hPow Int Nat Int _ (10 : Int) x_7)) ∧
 ((@Eq ByteArray (digA x_7 x_8 x_9) (digA (20 : Nat) k (strOf ([] : List Int)))) ∧
 (((ByteArray.size x_9) + x_7) = 20)))) ∧
 (x_7 < x_4))))))))))))) ∧
 (((decide (0 < x_5)) = false) →
 (((1 + (ByteArray.size x_6)) ≤ 9223372036854775807) ∧
 ((@Eq ByteArray ((ByteArray.mk (@Array.mk UInt8 [(109 : UInt8)])) ++ x_6) (markT k)) ∧
 True)))))))))))) := by kernel_rfl
theorem det_laws_markText : C_laws_markText.det = true → ∀ x, (C_laws_markText.out x).Det := fun _ x => by simp only [C_laws_markText]; repeat (first | exact Det.ret _ | exact Det.vc' | apply Det.req)
set_option maxRecDepth 200000 in
set_option maxHeartbeats 4000000 in
theorem ok_laws_markText : ConOK Try.prog 60 C_laws_markText := by
  refine con_mk (wr := false) (ty := tyL tys_) (l := L_laws_markText) trivial Try.checked.mixed (fn := Try.f60) (body := Try.f60.body.getD .skip) Try.func60 rfl (by decide) (by kernel_rfl) rfl an_laws_markText fun x ho hx => ?_
  obtain ⟨k, ⟨⟩⟩ := x
  refine Keeps.of (vc_laws_markText k) ?_
  revert k ho hx
  show ∀ (k : Int), _
  intro k ho hx
  dsimp only [C_laws_markText, okPTL, okPT, Ok, Ty.cells, SN.cells, OkL, OkC, okI, ci, cb, cs, cl] at ho
  dsimp only [C_laws_markText, vc, v1, decB, SR.pre] at hx
  (try delta i64 LN); simp only [decide_eq_true_eq, decide_eq_false_iff_not, Bool.not_eq_true', Bool.not_eq_false', and_true, true_and, and_assoc, Int.toNat_natCast, exists_eq_left', exists_eq_left, exists_and_left, Int.not_lt, Int.not_le, Bool.false_eq_true, false_implies, implies_true, forall_const, List.length_append, List.length_cons, List.length_nil, Int.sub_add_cancel, Int.add_sub_cancel]
  have e0 : strOf [] = ⟨⟨[]⟩⟩ := rfl
  refine ⟨fun h => by rw [markT, if_pos h]; rfl, fun h => ⟨by omega, ⟨20, by omega, e0 ▸ rfl, rfl⟩, fun f m o ⟨h1, h2, h3, h4⟩ => ⟨fun hm => ?_, fun hm => ?_⟩⟩⟩
  · cases f with
    | zero => simp at h2; omega
    | succ f =>
      rw [Int.pow_succ] at h2
      simp only [digA, if_pos hm] at h3
      have e1 : (strOf [(48 + m % 10) % 256]).size = 1 := strOf_len _
      have e2 : (strOf [(48 + m % 10) % 256] ++ o).size = 1 + o.size := by rw [ba_len, e1]
      refine ⟨h1, by omega, by omega, by omega, by omega, by omega, h1, by omega, by omega, f, by omega, h3, by omega, by omega⟩
  · refine ⟨by omega, ?_⟩
    have : digA f m o = o := by cases f with
      | zero => rfl
      | succ f => rw [digA, if_neg (by omega)]
    rw [markT, if_neg (by omega), ← h3, this]
    rfl
def C_laws_toByteS : Con := { ps := [.ro (.list .u)], out := fun x => let a : List (Int) := x.1; .req ((a.length : Int) ≤ 1048576) (newL .u a), det := true }
abbrev L_laws_toByteS : List (Nat × Con) := []
def G_laws_toByteS : Cfg := mkG (tyL tys_) L_laws_toByteS false
def an_laws_toByteS : PTL C_laws_toByteS.ps → Nat → Option Ann := fun x kk_ => let a : List (Int) := x.1; if kk_ = 3 then some (.all (Int) fun i => .giv (0 ≤ i ∧ i ≤ a.length) (.mk [(4, ai i), (3, asl 20), (0, al .u a)] [(20, .row (some 5) .u (a.take i.toNat ++ List.replicate (a.length - i.toNat) 0) true)] ((a.length - i.toNat)))) else none
set_option maxRecDepth 200000 in
theorem vc_laws_toByteS (a : List (Int)) : (keeps Try.prog G_laws_toByteS (an_laws_toByteS (a, ())) (Try.f124.body.getD .skip) Try.f124.results.toList C_laws_toByteS (a, ())) = ((((List.length a) ≤ 9223372036854775807) →
 ((((LN a) = (LN a)) ∧
 ((0 ≤ (LN a)) ∧
 (((LN a) ≤ 1000000000000) ∧
 (((@Nat.cast Int _ (1 : Nat)) * (LN a)) ≤ 140737488355328)))) ∧
 ((∃ (x_1 : Int), ((0 = x_1) ∧
 ((@Eq (List Int) a a) ∧
 ((@Eq (List Int) (@repl Int (LN a) (0 : Int)) ((List.take (Int.toNat x_1) a) ++ (@List.replicate Int ((List.length a) - (Int.toNat x_1)) (0 : Int)))) ∧
 (((0 ≤ x_1) ∧
 (x_1 ≤ (LN a))) ∧
 True))))) ∧
 (∀ (x_2 : Int), (((0 ≤ x_2) ∧
 (x_2 ≤ (LN a))) →
 (((List.length a) ≤ 9223372036854775807) →
 ((((decide (x_2 < (LN a))) = true) →
 (((0 ≤ x_2) ∧
 (x_2 < (LN a))) ∧
 (∀ (x_3 : Int), ((@Eq (Option Int) (a)[(Int.toNat x_2)]? (some x_3)) →
 ((Ok (Ty.int IntKind.u8) x_3) →
 (((0 ≤ x_2) ∧
 (x_2 < (LN ((List.take (Int.toNat x_2) a) ++ (@List.replicate Int ((List.length a) - (Int.toNat x_2)) (0 : Int)))))) ∧
 (∀ (x_4 : Int), ((@Eq (Option Int) (((List.take (Int.toNat x_2) a) ++ (@List.replicate Int ((List.length a) - (Int.toNat x_2)) (0 : Int))))[(Int.toNat x_2)]? (some x_4)) →
 ((i64 (x_2 + (1 : Int))) ∧
 (∃ (x_5 : Int), (((x_2 + (1 : Int)) = x_5) ∧
 ((@Eq (List Int) a a) ∧
 ((@Eq (List Int) (List.set ((List.take (Int.toNat x_2) a) ++ (@List.replicate Int ((List.length a) - (Int.toNat x_2)) (0 : Int))) (Int.toNat x_2) x_3) ((List.take (Int.toNat x_5) a) ++ (@List.replicate Int ((List.length a) - (Int.toNat x_5)) (0 : Int)))) ∧
 (((0 ≤ x_5) ∧
 (x_5 ≤ (LN a))) ∧
 (((List.length a) - (Int.toNat x_5)) < ((List.length a) - (Int.toNat x_2))))))))))))))))) ∧
 (((decide (x_2 < (LN a))) = false) →
 ((@Eq (List Int) ((List.take (Int.toNat x_2) a) ++ (@List.replicate Int ((List.length a) - (Int.toNat x_2)) (0 : Int))) a) ∧
 True)))))))))) := by kernel_rfl
theorem det_laws_toByteS : C_laws_toByteS.det = true → ∀ x, (C_laws_toByteS.out x).Det := fun _ x => by simp only [C_laws_toByteS]; repeat (first | exact Det.ret _ | exact Det.vc' | apply Det.req)
set_option maxRecDepth 200000 in
set_option maxHeartbeats 4000000 in
theorem ok_laws_toByteS : ConOK Try.prog 124 C_laws_toByteS := by
  refine con_mk (wr := false) (ty := tyL tys_) (l := L_laws_toByteS) trivial Try.checked.mixed (fn := Try.f124) (body := Try.f124.body.getD .skip) Try.func124 rfl (by decide) (by kernel_rfl) rfl an_laws_toByteS fun x ho hx => ?_
  obtain ⟨a, ⟨⟩⟩ := x
  refine Keeps.of (vc_laws_toByteS a) ?_
  revert a ho hx
  show ∀ (a : List (Int)), _
  intro a ho hx
  dsimp only [C_laws_toByteS, okPTL, okPT, Ok, Ty.cells, SN.cells, OkL, OkC, okI, ci, cb, cs, cl] at ho
  dsimp only [C_laws_toByteS, vc, v1, decB, SR.pre] at hx
  (try delta i64 LN); simp only [VBt]; (repeat' first | intro _ | apply And.intro); all_goals (try omega); all_goals first | exact repl_fill | exact set_fill' ‹_› (by omega) | exact fill_full' (by omega) | (simp only [List.length_take, List.length_replicate, mkd_len, List.length_set, List.length_append]; omega)
def C_laws_szByteS : Con := { ps := [.ro (.list .u), .ro .i], out := fun x => let a : List (Int) := x.1; let left : Int := x.2.1; .req (0 ≤ left ∧ left ≤ 1048576) (vc .i (szR a.length left)), det := true }
abbrev L_laws_szByteS : List (Nat × Con) := []
def G_laws_szByteS : Cfg := mkG (tyL tys_) L_laws_szByteS false
def an_laws_szByteS : PTL C_laws_szByteS.ps → Nat → Option Ann := fun _ _ => none
set_option maxRecDepth 200000 in
theorem vc_laws_szByteS (a : List (Int)) (left : Int) : (keeps Try.prog G_laws_szByteS (an_laws_szByteS (a, left, ())) (Try.f122.body.getD .skip) Try.f122.results.toList C_laws_szByteS (a, left, ())) = ((((List.length a) ≤ 9223372036854775807) →
 ((i64 (left - (LN a))) ∧
 ((((decide ((left - (LN a)) < 0)) = true) →
 (((- (1 : Int)) = (szR (LN a) left)) ∧
 True)) ∧
 (((decide ((left - (LN a)) < 0)) = false) →
 (((left - (LN a)) = (szR (LN a) left)) ∧
 True)))))) := by kernel_rfl
theorem det_laws_szByteS : C_laws_szByteS.det = true → ∀ x, (C_laws_szByteS.out x).Det := fun _ x => by simp only [C_laws_szByteS]; repeat (first | exact Det.ret _ | exact Det.vc' | apply Det.req)
set_option maxRecDepth 200000 in
set_option maxHeartbeats 4000000 in
theorem ok_laws_szByteS : ConOK Try.prog 122 C_laws_szByteS := by
  refine con_mk (wr := false) (ty := tyL tys_) (l := L_laws_szByteS) trivial Try.checked.mixed (fn := Try.f122) (body := Try.f122.body.getD .skip) Try.func122 rfl (by decide) (by kernel_rfl) rfl an_laws_szByteS fun x ho hx => ?_
  obtain ⟨a, left, ⟨⟩⟩ := x
  refine Keeps.of (vc_laws_szByteS a left) ?_
  revert a left ho hx
  show ∀ (a : List (Int)) (left : Int), _
  intro a left ho hx
  dsimp only [C_laws_szByteS, okPTL, okPT, Ok, Ty.cells, SN.cells, OkL, OkC, okI, ci, cb, cs, cl] at ho
  dsimp only [C_laws_szByteS, vc, v1, decB, SR.pre] at hx
  (try delta i64 LN); simp only [VBt]; (repeat' first | intro _ | apply And.intro); all_goals (try omega); all_goals (unfold szR; split <;> omega)
def C_laws_eqByteS : Con := { ps := [.ro (.list .u), .ro (.list .u)], out := fun x => let a : List (Int) := x.1; let b : List (Int) := x.2.1; vc .bool (decide (a = b)), det := true }
abbrev L_laws_eqByteS : List (Nat × Con) := []
def G_laws_eqByteS : Cfg := mkG (tyL tys_) L_laws_eqByteS false
def an_laws_eqByteS : PTL C_laws_eqByteS.ps → Nat → Option Ann := fun x kk_ => let a : List (Int) := x.1; let b : List (Int) := x.2.1; if kk_ = 4 then some (.all (Int) fun i => .giv (0 ≤ i ∧ i ≤ a.length ∧ a.length = b.length ∧ a.take i.toNat = b.take i.toNat) (.mk [(5, ai i), (0, al .u a), (1, al .u b)] [] ((a.length - i.toNat)))) else none
set_option maxRecDepth 200000 in
theorem vc_laws_eqByteS (a : List (Int)) (b : List (Int)) : (keeps Try.prog G_laws_eqByteS (an_laws_eqByteS (a, b, ())) (Try.f126.body.getD .skip) Try.f126.results.toList C_laws_eqByteS (a, b, ())) = ((((List.length a) ≤ 9223372036854775807) →
 (((List.length b) ≤ 9223372036854775807) →
 ((((decide ((LN a) ≠ (LN b))) = true) →
 ((false = (decide (@Eq (List Int) a b))) ∧
 True)) ∧
 (((decide ((LN a) ≠ (LN b))) = false) →
 ((∃ (x_1 : Int), ((0 = x_1) ∧
 ((@Eq (List Int) a a) ∧
 ((@Eq (List Int) b b) ∧
 (((0 ≤ x_1) ∧
 ((x_1 ≤ (LN a)) ∧
 (((List.length a) = (List.length b)) ∧
 (@Eq (List Int) (List.take (Int.toNat x_1) a) (List.take (Int.toNat x_1) b))))) ∧
 True))))) ∧
 (∀ (x_2 : Int), (((0 ≤ x_2) ∧
 ((x_2 ≤ (LN a)) ∧
 (((List.length a) = (List.length b)) ∧
 (@Eq (List Int) (List.take (Int.toNat x_2) a) (List.take (Int.toNat x_2) b))))) →
 (((List.length a) ≤ 9223372036854775807) →
 ((((decide (x_2 < (LN a))) = true) →
 (((0 ≤ x_2) ∧
 (x_2 < (LN a))) ∧
 (∀ (x_3 : Int), ((@Eq (Option Int) (a)[(Int.toNat x_2)]? (some x_3)) →
 ((Ok (Ty.int IntKind.u8) x_3) →
 (((0 ≤ x_2) ∧
 (x_2 < (LN b))) ∧
 (∀ (x_4 : Int), ((@Eq (Option Int) (b)[(Int.toNat x_2)]? (some x_4)) →
 ((Ok (Ty.int IntKind.u8) x_4) →
 ((((decide (x_3 ≠ x_4)) = true) →
 ((false = (decide (@Eq (List Int) a b))) ∧
 True)) ∧
 (((decide (x_3 ≠ x_4)) = false) →
 ((i64 (x_2 + (1 : Int))) ∧
 (∃ (x_5 : Int), (((x_2 + (1 : Int)) = x_5) ∧
 ((@Eq (List Int) a a) ∧
 ((@Eq (List Int) b b) ∧
 (((0 ≤ x_5) ∧
 ((x_5 ≤ (LN a)) ∧
 (((List.length a) = (List.length b)) ∧
 (@Eq (List Int) (List.take (Int.toNat x_5) a) (List.take (Int.toNat x_5) b))))) ∧
 (((List.length a) - (Int.toNat x_5)) < ((List.length a) - (Int.toNat x_2)))))))))))))))))))) ∧
 (((decide (x_2 < (LN a))) = false) →
 ((true = (decide (@Eq (List Int) a b))) ∧
 True)))))))))))) := by kernel_rfl
theorem det_laws_eqByteS : C_laws_eqByteS.det = true → ∀ x, (C_laws_eqByteS.out x).Det := fun _ _ => Det.vc'
set_option maxRecDepth 200000 in
set_option maxHeartbeats 4000000 in
theorem ok_laws_eqByteS : ConOK Try.prog 126 C_laws_eqByteS := by
  refine con_mk (wr := false) (ty := tyL tys_) (l := L_laws_eqByteS) trivial Try.checked.mixed (fn := Try.f126) (body := Try.f126.body.getD .skip) Try.func126 rfl (by decide) (by kernel_rfl) rfl an_laws_eqByteS fun x ho hx => ?_
  obtain ⟨a, b, ⟨⟩⟩ := x
  refine Keeps.of (vc_laws_eqByteS a b) ?_
  revert a b ho hx
  show ∀ (a : List (Int)) (b : List (Int)), _
  intro a b ho hx
  dsimp only [C_laws_eqByteS, okPTL, okPT, Ok, Ty.cells, SN.cells, OkL, OkC, okI, ci, cb, cs, cl] at ho
  dsimp only [C_laws_eqByteS, vc, v1, decB, SR.pre] at hx
  (try delta i64 LN); simp only [VBt]; (repeat' first | intro _ | apply And.intro); all_goals (try omega); all_goals first | grind [take_all', take_next, take_diff] | exact take_next2 (by omega) (by assumption) (by assumption) (by assumption) (by assumption) | exact take_diff2 (by assumption) (by assumption) (by assumption)
def C_laws_markByteS : Con := { ps := [.row none .u, .ro .i], out := fun x => let a : List (Int) := x.1; let k : Int := x.2.1; .req (0 ≤ k ∧ k + sumI cOne a ≤ 1000000000000) (turnL .u (mkL mkU cOne a k) (k + sumI cOne a)), det := true }
abbrev L_laws_markByteS : List (Nat × Con) := []
def G_laws_markByteS : Cfg := mkG (tyL tys_) L_laws_markByteS false
def an_laws_markByteS : PTL C_laws_markByteS.ps → Nat → Option Ann := fun x kk_ => let a : List (Int) := x.1; let k : Int := x.2.1; if kk_ = 2 then some (.all (Int) fun i => .giv (0 ≤ i ∧ i ≤ a.length) (.mk [(5, ai i), (1, ai (k + sumI cOne (a.take i.toNat))), (0, asl 0)] [(0, .row none .u (mkd mkU cOne a k i.toNat) true)] ((a.length - i.toNat)))) else none
set_option maxRecDepth 200000 in
theorem vc_laws_markByteS (a : List (Int)) (k : Int) : (keeps Try.prog G_laws_markByteS (an_laws_markByteS (a, k, ())) (Try.f92.body.getD .skip) Try.f92.results.toList C_laws_markByteS (a, k, ())) = (((∃ (x_1 : Int), ((0 = x_1) ∧
 ((k = (k + (@sumI Int (@cOne Int) (List.take (Int.toNat x_1) a)))) ∧
 ((@Eq (List Int) a (@mkd Int mkU (@cOne Int) a k (Int.toNat x_1))) ∧
 (((0 ≤ x_1) ∧
 (x_1 ≤ (LN a))) ∧
 True))))) ∧
 (∀ (x_2 : Int), (((0 ≤ x_2) ∧
 (x_2 ≤ (LN a))) →
 (((List.length (@mkd Int mkU (@cOne Int) a k (Int.toNat x_2))) ≤ 9223372036854775807) →
 ((((decide (x_2 < (LN (@mkd Int mkU (@cOne Int) a k (Int.toNat x_2))))) = true) →
 (((0 ≤ x_2) ∧
 (x_2 < (LN (@mkd Int mkU (@cOne Int) a k (Int.toNat x_2))))) ∧
 (∀ (x_3 : Int), ((@Eq (Option Int) ((@mkd Int mkU (@cOne Int) a k (Int.toNat x_2)))[(Int.toNat x_2)]? (some x_3)) →
 ((i64 ((k + (@sumI Int (@cOne Int) (List.take (Int.toNat x_2) a))) + 1)) ∧
 ((i64 (x_2 + (1 : Int))) ∧
 (∃ (x_4 : Int), (((x_2 + (1 : Int)) = x_4) ∧
 ((((k + (@sumI Int (@cOne Int) (List.take (Int.toNat x_2) a))) + 1) = (k + (@sumI Int (@cOne Int) (List.take (Int.toNat x_4) a)))) ∧
 ((@Eq (List Int) (List.set (@mkd Int mkU (@cOne Int) a k (Int.toNat x_2)) (Int.toNat x_2) ((k + (@sumI Int (@cOne Int) (List.take (Int.toNat x_2) a))) % (256 : (Ty.den Ty.u)))) (@mkd Int mkU (@cOne Int) a k (Int.toNat x_4))) ∧
 (((0 ≤ x_4) ∧
 (x_4 ≤ (LN a))) ∧
 (((List.length a) - (Int.toNat x_4)) < ((List.length a) - (Int.toNat x_2)))))))))))))) ∧
 (((decide (x_2 < (LN (@mkd Int mkU (@cOne Int) a k (Int.toNat x_2))))) = false) →
 (((k + (@sumI Int (@cOne Int) (List.take (Int.toNat x_2) a))) = (k + (@sumI Int (@cOne Int) a))) ∧
 ((@Eq (List Int) (@mkd Int mkU (@cOne Int) a k (Int.toNat x_2)) (@mkL Int mkU (@cOne Int) a k)) ∧
 True))))))))) := by kernel_rfl
theorem det_laws_markByteS : C_laws_markByteS.det = true → ∀ x, (C_laws_markByteS.out x).Det := fun _ x => by simp only [C_laws_markByteS]; repeat (first | exact Det.ret _ | exact Det.vc' | apply Det.req)
set_option maxRecDepth 200000 in
set_option maxHeartbeats 4000000 in
theorem ok_laws_markByteS : ConOK Try.prog 92 C_laws_markByteS := by
  refine con_mk (wr := false) (ty := tyL tys_) (l := L_laws_markByteS) trivial Try.checked.mixed (fn := Try.f92) (body := Try.f92.body.getD .skip) Try.func92 rfl (by decide) (by kernel_rfl) rfl an_laws_markByteS fun x ho hx => ?_
  obtain ⟨a, k, ⟨⟩⟩ := x
  refine Keeps.of (vc_laws_markByteS a k) ?_
  revert a k ho hx
  show ∀ (a : List (Int)) (k : Int), _
  intro a k ho hx
  dsimp only [C_laws_markByteS, okPTL, okPT, Ok, Ty.cells, SN.cells, OkL, OkC, okI, ci, cb, cs, cl] at ho
  dsimp only [C_laws_markByteS, vc, v1, decB, SR.pre] at hx
  have cn : ∀ x : Int, 0 ≤ cOne x := cOne_nn
  have cl := sumI_le cn a
  have cs := sumI_nn cn
  (try delta i64 LN); simp only [VBt]; (repeat' first | intro _ | apply And.intro); all_goals (try omega); all_goals first | (simp only [List.length_take, List.length_replicate, mkd_len, List.length_set, List.length_append]; omega) | grind [mkd_len, mkd_get, mkd_set', mkd_full', mkd_zero, sumI_next, sumI_all, cOne, c4, sumI, mkU, mkI, mkSt]
def C_laws_eqStringS : Con := { ps := [.ro (.list .str), .ro (.list .str)], out := fun x => let a : List (ByteArray) := x.1; let b : List (ByteArray) := x.2.1; vc .bool (decide (a = b)), det := true }
abbrev L_laws_eqStringS : List (Nat × Con) := []
def G_laws_eqStringS : Cfg := mkG (tyL tys_) L_laws_eqStringS false
def an_laws_eqStringS : PTL C_laws_eqStringS.ps → Nat → Option Ann := fun x kk_ => let a : List (ByteArray) := x.1; let b : List (ByteArray) := x.2.1; if kk_ = 4 then some (.all (Int) fun i => .giv (0 ≤ i ∧ i ≤ a.length ∧ a.length = b.length ∧ a.take i.toNat = b.take i.toNat) (.mk [(5, ai i), (0, al .str a), (1, al .str b)] [] ((a.length - i.toNat)))) else none
set_option maxRecDepth 200000 in
theorem vc_laws_eqStringS (a : List (ByteArray)) (b : List (ByteArray)) : (keeps Try.prog G_laws_eqStringS (an_laws_eqStringS (a, b, ())) (Try.f29.body.getD .skip) Try.f29.results.toList C_laws_eqStringS (a, b, ())) = ((((List.length a) ≤ 9223372036854775807) →
 (((List.length b) ≤ 9223372036854775807) →
 ((((decide ((LN a) ≠ (LN b))) = true) →
 ((false = (decide (@Eq (List ByteArray) a b))) ∧
 True)) ∧
 (((decide ((LN a) ≠ (LN b))) = false) →
 ((∃ (x_1 : Int), ((0 = x_1) ∧
 ((@Eq (List ByteArray) a a) ∧
 ((@Eq (List ByteArray) b b) ∧
 (((0 ≤ x_1) ∧
 ((x_1 ≤ (LN a)) ∧
 (((List.length a) = (List.length b)) ∧
 (@Eq (List ByteArray) (List.take (Int.toNat x_1) a) (List.take (Int.toNat x_1) b))))) ∧
 True))))) ∧
 (∀ (x_2 : Int), (((0 ≤ x_2) ∧
 ((x_2 ≤ (LN a)) ∧
 (((List.length a) = (List.length b)) ∧
 (@Eq (List ByteArray) (List.take (Int.toNat x_2) a) (List.take (Int.toNat x_2) b))))) →
 (((List.length a) ≤ 9223372036854775807) →
 ((((decide (x_2 < (LN a))) = true) →
 (((0 ≤ x_2) ∧
 (x_2 < (LN a))) ∧
 (∀ (x_3 : ByteArray), ((@Eq (Option ByteArray) (a)[(Int.toNat x_2)]? (some x_3)) →
 ((Ok Ty.str x_3) →
 (((0 ≤ x_2) ∧
 (x_2 < (LN b))) ∧
 (∀ (x_4 : ByteArray), ((@Eq (Option ByteArray) (b)[(Int.toNat x_2)]? (some x_4)) →
 ((Ok Ty.str x_4) →
 ((((decide (x_3 ≠ x_4)) = true) →
 ((false = (decide (@Eq (List ByteArray) a b))) ∧
 True)) ∧
 (((decide (x_3 ≠ x_4)) = false) →
 ((i64 (x_2 + (1 : Int))) ∧
 (∃ (x_5 : Int), (((x_2 + (1 : Int)) = x_5) ∧
 ((@Eq (List ByteArray) a a) ∧
 ((@Eq (List ByteArray) b b) ∧
 (((0 ≤ x_5) ∧
 ((x_5 ≤ (LN a)) ∧
 (((List.length a) = (List.length b)) ∧
 (@Eq (List ByteArray) (List.take (Int.toNat x_5) a) (List.take (Int.toNat x_5) b))))) ∧
 (((List.length a) - (Int.toNat x_5)) < ((List.length a) - (Int.toNat x_2)))))))))))))))))))) ∧
 (((decide (x_2 < (LN a))) = false) →
 ((true = (decide (@Eq (List ByteArray) a b))) ∧
 True)))))))))))) := by kernel_rfl
theorem det_laws_eqStringS : C_laws_eqStringS.det = true → ∀ x, (C_laws_eqStringS.out x).Det := fun _ _ => Det.vc'
set_option maxRecDepth 200000 in
set_option maxHeartbeats 4000000 in
theorem ok_laws_eqStringS : ConOK Try.prog 29 C_laws_eqStringS := by
  refine con_mk (wr := false) (ty := tyL tys_) (l := L_laws_eqStringS) trivial Try.checked.mixed (fn := Try.f29) (body := Try.f29.body.getD .skip) Try.func29 rfl (by decide) (by kernel_rfl) rfl an_laws_eqStringS fun x ho hx => ?_
  obtain ⟨a, b, ⟨⟩⟩ := x
  refine Keeps.of (vc_laws_eqStringS a b) ?_
  revert a b ho hx
  show ∀ (a : List (ByteArray)) (b : List (ByteArray)), _
  intro a b ho hx
  dsimp only [C_laws_eqStringS, okPTL, okPT, Ok, Ty.cells, SN.cells, OkL, OkC, okI, ci, cb, cs, cl] at ho
  dsimp only [C_laws_eqStringS, vc, v1, decB, SR.pre] at hx
  (try delta i64 LN); simp only [VBt]; (repeat' first | intro _ | apply And.intro); all_goals (try omega); all_goals first | grind [take_all', take_next, take_diff] | exact take_next2 (by omega) (by assumption) (by assumption) (by assumption) (by assumption) | exact take_diff2 (by assumption) (by assumption) (by assumption)
def C_laws_markStringS : Con := { ps := [.row none .str, .ro .i], out := fun x => let a : List (ByteArray) := x.1; let k : Int := x.2.1; .req (0 ≤ k ∧ k + sumI cOne a ≤ 1000000000000) (turnL .str (mkL mkSt cOne a k) (k + sumI cOne a)), det := true }
abbrev L_laws_markStringS : List (Nat × Con) := [(60, C_laws_markText)]
def G_laws_markStringS : Cfg := mkG (tyL tys_) L_laws_markStringS false
def an_laws_markStringS : PTL C_laws_markStringS.ps → Nat → Option Ann := fun x kk_ => let a : List (ByteArray) := x.1; let k : Int := x.2.1; if kk_ = 2 then some (.all (Int) fun i => .giv (0 ≤ i ∧ i ≤ a.length) (.mk [(5, ai i), (1, ai (k + sumI cOne (a.take i.toNat))), (0, asl 0)] [(0, .row none .str (mkd mkSt cOne a k i.toNat) true)] ((a.length - i.toNat)))) else none
set_option maxRecDepth 200000 in
theorem vc_laws_markStringS (a : List (ByteArray)) (k : Int) : (keeps Try.prog G_laws_markStringS (an_laws_markStringS (a, k, ())) (Try.f32.body.getD .skip) Try.f32.results.toList C_laws_markStringS (a, k, ())) = (((∃ (x_1 : Int), ((0 = x_1) ∧
 ((k = (k + (@sumI ByteArray (@cOne ByteArray) (List.take (Int.toNat x_1) a)))) ∧
 ((@Eq (List ByteArray) a (@mkd ByteArray mkSt (@cOne ByteArray) a k (Int.toNat x_1))) ∧
 (((0 ≤ x_1) ∧
 (x_1 ≤ (LN a))) ∧
 True))))) ∧
 (∀ (x_2 : Int), (((0 ≤ x_2) ∧
 (x_2 ≤ (LN a))) →
 (((List.length (@mkd ByteArray mkSt (@cOne ByteArray) a k (Int.toNat x_2))) ≤ 9223372036854775807) →
 ((((decide (x_2 < (LN (@mkd ByteArray mkSt (@cOne ByteArray) a k (Int.toNat x_2))))) = true) →
 (((0 ≤ (k + (@sumI ByteArray (@cOne ByteArray) (List.take (Int.toNat x_2) a)))) ∧
 ((k + (@sumI ByteArray (@cOne ByteArray) (List.take (Int.toNat x_2) a))) ≤ 1000000000000)) ∧
 (((0 ≤ x_2) ∧
 (x_2 < (LN (@mkd ByteArray mkSt (@cOne ByteArray) a k (Int.toNat x_2))))) ∧
 (∀ (x_3 : ByteArray), ((@Eq (Option ByteArray) ((@mkd ByteArray mkSt (@cOne ByteArray) a k (Int.toNat x_2)))[(Int.toNat x_2)]? (some x_3)) →
 ((i64 ((k + (@sumI ByteArray (@cOne ByteArray) (List.take (Int.toNat x_2) a))) + 1)) ∧
 ((i64 (x_2 + (1 : Int))) ∧
 (∃ (x_4 : Int), (((x_2 + (1 : Int)) = x_4) ∧
 ((((k + (@sumI ByteArray (@cOne ByteArray) (List.take (Int.toNat x_2) a))) + 1) = (k + (@sumI ByteArray (@cOne ByteArray) (List.take (Int.toNat x_4) a)))) ∧
 ((@Eq (List ByteArray) (List.set (@mkd ByteArray mkSt (@cOne ByteArray) a k (Int.toNat x_2)) (Int.toNat x_2) (markT (k + (@sumI ByteArray (@cOne ByteArray) (List.take (Int.toNat x_2) a))))) (@mkd ByteArray mkSt (@cOne ByteArray) a k (Int.toNat x_4))) ∧
 (((0 ≤ x_4) ∧
 (x_4 ≤ (LN a))) ∧
 (((List.length a) - (Int.toNat x_4)) < ((List.length a) - (Int.toNat x_2))))))))))))))) ∧
 (((decide (x_2 < (LN (@mkd ByteArray mkSt (@cOne ByteArray) a k (Int.toNat x_2))))) = false) →
 (((k + (@sumI ByteArray (@cOne ByteArray) (List.take (Int.toNat x_2) a))) = (k + (@sumI ByteArray (@cOne ByteArray) a))) ∧
 ((@Eq (List ByteArray) (@mkd ByteArray mkSt (@cOne ByteArray) a k (Int.toNat x_2)) (@mkL ByteArray mkSt (@cOne ByteArray) a k)) ∧
 True))))))))) := by kernel_rfl
theorem det_laws_markStringS : C_laws_markStringS.det = true → ∀ x, (C_laws_markStringS.out x).Det := fun _ x => by simp only [C_laws_markStringS]; repeat (first | exact Det.ret _ | exact Det.vc' | apply Det.req)
set_option maxRecDepth 200000 in
set_option maxHeartbeats 4000000 in
theorem ok_laws_markStringS : ConOK Try.prog 32 C_laws_markStringS := by
  refine con_mk (wr := false) (ty := tyL tys_) (l := L_laws_markStringS) ⟨⟨ok_laws_markText, det_laws_markText⟩, trivial⟩ Try.checked.mixed (fn := Try.f32) (body := Try.f32.body.getD .skip) Try.func32 rfl (by decide) (by kernel_rfl) rfl an_laws_markStringS fun x ho hx => ?_
  obtain ⟨a, k, ⟨⟩⟩ := x
  refine Keeps.of (vc_laws_markStringS a k) ?_
  revert a k ho hx
  show ∀ (a : List (ByteArray)) (k : Int), _
  intro a k ho hx
  dsimp only [C_laws_markStringS, okPTL, okPT, Ok, Ty.cells, SN.cells, OkL, OkC, okI, ci, cb, cs, cl] at ho
  dsimp only [C_laws_markStringS, vc, v1, decB, SR.pre] at hx
  have cn : ∀ x : ByteArray, 0 ≤ cOne x := cOne_nn
  have cl := sumI_le cn a
  have cs := sumI_nn cn
  (try delta i64 LN); simp only [VBt]; (repeat' first | intro _ | apply And.intro); all_goals (try omega); all_goals first | (simp only [List.length_take, List.length_replicate, mkd_len, List.length_set, List.length_append]; omega) | grind [mkd_len, mkd_get, mkd_set', mkd_full', mkd_zero, sumI_next, sumI_all, cOne, c4, sumI, mkU, mkI, mkSt]
def C_laws_heldStringS : Con := { ps := [.ro (.list .str), .ro .i], out := fun x => let a : List (ByteArray) := x.1; let k : Int := x.2.1; .req (0 ≤ k ∧ k + sumI cOne a ≤ 1000000000000) (vc .i (hdL hSt a k)), det := true }
abbrev L_laws_heldStringS : List (Nat × Con) := [(60, C_laws_markText)]
def G_laws_heldStringS : Cfg := mkG (tyL tys_) L_laws_heldStringS false
def an_laws_heldStringS : PTL C_laws_heldStringS.ps → Nat → Option Ann := fun x kk_ => let a : List (ByteArray) := x.1; let k : Int := x.2.1; if kk_ = 2 then some (.all (Int) fun i => .all (Int) fun m => .giv (0 ≤ i ∧ i ≤ a.length ∧ 0 ≤ m ∧ m + sumI cOne (a.drop i.toNat) ≤ 1000000000000 ∧ hdL hSt a k = hdL hSt (a.drop i.toNat) m) (.mk [(5, ai i), (1, ai m), (0, al .str a)] [] ((a.length - i.toNat)))) else none
set_option maxRecDepth 200000 in
theorem vc_laws_heldStringS (a : List (ByteArray)) (k : Int) : (keeps Try.prog G_laws_heldStringS (an_laws_heldStringS (a, k, ())) (Try.f33.body.getD .skip) Try.f33.results.toList C_laws_heldStringS (a, k, ())) = (((∃ (x_1 : Int), (∃ (x_2 : Int), ((0 = x_1) ∧
 ((k = x_2) ∧
 ((@Eq (List ByteArray) a a) ∧
 (((0 ≤ x_1) ∧
 ((x_1 ≤ (LN a)) ∧
 ((0 ≤ x_2) ∧
 (((x_2 + (@sumI ByteArray (@cOne ByteArray) (List.drop (Int.toNat x_1) a))) ≤ 1000000000000) ∧
 ((@hdL ByteArray hSt a k) = (@hdL ByteArray hSt (List.drop (Int.toNat x_1) a) x_2)))))) ∧
 True)))))) ∧
 (∀ (x_3 : Int), (∀ (x_4 : Int), (((0 ≤ x_3) ∧
 ((x_3 ≤ (LN a)) ∧
 ((0 ≤ x_4) ∧
 (((x_4 + (@sumI ByteArray (@cOne ByteArray) (List.drop (Int.toNat x_3) a))) ≤ 1000000000000) ∧
 ((@hdL ByteArray hSt a k) = (@hdL ByteArray hSt (List.drop (Int.toNat x_3) a) x_4)))))) →
 (((List.length a) ≤ 9223372036854775807) →
 ((((decide (x_3 < (LN a))) = true) →
 (((0 ≤ x_3) ∧
 (x_3 < (LN a))) ∧
 (∀ (x_5 : ByteArray), ((@Eq (Option ByteArray) (a)[(Int.toNat x_3)]? (some x_5)) →
 ((Ok Ty.str x_5) →
 (((0 ≤ x_4) ∧
 (x_4 ≤ (1000000000000 : Int))) ∧
 ((((decide (x_5 ≠ (markT x_4))) = true) →
 (((- (1 : Int)) = (@hdL ByteArray hSt a k)) ∧
 True)) ∧
 (((decide (x_5 ≠ (markT x_4))) = false) →
 ((i64 (x_4 + (1 : Int))) ∧
 ((i64 (x_3 + (1 : Int))) ∧
 (∃ (x_6 : Int), (∃ (x_7 : Int), (((x_3 + (1 : Int)) = x_6) ∧
 (((x_4 + (1 : Int)) = x_7) ∧
 ((@Eq (List ByteArray) a a) ∧
 (((0 ≤ x_6) ∧
 ((x_6 ≤ (LN a)) ∧
 ((0 ≤ x_7) ∧
 (((x_7 + (@sumI ByteArray (@cOne ByteArray) (List.drop (Int.toNat x_6) a))) ≤ 1000000000000) ∧
 ((@hdL ByteArray hSt a k) = (@hdL ByteArray hSt (List.drop (Int.toNat x_6) a) x_7)))))) ∧
 (((List.length a) - (Int.toNat x_6)) < ((List.length a) - (Int.toNat x_3))))))))))))))))))) ∧
 (((decide (x_3 < (LN a))) = false) →
 ((x_4 = (@hdL ByteArray hSt a k)) ∧
 True))))))))) := by kernel_rfl
theorem det_laws_heldStringS : C_laws_heldStringS.det = true → ∀ x, (C_laws_heldStringS.out x).Det := fun _ x => by simp only [C_laws_heldStringS]; repeat (first | exact Det.ret _ | exact Det.vc' | apply Det.req)
set_option maxRecDepth 200000 in
set_option maxHeartbeats 4000000 in
theorem ok_laws_heldStringS : ConOK Try.prog 33 C_laws_heldStringS := by
  refine con_mk (wr := false) (ty := tyL tys_) (l := L_laws_heldStringS) ⟨⟨ok_laws_markText, det_laws_markText⟩, trivial⟩ Try.checked.mixed (fn := Try.f33) (body := Try.f33.body.getD .skip) Try.func33 rfl (by decide) (by kernel_rfl) rfl an_laws_heldStringS fun x ho hx => ?_
  obtain ⟨a, k, ⟨⟩⟩ := x
  refine Keeps.of (vc_laws_heldStringS a k) ?_
  revert a k ho hx
  show ∀ (a : List (ByteArray)) (k : Int), _
  intro a k ho hx
  dsimp only [C_laws_heldStringS, okPTL, okPT, Ok, Ty.cells, SN.cells, OkL, OkC, okI, ci, cb, cs, cl] at ho
  dsimp only [C_laws_heldStringS, vc, v1, decB, SR.pre] at hx
  have cn : ∀ x : ByteArray, 0 ≤ cOne x := cOne_nn
  have cs := sumI_nn cn
  (try delta i64 LN); simp only [VBt]; (repeat' first | intro _ | apply And.intro); all_goals (try omega); all_goals first | (simp only [List.length_take, List.length_replicate, mkd_len, List.length_set, List.length_append]; omega) | grind [hdL_drop, sumI_drop, drop_end, hdL, sumI, hU, hI, hSt, cOne, c4]
end Go.Proofs.Ythkefakjihafeaa
