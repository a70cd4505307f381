/- The laws' families: objects. -/
import Derived.Test.YthkefakjihafeaaFamB
import Derived.Test.YthkefakjihafeaaLib
set_option linter.unusedVariables false
set_option linter.unusedSimpArgs false
namespace Go.Proofs.Ythkefakjihafeaa
open Go Go.RowKit


def C_laws_toFixup : Con := { ps := [.ro (.st .fixup)], out := fun x => let a : Fixup := x.1; newS .fixup a, det := true }
abbrev L_laws_toFixup : List (Nat × Con) := []
def G_laws_toFixup : Cfg := mkG (tyL tys_) L_laws_toFixup false
def an_laws_toFixup : PTL C_laws_toFixup.ps → Nat → Option Ann := fun _ _ => none
set_option maxRecDepth 200000 in
theorem vc_laws_toFixup (a : Fixup) : (keeps Try.prog G_laws_toFixup (an_laws_toFixup (a, ())) (Try.f139.body.getD .skip) Try.f139.results.toList C_laws_toFixup (a, ())) = ((Fixup.at_ a = Fixup.at_ a ∧ Fixup.kind a = Fixup.kind a ∧ Fixup.to a = Fixup.to a ∧ Fixup.add a = Fixup.add a ∧ True)) := by kernel_rfl
theorem det_laws_toFixup : C_laws_toFixup.det = true → ∀ x, (C_laws_toFixup.out x).Det := fun _ x => by simp only [C_laws_toFixup]; repeat (first | exact Det.ret _ | exact Det.vc' | apply Det.req)
set_option maxRecDepth 200000 in
set_option maxHeartbeats 4000000 in
theorem ok_laws_toFixup : ConOK Try.prog 139 C_laws_toFixup := by
  refine con_mk (wr := false) (ty := tyL tys_) (l := L_laws_toFixup) trivial Try.checked.mixed (fn := Try.f139) (body := Try.f139.body.getD .skip) Try.func139 rfl (by decide) (by kernel_rfl) rfl an_laws_toFixup fun x ho hx => ?_
  obtain ⟨a, ⟨⟩⟩ := x
  refine Keeps.of (vc_laws_toFixup a) ?_
  revert a ho hx
  show ∀ (a : Fixup), _
  intro a ho hx
  dsimp only [C_laws_toFixup, okPTL, okPT, Ok, Ty.cells, SN.cells, OkL, OkC, okI, ci, cb, cs, cl] at ho
  dsimp only [C_laws_toFixup, vc, v1, decB, SR.pre] at hx
  (try delta i64 LN); simp only [VBt]; (repeat' first | intro _ | apply And.intro); all_goals (try omega); all_goals (try grind [szIm, szMe, szHa, szPa, szSe, szSy, szOb, szMb])
def C_laws_eqFixup : Con := { ps := [.ro (.st .fixup), .ro (.st .fixup)], out := fun x => let a : Fixup := x.1; let b : Fixup := x.2.1; vc .bool (decide (a = b)), det := true }
abbrev L_laws_eqFixup : List (Nat × Con) := []
def G_laws_eqFixup : Cfg := mkG (tyL tys_) L_laws_eqFixup false
def an_laws_eqFixup : PTL C_laws_eqFixup.ps → Nat → Option Ann := fun _ _ => none
set_option maxRecDepth 200000 in
theorem vc_laws_eqFixup (a : Fixup) (b : Fixup) : (keeps Try.prog G_laws_eqFixup (an_laws_eqFixup (a, b, ())) (Try.f140.body.getD .skip) Try.f140.results.toList C_laws_eqFixup (a, b, ())) = (((decide (Fixup.at_ a ≠ Fixup.at_ b) = true →
 false = decide (@Eq Fixup a b) ∧ True) ∧ (decide (Fixup.at_ a ≠ Fixup.at_ b) = false →
 (decide (Fixup.kind a ≠ Fixup.kind b) = true →
 false = decide (@Eq Fixup a b) ∧ True) ∧ (decide (Fixup.kind a ≠ Fixup.kind b) = false →
 (decide (Fixup.to a ≠ Fixup.to b) = true →
 false = decide (@Eq Fixup a b) ∧ True) ∧ (decide (Fixup.to a ≠ Fixup.to b) = false →
 (decide (Fixup.add a ≠ Fixup.add b) = true →
 false = decide (@Eq Fixup a b) ∧ True) ∧ (decide (Fixup.add a ≠ Fixup.add b) = false →
 true = decide (@Eq Fixup a b) ∧ True)))))) := by kernel_rfl
theorem det_laws_eqFixup : C_laws_eqFixup.det = true → ∀ x, (C_laws_eqFixup.out x).Det := fun _ _ => Det.vc'
set_option maxRecDepth 200000 in
set_option maxHeartbeats 4000000 in
theorem ok_laws_eqFixup : ConOK Try.prog 140 C_laws_eqFixup := by
  refine con_mk (wr := false) (ty := tyL tys_) (l := L_laws_eqFixup) trivial Try.checked.mixed (fn := Try.f140) (body := Try.f140.body.getD .skip) Try.func140 rfl (by decide) (by kernel_rfl) rfl an_laws_eqFixup fun x ho hx => ?_
  obtain ⟨a, b, ⟨⟩⟩ := x
  refine Keeps.of (vc_laws_eqFixup a b) ?_
  revert a b ho hx
  show ∀ (a : Fixup) (b : Fixup), _
  intro a b ho hx
  dsimp only [C_laws_eqFixup, okPTL, okPT, Ok, Ty.cells, SN.cells, OkL, OkC, okI, ci, cb, cs, cl] at ho
  dsimp only [C_laws_eqFixup, vc, v1, decB, SR.pre] at hx
  (try delta i64 LN); simp only [VBt]; (repeat' first | intro _ | apply And.intro); all_goals (try omega); all_goals (first | grind [cases Img] | (cases a; cases b; simp_all; done) | (obtain ⟨⟨_, _⟩, _⟩ := a; obtain ⟨⟨_, _⟩, _⟩ := b; simp_all; done) | (obtain ⟨_, _, _⟩ := a; obtain ⟨_, _, _⟩ := b; simp_all; done) | (obtain ⟨_, ⟨_, _⟩⟩ := a; obtain ⟨_, ⟨_, _⟩⟩ := b; simp_all; done) | skip)
def C_laws_toFixupS : Con := { ps := [.ro (.list (.st .fixup))], out := fun x => let a : List (Fixup) := x.1; .req ((a.length : Int) ≤ 1048576) (newL (.st .fixup) a), det := true }
abbrev L_laws_toFixupS : List (Nat × Con) := [(139, C_laws_toFixup)]
def G_laws_toFixupS : Cfg := mkG (tyL tys_) L_laws_toFixupS false
def an_laws_toFixupS : PTL C_laws_toFixupS.ps → Nat → Option Ann := fun x kk_ => let a : List (Fixup) := x.1; if kk_ = 3 then some (.all (Int) fun i => .giv (0 ≤ i ∧ i ≤ a.length) (.mk [(4, ai i), (3, asl 20), (0, al (.st .fixup) a)] [(20, .row (some 117) (.st .fixup) (a.take i.toNat ++ List.replicate (a.length - i.toNat) (⟨0, 0, 0, 0⟩ : Fixup)) true)] ((a.length - i.toNat)))) else none
set_option maxRecDepth 200000 in
theorem vc_laws_toFixupS (a : List (Fixup)) : (keeps Try.prog G_laws_toFixupS (an_laws_toFixupS (a, ())) (Try.f125.body.getD .skip) Try.f125.results.toList C_laws_toFixupS (a, ())) = ((a.length ≤ 9223372036854775807 →
 (LN a = LN a ∧ 0 ≤ LN a ∧ LN a ≤ 1000000000000 ∧ @Nat.cast Int _ (32 : Nat) * LN a ≤ 140737488355328) ∧ (∃ (x_1 : Int), 0 = x_1 ∧ @Eq (List Fixup) a a ∧ @Eq (List Fixup) (@repl Fixup (LN a) (Fixup.mk 0 0 0 0)) (a.take x_1.toNat ++ @List.replicate Fixup (a.length - x_1.toNat) (Fixup.mk 0 0 0 0)) ∧ (0 ≤ x_1 ∧ x_1 ≤ LN a) ∧ True) ∧ (∀ (x_2 : Int), 0 ≤ x_2 ∧ x_2 ≤ LN a →
 a.length ≤ 9223372036854775807 →
 (decide (x_2 < LN a) = true →
 (0 ≤ x_2 ∧ x_2 < LN a) ∧ (∀ (x_3 : Fixup), a[x_2.toNat]? = some x_3 →
 Ok (Ty.st SN.fixup) x_3 →
 (0 ≤ x_2 ∧ x_2 < LN (a.take x_2.toNat ++ @List.replicate Fixup (a.length - x_2.toNat) (Fixup.mk 0 0 0 0))) ∧ (∀ (x_4 : Fixup), (a.take x_2.toNat ++ @List.replicate Fixup (a.length - x_2.toNat) (Fixup.mk 0 0 0 0))[x_2.toNat]? = some x_4 →
 i64 (x_2 + 1) ∧ (∃ (x_5 : Int), x_2 + 1 = x_5 ∧ @Eq (List Fixup) a a ∧ @Eq (List Fixup) ((a.take x_2.toNat ++ @List.replicate Fixup (a.length - x_2.toNat) (Fixup.mk 0 0 0 0)).set x_2.toNat x_3) (a.take x_5.toNat ++ @List.replicate Fixup (a.length - x_5.toNat) (Fixup.mk 0 0 0 0)) ∧ (0 ≤ x_5 ∧ x_5 ≤ LN a) ∧ a.length - x_5.toNat < a.length - x_2.toNat)))) ∧ (decide (x_2 < LN a) = false →
 @Eq (List Fixup) (a.take x_2.toNat ++ @List.replicate Fixup (a.length - x_2.toNat) (Fixup.mk 0 0 0 0)) a ∧ True)))) := by kernel_rfl
theorem det_laws_toFixupS : C_laws_toFixupS.det = true → ∀ x, (C_laws_toFixupS.out x).Det := fun _ x => by simp only [C_laws_toFixupS]; repeat (first | exact Det.ret _ | exact Det.vc' | apply Det.req)
set_option maxRecDepth 200000 in
set_option maxHeartbeats 4000000 in
theorem ok_laws_toFixupS : ConOK Try.prog 125 C_laws_toFixupS := by
  refine con_mk (wr := false) (ty := tyL tys_) (l := L_laws_toFixupS) ⟨⟨ok_laws_toFixup, det_laws_toFixup⟩, trivial⟩ Try.checked.mixed (fn := Try.f125) (body := Try.f125.body.getD .skip) Try.func125 rfl (by decide) (by kernel_rfl) rfl an_laws_toFixupS fun x ho hx => ?_
  obtain ⟨a, ⟨⟩⟩ := x
  refine Keeps.of (vc_laws_toFixupS a) ?_
  revert a ho hx
  show ∀ (a : List (Fixup)), _
  intro a ho hx
  dsimp only [C_laws_toFixupS, okPTL, okPT, Ok, Ty.cells, SN.cells, OkL, OkC, okI, ci, cb, cs, cl] at ho
  dsimp only [C_laws_toFixupS, vc, v1, decB, SR.pre] at hx
  (try delta i64 LN); simp only [VBt]; (repeat' first | intro _ | apply And.intro); all_goals (try omega); all_goals first | exact repl_fill | exact set_fill' ‹_› (by omega) | exact fill_full' (by omega) | (simp only [List.length_take, List.length_replicate, mkd_len, List.length_set, List.length_append]; omega)
def C_laws_szFixupS : Con := { ps := [.ro (.list (.st .fixup)), .ro .i], out := fun x => let a : List (Fixup) := x.1; let left : Int := x.2.1; .req (0 ≤ left ∧ left ≤ 1048576) (vc .i (szR a.length left)), det := true }
abbrev L_laws_szFixupS : List (Nat × Con) := []
def G_laws_szFixupS : Cfg := mkG (tyL tys_) L_laws_szFixupS false
def an_laws_szFixupS : PTL C_laws_szFixupS.ps → Nat → Option Ann := fun _ _ => none
set_option maxRecDepth 200000 in
theorem vc_laws_szFixupS (a : List (Fixup)) (left : Int) : (keeps Try.prog G_laws_szFixupS (an_laws_szFixupS (a, left, ())) (Try.f123.body.getD .skip) Try.f123.results.toList C_laws_szFixupS (a, left, ())) = ((a.length ≤ 9223372036854775807 →
 i64 (left - LN a) ∧ (decide (left - LN a < 0) = true →
 (- (1 : Int)) = szR (LN a) left ∧ True) ∧ (decide (left - LN a < 0) = false →
 left - LN a = szR (LN a) left ∧ True))) := by kernel_rfl
theorem det_laws_szFixupS : C_laws_szFixupS.det = true → ∀ x, (C_laws_szFixupS.out x).Det := fun _ x => by simp only [C_laws_szFixupS]; repeat (first | exact Det.ret _ | exact Det.vc' | apply Det.req)
set_option maxRecDepth 200000 in
set_option maxHeartbeats 4000000 in
theorem ok_laws_szFixupS : ConOK Try.prog 123 C_laws_szFixupS := by
  refine con_mk (wr := false) (ty := tyL tys_) (l := L_laws_szFixupS) trivial Try.checked.mixed (fn := Try.f123) (body := Try.f123.body.getD .skip) Try.func123 rfl (by decide) (by kernel_rfl) rfl an_laws_szFixupS fun x ho hx => ?_
  obtain ⟨a, left, ⟨⟩⟩ := x
  refine Keeps.of (vc_laws_szFixupS a left) ?_
  revert a left ho hx
  show ∀ (a : List (Fixup)) (left : Int), _
  intro a left ho hx
  dsimp only [C_laws_szFixupS, okPTL, okPT, Ok, Ty.cells, SN.cells, OkL, OkC, okI, ci, cb, cs, cl] at ho
  dsimp only [C_laws_szFixupS, vc, v1, decB, SR.pre] at hx
  (try delta i64 LN); simp only [VBt]; (repeat' first | intro _ | apply And.intro); all_goals (try omega); all_goals (unfold szR; split <;> omega)
def C_laws_eqFixupS : Con := { ps := [.ro (.list (.st .fixup)), .ro (.list (.st .fixup))], out := fun x => let a : List (Fixup) := x.1; let b : List (Fixup) := x.2.1; vc .bool (decide (a = b)), det := true }
abbrev L_laws_eqFixupS : List (Nat × Con) := [(140, C_laws_eqFixup)]
def G_laws_eqFixupS : Cfg := mkG (tyL tys_) L_laws_eqFixupS false
def an_laws_eqFixupS : PTL C_laws_eqFixupS.ps → Nat → Option Ann := fun x kk_ => let a : List (Fixup) := x.1; let b : List (Fixup) := x.2.1; if kk_ = 4 then some (.all (Int) fun i => .giv (0 ≤ i ∧ i ≤ a.length ∧ a.length = b.length ∧ a.take i.toNat = b.take i.toNat) (.mk [(5, ai i), (0, al (.st .fixup) a), (1, al (.st .fixup) b)] [] ((a.length - i.toNat)))) else none
set_option maxRecDepth 200000 in
theorem vc_laws_eqFixupS (a : List (Fixup)) (b : List (Fixup)) : (keeps Try.prog G_laws_eqFixupS (an_laws_eqFixupS (a, b, ())) (Try.f127.body.getD .skip) Try.f127.results.toList C_laws_eqFixupS (a, b, ())) = ((a.length ≤ 9223372036854775807 →
 b.length ≤ 9223372036854775807 →
 (decide (LN a ≠ LN b) = true →
 false = decide (@Eq (List Fixup) a b) ∧ True) ∧ (decide (LN a ≠ LN b) = false →
 (∃ (x_1 : Int), 0 = x_1 ∧ @Eq (List Fixup) a a ∧ @Eq (List Fixup) b b ∧ (0 ≤ x_1 ∧ x_1 ≤ LN a ∧ a.length = b.length ∧ @Eq (List Fixup) (a.take x_1.toNat) (b.take x_1.toNat)) ∧ True) ∧ (∀ (x_2 : Int), 0 ≤ x_2 ∧ x_2 ≤ LN a ∧ a.length = b.length ∧ @Eq (List Fixup) (a.take x_2.toNat) (b.take x_2.toNat) →
 a.length ≤ 9223372036854775807 →
 (decide (x_2 < LN a) = true →
 (0 ≤ x_2 ∧ x_2 < LN a) ∧ (∀ (x_3 : Fixup), a[x_2.toNat]? = some x_3 →
 Ok (Ty.st SN.fixup) x_3 →
 (0 ≤ x_2 ∧ x_2 < LN b) ∧ (∀ (x_4 : Fixup), b[x_2.toNat]? = some x_4 →
 Ok (Ty.st SN.fixup) x_4 →
 (Bool.not (decide (@Eq Fixup x_3 x_4)) = true →
 false = decide (@Eq (List Fixup) a b) ∧ True) ∧ (Bool.not (decide (@Eq Fixup x_3 x_4)) = false →
 i64 (x_2 + 1) ∧ (∃ (x_5 : Int), x_2 + 1 = x_5 ∧ @Eq (List Fixup) a a ∧ @Eq (List Fixup) b b ∧ (0 ≤ x_5 ∧ x_5 ≤ LN a ∧ a.length = b.length ∧ @Eq (List Fixup) (a.take x_5.toNat) (b.take x_5.toNat)) ∧ a.length - x_5.toNat < a.length - x_2.toNat))))) ∧ (decide (x_2 < LN a) = false →
 true = decide (@Eq (List Fixup) a b) ∧ True))))) := by kernel_rfl
theorem det_laws_eqFixupS : C_laws_eqFixupS.det = true → ∀ x, (C_laws_eqFixupS.out x).Det := fun _ _ => Det.vc'
set_option maxRecDepth 200000 in
set_option maxHeartbeats 4000000 in
theorem ok_laws_eqFixupS : ConOK Try.prog 127 C_laws_eqFixupS := by
  refine con_mk (wr := false) (ty := tyL tys_) (l := L_laws_eqFixupS) ⟨⟨ok_laws_eqFixup, det_laws_eqFixup⟩, trivial⟩ Try.checked.mixed (fn := Try.f127) (body := Try.f127.body.getD .skip) Try.func127 rfl (by decide) (by kernel_rfl) rfl an_laws_eqFixupS fun x ho hx => ?_
  obtain ⟨a, b, ⟨⟩⟩ := x
  refine Keeps.of (vc_laws_eqFixupS a b) ?_
  revert a b ho hx
  show ∀ (a : List (Fixup)) (b : List (Fixup)), _
  intro a b ho hx
  dsimp only [C_laws_eqFixupS, okPTL, okPT, Ok, Ty.cells, SN.cells, OkL, OkC, okI, ci, cb, cs, cl] at ho
  dsimp only [C_laws_eqFixupS, vc, v1, decB, SR.pre] at hx
  (try delta i64 LN); simp only [VBt]; (repeat' first | intro _ | apply And.intro); all_goals (try omega); all_goals first | grind [take_all', take_next, take_diff] | exact take_next2 (by omega) (by assumption) (by assumption) (by assumption) (by assumption) | exact take_diff2 (by assumption) (by assumption) (by assumption)
def C_laws_markFixupS : Con := { ps := [.row none (.st .fixup), .ro .i], out := fun x => let a : List (Fixup) := x.1; let k : Int := x.2.1; .req (0 ≤ k ∧ k + sumI c4 a ≤ 1000000000000) (turnL (.st .fixup) (mkL mkFx c4 a k) (k + sumI c4 a)), det := true }
abbrev L_laws_markFixupS : List (Nat × Con) := []
def G_laws_markFixupS : Cfg := mkG (tyL tys_) L_laws_markFixupS false
def an_laws_markFixupS : PTL C_laws_markFixupS.ps → Nat → Option Ann := fun x kk_ => let a : List (Fixup) := x.1; let k : Int := x.2.1; if kk_ = 2 then some (.all (Int) fun i => .giv (0 ≤ i ∧ i ≤ a.length) (.mk [(5, ai i), (1, ai (k + sumI c4 (a.take i.toNat))), (0, asl 0)] [(0, .row none (.st .fixup) (mkd mkFx c4 a k i.toNat) true)] ((a.length - i.toNat)))) else none
set_option maxRecDepth 200000 in
theorem vc_laws_markFixupS (a : List (Fixup)) (k : Int) : (keeps Try.prog G_laws_markFixupS (an_laws_markFixupS (a, k, ())) (Try.f93.body.getD .skip) Try.f93.results.toList C_laws_markFixupS (a, k, ())) = (((∃ (x_1 : Int), 0 = x_1 ∧ k = k + @sumI Fixup (@c4 Fixup) (a.take x_1.toNat) ∧ @Eq (List Fixup) a (@mkd Fixup mkFx (@c4 Fixup) a k x_1.toNat) ∧ (0 ≤ x_1 ∧ x_1 ≤ LN a) ∧ True) ∧ (∀ (x_2 : Int), 0 ≤ x_2 ∧ x_2 ≤ LN a →
 (@mkd Fixup mkFx (@c4 Fixup) a k x_2.toNat).length ≤ 9223372036854775807 →
 (decide (x_2 < LN (@mkd Fixup mkFx (@c4 Fixup) a k x_2.toNat)) = true →
 (0 ≤ x_2 ∧ x_2 < LN (@mkd Fixup mkFx (@c4 Fixup) a k x_2.toNat)) ∧ (∀ (x_3 : Fixup), (@mkd Fixup mkFx (@c4 Fixup) a k x_2.toNat)[x_2.toNat]? = some x_3 →
 i64 (k + @sumI Fixup (@c4 Fixup) (a.take x_2.toNat) + 1) ∧ (0 ≤ x_2 ∧ x_2 < LN ((@mkd Fixup mkFx (@c4 Fixup) a k x_2.toNat).set x_2.toNat (Fixup.mk (k + @sumI Fixup (@c4 Fixup) (a.take x_2.toNat)) (Fixup.kind x_3) (Fixup.to x_3) (Fixup.add x_3)))) ∧ (∀ (x_4 : Fixup), ((@mkd Fixup mkFx (@c4 Fixup) a k x_2.toNat).set x_2.toNat (Fixup.mk (k + @sumI Fixup (@c4 Fixup) (a.take x_2.toNat)) (Fixup.kind x_3) (Fixup.to x_3) (Fixup.add x_3)))[x_2.toNat]? = some x_4 →
 i64 (k + @sumI Fixup (@c4 Fixup) (a.take x_2.toNat) + 1 + 1) ∧ (0 ≤ x_2 ∧ x_2 < LN (((@mkd Fixup mkFx (@c4 Fixup) a k x_2.toNat).set x_2.toNat (Fixup.mk (k + @sumI Fixup (@c4 Fixup) (a.take x_2.toNat)) (Fixup.kind x_3) (Fixup.to x_3) (Fixup.add x_3))).set x_2.toNat (Fixup.mk (Fixup.at_ x_4) (k + @sumI Fixup (@c4 Fixup) (a.take x_2.toNat) + 1) (Fixup.to x_4) (Fixup.add x_4)))) ∧ (∀ (x_5 : Fixup), (((@mkd Fixup mkFx (@c4 Fixup) a k x_2.toNat).set x_2.toNat (Fixup.mk (k + @sumI Fixup (@c4 Fixup) (a.take x_2.toNat)) (Fixup.kind x_3) (Fixup.to x_3) (Fixup.add x_3))).set x_2.toNat (Fixup.mk (Fixup.at_ x_4) (k + @sumI Fixup (@c4 Fixup) (a.take x_2.toNat) + 1) (Fixup.to x_4) (Fixup.add x_4)))[x_2.toNat]? = some x_5 →
 i64 (k + @sumI Fixup (@c4 Fixup) (a.take x_2.toNat) + 1 + 1 + 1) ∧ (0 ≤ x_2 ∧ x_2 < LN ((((@mkd Fixup mkFx (@c4 Fixup) a k x_2.toNat).set x_2.toNat (Fixup.mk (k + @sumI Fixup (@c4 Fixup) (a.take x_2.toNat)) (Fixup.kind x_3) (Fixup.to x_3) (Fixup.add x_3))).set x_2.toNat (Fixup.mk (Fixup.at_ x_4) (k + @sumI Fixup (@c4 Fixup) (a.take x_2.toNat) + 1) (Fixup.to x_4) (Fixup.add x_4))).set x_2.toNat (Fixup.mk (Fixup.at_ x_5) (Fixup.kind x_5) (k + @sumI Fixup (@c4 Fixup) (a.take x_2.toNat) + 1 + 1) (Fixup.add x_5)))) ∧ (∀ (x_6 : Fixup), ((((@mkd Fixup mkFx (@c4 Fixup) a k x_2.toNat).set x_2.toNat (Fixup.mk (k + @sumI Fixup (@c4 Fixup) (a.take x_2.toNat)) (Fixup.kind x_3) (Fixup.to x_3) (Fixup.add x_3))).set x_2.toNat (Fixup.mk (Fixup.at_ x_4) (k + @sumI Fixup (@c4 Fixup) (a.take x_2.toNat) + 1) (Fixup.to x_4) (Fixup.add x_4))).set x_2.toNat (Fixup.mk (Fixup.at_ x_5) (Fixup.kind x_5) (k + @sumI Fixup (@c4 Fixup) (a.take x_2.toNat) + 1 + 1) (Fixup.add x_5)))[x_2.toNat]? = some x_6 →
 i64 (k + @sumI Fixup (@c4 Fixup) (a.take x_2.toNat) + 1 + 1 + 1 + 1) ∧ i64 (x_2 + 1) ∧ (∃ (x_7 : Int), x_2 + 1 = x_7 ∧ k + @sumI Fixup (@c4 Fixup) (a.take x_2.toNat) + 1 + 1 + 1 + 1 = k + @sumI Fixup (@c4 Fixup) (a.take x_7.toNat) ∧ @Eq (List Fixup) (((((@mkd Fixup mkFx (@c4 Fixup) a k x_2.toNat).set x_2.toNat (Fixup.mk (k + @sumI Fixup (@c4 Fixup) (a.take x_2.toNat)) (Fixup.kind x_3) (Fixup.to x_3) (Fixup.add x_3))).set x_2.toNat (Fixup.mk (Fixup.at_ x_4) (k + @sumI Fixup (@c4 Fixup) (a.take x_2.toNat) + 1) (Fixup.to x_4) (Fixup.add x_4))).set x_2.toNat (Fixup.mk (Fixup.at_ x_5) (Fixup.kind x_5) (k + @sumI Fixup (@c4 Fixup) (a.take x_2.toNat) + 1 + 1) (Fixup.add x_5))).set x_2.toNat (Fixup.mk (Fixup.at_ x_6) (Fixup.kind x_6) (Fixup.to x_6) (k + @sumI Fixup (@c4 Fixup) (a.take x_2.toNat) + 1 + 1 + 1))) (@mkd Fixup mkFx (@c4 Fixup) a k x_7.toNat) ∧ (0 ≤ x_7 ∧ x_7 ≤ LN a) ∧ a.length - x_7.toNat < a.length - x_2.toNat)))))) ∧ (decide (x_2 < LN (@mkd Fixup mkFx (@c4 Fixup) a k x_2.toNat)) = false →
 k + @sumI Fixup (@c4 Fixup) (a.take x_2.toNat) = k + @sumI Fixup (@c4 Fixup) a ∧ @Eq (List Fixup) (@mkd Fixup mkFx (@c4 Fixup) a k x_2.toNat) (@mkL Fixup mkFx (@c4 Fixup) a k) ∧ True)))) := by kernel_rfl
theorem det_laws_markFixupS : C_laws_markFixupS.det = true → ∀ x, (C_laws_markFixupS.out x).Det := fun _ x => by simp only [C_laws_markFixupS]; repeat (first | exact Det.ret _ | exact Det.vc' | apply Det.req)
set_option maxRecDepth 200000 in
set_option maxHeartbeats 4000000 in
theorem ok_laws_markFixupS : ConOK Try.prog 93 C_laws_markFixupS := by
  refine con_mk (wr := false) (ty := tyL tys_) (l := L_laws_markFixupS) trivial Try.checked.mixed (fn := Try.f93) (body := Try.f93.body.getD .skip) Try.func93 rfl (by decide) (by kernel_rfl) rfl an_laws_markFixupS fun x ho hx => ?_
  obtain ⟨a, k, ⟨⟩⟩ := x
  refine Keeps.of (vc_laws_markFixupS a k) ?_
  revert a k ho hx
  show ∀ (a : List (Fixup)) (k : Int), _
  intro a k ho hx
  dsimp only [C_laws_markFixupS, okPTL, okPT, Ok, Ty.cells, SN.cells, OkL, OkC, okI, ci, cb, cs, cl] at ho
  dsimp only [C_laws_markFixupS, vc, v1, decB, SR.pre] at hx
  have cn : ∀ x : Fixup, 0 ≤ c4 x := c4_nn
  have cl := sumI_le cn a
  have cs := sumI_nn cn
  (try delta i64 LN); simp only [VBt]; (repeat' first | intro _ | apply And.intro); all_goals (try omega); all_goals first | (simp only [List.length_take, List.length_replicate, mkd_len, List.length_set, List.length_append]; omega) | exact mkd_full' (by omega) | exact (mkd_zero _ _).symm | exact mkd_set' (by assumption) (by omega) (by subst_vars; simp [mkRg, mkFx, mkSy, mkPa, mkSe, mkMb, mkOb, mkIL, Int.add_assoc]) | (try grind [mkd_len, mkd_get, mkd_zero, sumI_next, sumI_all, cOne, c4, cPa, cSe, cOb, cMb, cIL, sumI])
def C_laws_toSection : Con := { ps := [.ro (.st .sect)], out := fun x => let a : Sect := x.1; .req (szSe a ≤ 1048576) (newS .sect a), det := true }
abbrev L_laws_toSection : List (Nat × Con) := [(124, C_laws_toByteS), (125, C_laws_toFixupS)]
def G_laws_toSection : Cfg := mkG (tyL tys_) L_laws_toSection false
def an_laws_toSection : PTL C_laws_toSection.ps → Nat → Option Ann := fun _ _ => none
set_option maxRecDepth 200000 in
theorem vc_laws_toSection (a : Sect) : (keeps Try.prog G_laws_toSection (an_laws_toSection (a, ())) (Try.f115.body.getD .skip) Try.f115.results.toList C_laws_toSection (a, ())) = ((LN (Sect.bytes a) ≤ 1048576 ∧ LN (Sect.fixups a) ≤ 1048576 ∧ @Eq ByteArray (Sect.name a) (Sect.name a) ∧ Sect.kind a = Sect.kind a ∧ Sect.align a = Sect.align a ∧ Sect.size a = Sect.size a ∧ @Eq (List Int) (Sect.bytes a) (Sect.bytes a) ∧ @Eq (List Fixup) (Sect.fixups a) (Sect.fixups a) ∧ True)) := by kernel_rfl
theorem det_laws_toSection : C_laws_toSection.det = true → ∀ x, (C_laws_toSection.out x).Det := fun _ x => by simp only [C_laws_toSection]; repeat (first | exact Det.ret _ | exact Det.vc' | apply Det.req)
set_option maxRecDepth 200000 in
set_option maxHeartbeats 4000000 in
theorem ok_laws_toSection : ConOK Try.prog 115 C_laws_toSection := by
  refine con_mk (wr := false) (ty := tyL tys_) (l := L_laws_toSection) ⟨⟨ok_laws_toByteS, det_laws_toByteS⟩, ⟨⟨ok_laws_toFixupS, det_laws_toFixupS⟩, trivial⟩⟩ Try.checked.mixed (fn := Try.f115) (body := Try.f115.body.getD .skip) Try.func115 rfl (by decide) (by kernel_rfl) rfl an_laws_toSection fun x ho hx => ?_
  obtain ⟨a, ⟨⟩⟩ := x
  refine Keeps.of (vc_laws_toSection a) ?_
  revert a ho hx
  show ∀ (a : Sect), _
  intro a ho hx
  dsimp only [C_laws_toSection, okPTL, okPT, Ok, Ty.cells, SN.cells, OkL, OkC, okI, ci, cb, cs, cl] at ho
  dsimp only [C_laws_toSection, vc, v1, decB, SR.pre] at hx
  (try delta i64 LN); simp only [VBt]; (repeat' first | intro _ | apply And.intro); all_goals (try omega); all_goals (try grind [szIm, szMe, szHa, szPa, szSe, szSy, szOb, szMb])
def C_laws_szSection : Con := { ps := [.ro (.st .sect), .ro .i], out := fun x => let a : Sect := x.1; let left : Int := x.2.1; .req (0 ≤ left ∧ left ≤ 1048576) (vc .i (szR (szSe a) left)), det := true }
abbrev L_laws_szSection : List (Nat × Con) := [(122, C_laws_szByteS), (123, C_laws_szFixupS)]
def G_laws_szSection : Cfg := mkG (tyL tys_) L_laws_szSection false
def an_laws_szSection : PTL C_laws_szSection.ps → Nat → Option Ann := fun _ _ => none
set_option maxRecDepth 200000 in
theorem vc_laws_szSection (a : Sect) (left : Int) : (keeps Try.prog G_laws_szSection (an_laws_szSection (a, left, ())) (Try.f113.body.getD .skip) Try.f113.results.toList C_laws_szSection (a, left, ())) = ((ByteArray.size (Sect.name a) ≤ 9223372036854775807 →
 i64 (left - @Nat.cast Int _ (ByteArray.size (Sect.name a))) ∧ (decide (left - @Nat.cast Int _ (ByteArray.size (Sect.name a)) < 0) = true →
 (- (1 : Int)) = szR (szSe a) left ∧ True) ∧ (decide (left - @Nat.cast Int _ (ByteArray.size (Sect.name a)) < 0) = false →
 (0 ≤ left - @Nat.cast Int _ (ByteArray.size (Sect.name a)) ∧ left - @Nat.cast Int _ (ByteArray.size (Sect.name a)) ≤ 1048576) ∧ (decide (szR (LN (Sect.bytes a)) (left - @Nat.cast Int _ (ByteArray.size (Sect.name a))) < 0) = true →
 (- (1 : Int)) = szR (szSe a) left ∧ True) ∧ (decide (szR (LN (Sect.bytes a)) (left - @Nat.cast Int _ (ByteArray.size (Sect.name a))) < 0) = false →
 (0 ≤ szR (LN (Sect.bytes a)) (left - @Nat.cast Int _ (ByteArray.size (Sect.name a))) ∧ szR (LN (Sect.bytes a)) (left - @Nat.cast Int _ (ByteArray.size (Sect.name a))) ≤ 1048576) ∧ (decide (szR (LN (Sect.fixups a)) (szR (LN (Sect.bytes a)) (left - @Nat.cast Int _ (ByteArray.size (Sect.name a)))) < 0) = true →
 (- (1 : Int)) = szR (szSe a) left ∧ True) ∧ (decide (szR (LN (Sect.fixups a)) (szR (LN (Sect.bytes a)) (left - @Nat.cast Int _ (ByteArray.size (Sect.name a)))) < 0) = false →
 szR (LN (Sect.fixups a)) (szR (LN (Sect.bytes a)) (left - @Nat.cast Int _ (ByteArray.size (Sect.name a)))) = szR (szSe a) left ∧ True))))) := by kernel_rfl
theorem det_laws_szSection : C_laws_szSection.det = true → ∀ x, (C_laws_szSection.out x).Det := fun _ x => by simp only [C_laws_szSection]; repeat (first | exact Det.ret _ | exact Det.vc' | apply Det.req)
set_option maxRecDepth 200000 in
set_option maxHeartbeats 4000000 in
theorem ok_laws_szSection : ConOK Try.prog 113 C_laws_szSection := by
  refine con_mk (wr := false) (ty := tyL tys_) (l := L_laws_szSection) ⟨⟨ok_laws_szByteS, det_laws_szByteS⟩, ⟨⟨ok_laws_szFixupS, det_laws_szFixupS⟩, trivial⟩⟩ Try.checked.mixed (fn := Try.f113) (body := Try.f113.body.getD .skip) Try.func113 rfl (by decide) (by kernel_rfl) rfl an_laws_szSection fun x ho hx => ?_
  obtain ⟨a, left, ⟨⟩⟩ := x
  refine Keeps.of (vc_laws_szSection a left) ?_
  revert a left ho hx
  show ∀ (a : Sect) (left : Int), _
  intro a left ho hx
  dsimp only [C_laws_szSection, okPTL, okPT, Ok, Ty.cells, SN.cells, OkL, OkC, okI, ci, cb, cs, cl] at ho
  dsimp only [C_laws_szSection, vc, v1, decB, SR.pre] at hx
  (try delta i64 LN); simp only [VBt]; (repeat' first | intro _ | apply And.intro); all_goals (try omega); all_goals (try grind [szR, szIm, szMe, szHa, szPa, szSe, szSy, szOb, szMb])
def C_laws_eqSection : Con := { ps := [.ro (.st .sect), .ro (.st .sect)], out := fun x => let a : Sect := x.1; let b : Sect := x.2.1; vc .bool (decide (a = b)), det := true }
abbrev L_laws_eqSection : List (Nat × Con) := [(126, C_laws_eqByteS), (127, C_laws_eqFixupS)]
def G_laws_eqSection : Cfg := mkG (tyL tys_) L_laws_eqSection false
def an_laws_eqSection : PTL C_laws_eqSection.ps → Nat → Option Ann := fun _ _ => none
set_option maxRecDepth 200000 in
theorem vc_laws_eqSection (a : Sect) (b : Sect) : (keeps Try.prog G_laws_eqSection (an_laws_eqSection (a, b, ())) (Try.f117.body.getD .skip) Try.f117.results.toList C_laws_eqSection (a, b, ())) = (((decide (Sect.name a ≠ Sect.name b) = true →
 false = decide (@Eq Sect a b) ∧ True) ∧ (decide (Sect.name a ≠ Sect.name b) = false →
 (decide (Sect.kind a ≠ Sect.kind b) = true →
 false = decide (@Eq Sect a b) ∧ True) ∧ (decide (Sect.kind a ≠ Sect.kind b) = false →
 (decide (Sect.align a ≠ Sect.align b) = true →
 false = decide (@Eq Sect a b) ∧ True) ∧ (decide (Sect.align a ≠ Sect.align b) = false →
 (Bool.not (decide (@Eq (List Int) (Sect.bytes a) (Sect.bytes b))) = true →
 false = decide (@Eq Sect a b) ∧ True) ∧ (Bool.not (decide (@Eq (List Int) (Sect.bytes a) (Sect.bytes b))) = false →
 (decide (Sect.size a ≠ Sect.size b) = true →
 false = decide (@Eq Sect a b) ∧ True) ∧ (decide (Sect.size a ≠ Sect.size b) = false →
 (Bool.not (decide (@Eq (List Fixup) (Sect.fixups a) (Sect.fixups b))) = true →
 false = decide (@Eq Sect a b) ∧ True) ∧ (Bool.not (decide (@Eq (List Fixup) (Sect.fixups a) (Sect.fixups b))) = false →
 true = decide (@Eq Sect a b) ∧ True)))))))) := by kernel_rfl
theorem det_laws_eqSection : C_laws_eqSection.det = true → ∀ x, (C_laws_eqSection.out x).Det := fun _ _ => Det.vc'
set_option maxRecDepth 200000 in
set_option maxHeartbeats 4000000 in
theorem ok_laws_eqSection : ConOK Try.prog 117 C_laws_eqSection := by
  refine con_mk (wr := false) (ty := tyL tys_) (l := L_laws_eqSection) ⟨⟨ok_laws_eqByteS, det_laws_eqByteS⟩, ⟨⟨ok_laws_eqFixupS, det_laws_eqFixupS⟩, trivial⟩⟩ Try.checked.mixed (fn := Try.f117) (body := Try.f117.body.getD .skip) Try.func117 rfl (by decide) (by kernel_rfl) rfl an_laws_eqSection fun x ho hx => ?_
  obtain ⟨a, b, ⟨⟩⟩ := x
  refine Keeps.of (vc_laws_eqSection a b) ?_
  revert a b ho hx
  show ∀ (a : Sect) (b : Sect), _
  intro a b ho hx
  dsimp only [C_laws_eqSection, okPTL, okPT, Ok, Ty.cells, SN.cells, OkL, OkC, okI, ci, cb, cs, cl] at ho
  dsimp only [C_laws_eqSection, vc, v1, decB, SR.pre] at hx
  (try delta i64 LN); simp only [VBt]; (repeat' first | intro _ | apply And.intro); all_goals (try omega); all_goals (first | grind [cases Img] | (cases a; cases b; simp_all; done) | (obtain ⟨⟨_, _⟩, _⟩ := a; obtain ⟨⟨_, _⟩, _⟩ := b; simp_all; done) | (obtain ⟨_, _, _⟩ := a; obtain ⟨_, _, _⟩ := b; simp_all; done) | (obtain ⟨_, ⟨_, _⟩⟩ := a; obtain ⟨_, ⟨_, _⟩⟩ := b; simp_all; done) | skip)
def C_laws_toSectionS : Con := { ps := [.ro (.list (.st .sect))], out := fun x => let a : List (Sect) := x.1; .req ((a.length + sumI szSe a : Int) ≤ 1048576) (newL (.st .sect) a), det := true }
abbrev L_laws_toSectionS : List (Nat × Con) := [(115, C_laws_toSection)]
def G_laws_toSectionS : Cfg := mkG (tyL tys_) L_laws_toSectionS false
def an_laws_toSectionS : PTL C_laws_toSectionS.ps → Nat → Option Ann := fun x kk_ => let a : List (Sect) := x.1; if kk_ = 3 then some (.all (Int) fun i => .giv (0 ≤ i ∧ i ≤ a.length) (.mk [(4, ai i), (3, asl 20), (0, al (.st .sect) a)] [(20, .row (some 87) (.st .sect) (a.take i.toNat ++ List.replicate (a.length - i.toNat) (⟨⟨⟨[]⟩⟩, 0, 0, [], 0, []⟩ : Sect)) true)] ((a.length - i.toNat)))) else none
set_option maxRecDepth 200000 in
theorem vc_laws_toSectionS (a : List (Sect)) : (keeps Try.prog G_laws_toSectionS (an_laws_toSectionS (a, ())) (Try.f88.body.getD .skip) Try.f88.results.toList C_laws_toSectionS (a, ())) = ((a.length ≤ 9223372036854775807 →
 (LN a = LN a ∧ 0 ≤ LN a ∧ LN a ≤ 1000000000000 ∧ @Nat.cast Int _ (88 : Nat) * LN a ≤ 140737488355328) ∧ (∃ (x_1 : Int), 0 = x_1 ∧ @Eq (List Sect) a a ∧ @Eq (List Sect) (@repl Sect (LN a) (Sect.mk (ByteArray.mk (@Array.mk UInt8 ([] : List UInt8))) 0 0 ([] : List Int) 0 ([] : List Fixup))) (a.take x_1.toNat ++ @List.replicate Sect (a.length - x_1.toNat) (Sect.mk (ByteArray.mk (@Array.mk UInt8 ([] : List UInt8))) 0 0 ([] : List Int) 0 ([] : List Fixup))) ∧ (0 ≤ x_1 ∧ x_1 ≤ LN a) ∧ True) ∧ (∀ (x_2 : Int), 0 ≤ x_2 ∧ x_2 ≤ LN a →
 a.length ≤ 9223372036854775807 →
 (decide (x_2 < LN a) = true →
 (0 ≤ x_2 ∧ x_2 < LN a) ∧ (∀ (x_3 : Sect), a[x_2.toNat]? = some x_3 →
 Ok (Ty.st SN.sect) x_3 →
 szSe x_3 ≤ 1048576 ∧ (0 ≤ x_2 ∧ x_2 < LN (a.take x_2.toNat ++ @List.replicate Sect (a.length - x_2.toNat) (Sect.mk (ByteArray.mk (@Array.mk UInt8 ([] : List UInt8))) 0 0 ([] : List Int) 0 ([] : List Fixup)))) ∧ (∀ (x_4 : Sect), (a.take x_2.toNat ++ @List.replicate Sect (a.length - x_2.toNat) (Sect.mk (ByteArray.mk (@Array.mk UInt8 ([] : List UInt8))) 0 0 ([] : List Int) 0 ([] : List Fixup)))[x_2.toNat]? = some x_4 →
 i64 (x_2 + 1) ∧ (∃ (x_5 : Int), x_2 + 1 = x_5 ∧ @Eq (List Sect) a a ∧ @Eq (List Sect) ((a.take x_2.toNat ++ @List.replicate Sect (a.length - x_2.toNat) (Sect.mk (ByteArray.mk (@Array.mk UInt8 ([] : List UInt8))) 0 0 ([] : List Int) 0 ([] : List Fixup))).set x_2.toNat x_3) (a.take x_5.toNat ++ @List.replicate Sect (a.length - x_5.toNat) (Sect.mk (ByteArray.mk (@Array.mk UInt8 ([] : List UInt8))) 0 0 ([] : List Int) 0 ([] : List Fixup))) ∧ (0 ≤ x_5 ∧ x_5 ≤ LN a) ∧ a.length - x_5.toNat < a.length - x_2.toNat)))) ∧ (decide (x_2 < LN a) = false →
 @Eq (List Sect) (a.take x_2.toNat ++ @List.replicate Sect (a.length - x_2.toNat) (Sect.mk (ByteArray.mk (@Array.mk UInt8 ([] : List UInt8))) 0 0 ([] : List Int) 0 ([] : List Fixup))) a ∧ True)))) := by kernel_rfl
theorem det_laws_toSectionS : C_laws_toSectionS.det = true → ∀ x, (C_laws_toSectionS.out x).Det := fun _ x => by simp only [C_laws_toSectionS]; repeat (first | exact Det.ret _ | exact Det.vc' | apply Det.req)
set_option maxRecDepth 200000 in
set_option maxHeartbeats 4000000 in
theorem ok_laws_toSectionS : ConOK Try.prog 88 C_laws_toSectionS := by
  refine con_mk (wr := false) (ty := tyL tys_) (l := L_laws_toSectionS) ⟨⟨ok_laws_toSection, det_laws_toSection⟩, trivial⟩ Try.checked.mixed (fn := Try.f88) (body := Try.f88.body.getD .skip) Try.func88 rfl (by decide) (by kernel_rfl) rfl an_laws_toSectionS fun x ho hx => ?_
  obtain ⟨a, ⟨⟩⟩ := x
  refine Keeps.of (vc_laws_toSectionS a) ?_
  revert a ho hx
  show ∀ (a : List (Sect)), _
  intro a ho hx
  dsimp only [C_laws_toSectionS, okPTL, okPT, Ok, Ty.cells, SN.cells, OkL, OkC, okI, ci, cb, cs, cl] at ho
  dsimp only [C_laws_toSectionS, vc, v1, decB, SR.pre] at hx
  have cs := sumI_nn (f := szSe) szSe_nn a
  have ca := fun k x => sumI_at (f := szSe) szSe_nn (l := a) (k := k) (x := x)
  (try delta i64 LN); simp only [VBt]; (repeat' first | intro _ | apply And.intro); all_goals (try omega); all_goals first | exact repl_fill | exact set_fill' ‹_› (by omega) | exact fill_full' (by omega) | (simp only [List.length_take, List.length_replicate, mkd_len, List.length_set, List.length_append]; omega) | (try grind [sumI_at, szPa, szSe, szOb, szSy, szMb])
def C_laws_szSectionS : Con := { ps := [.ro (.list (.st .sect)), .ro .i], out := fun x => let a : List (Sect) := x.1; let left : Int := x.2.1; .req (0 ≤ left ∧ left ≤ 1048576) (vc .i (szR (a.length + sumI szSe a : Int) left)), det := true }
abbrev L_laws_szSectionS : List (Nat × Con) := [(113, C_laws_szSection)]
def G_laws_szSectionS : Cfg := mkG (tyL tys_) L_laws_szSectionS false
def an_laws_szSectionS : PTL C_laws_szSectionS.ps → Nat → Option Ann := fun x kk_ => let a : List (Sect) := x.1; let left : Int := x.2.1; if kk_ = 5 then some (.all (Int) fun i => .all (Int) fun m => .giv (0 ≤ i ∧ i ≤ a.length ∧ 0 ≤ m ∧ m ≤ left ∧ szR (a.length + sumI szSe a : Int) left = szR (sumI szSe (a.drop i.toNat)) m) (.mk [(5, ai i), (1, ai m), (0, al (.st .sect) a)] [] ((a.length - i.toNat)))) else none
set_option maxRecDepth 200000 in
theorem vc_laws_szSectionS (a : List (Sect)) (left : Int) : (keeps Try.prog G_laws_szSectionS (an_laws_szSectionS (a, left, ())) (Try.f86.body.getD .skip) Try.f86.results.toList C_laws_szSectionS (a, left, ())) = ((a.length ≤ 9223372036854775807 →
 i64 (left - LN a) ∧ (decide (left - LN a < 0) = true →
 (- (1 : Int)) = szR (LN a + @sumI Sect szSe a) left ∧ True) ∧ (decide (left - LN a < 0) = false →
 (∃ (x_1 : Int), (∃ (x_2 : Int), 0 = x_1 ∧ left - LN a = x_2 ∧ @Eq (List Sect) a a ∧ (0 ≤ x_1 ∧ x_1 ≤ LN a ∧ 0 ≤ x_2 ∧ x_2 ≤ left ∧ szR (LN a + @sumI Sect szSe a) left = szR (@sumI Sect szSe (a.drop x_1.toNat)) x_2) ∧ True)) ∧ (∀ (x_3 : Int), (∀ (x_4 : Int), 0 ≤ x_3 ∧ x_3 ≤ LN a ∧ 0 ≤ x_4 ∧ x_4 ≤ left ∧ szR (LN a + @sumI Sect szSe a) left = szR (@sumI Sect szSe (a.drop x_3.toNat)) x_4 →
 a.length ≤ 9223372036854775807 →
 (decide (x_3 < LN a) = true →
 (0 ≤ x_3 ∧ x_3 < LN a) ∧ (∀ (x_5 : Sect), a[x_3.toNat]? = some x_5 →
 Ok (Ty.st SN.sect) x_5 →
 (0 ≤ x_4 ∧ x_4 ≤ 1048576) ∧ (decide (szR (szSe x_5) x_4 < 0) = true →
 (- (1 : Int)) = szR (LN a + @sumI Sect szSe a) left ∧ True) ∧ (decide (szR (szSe x_5) x_4 < 0) = false →
 i64 (x_3 + 1) ∧ (∃ (x_6 : Int), (∃ (x_7 : Int), x_3 + 1 = x_6 ∧ szR (szSe x_5) x_4 = x_7 ∧ @Eq (List Sect) a a ∧ (0 ≤ x_6 ∧ x_6 ≤ LN a ∧ 0 ≤ x_7 ∧ x_7 ≤ left ∧ szR (LN a + @sumI Sect szSe a) left = szR (@sumI Sect szSe (a.drop x_6.toNat)) x_7) ∧ a.length - x_6.toNat < a.length - x_3.toNat))))) ∧ (decide (x_3 < LN a) = false →
 x_4 = szR (LN a + @sumI Sect szSe a) left ∧ True)))))) := by kernel_rfl
theorem det_laws_szSectionS : C_laws_szSectionS.det = true → ∀ x, (C_laws_szSectionS.out x).Det := fun _ x => by simp only [C_laws_szSectionS]; repeat (first | exact Det.ret _ | exact Det.vc' | apply Det.req)
set_option maxRecDepth 200000 in
set_option maxHeartbeats 4000000 in
theorem ok_laws_szSectionS : ConOK Try.prog 86 C_laws_szSectionS := by
  refine con_mk (wr := false) (ty := tyL tys_) (l := L_laws_szSectionS) ⟨⟨ok_laws_szSection, det_laws_szSection⟩, trivial⟩ Try.checked.mixed (fn := Try.f86) (body := Try.f86.body.getD .skip) Try.func86 rfl (by decide) (by kernel_rfl) rfl an_laws_szSectionS fun x ho hx => ?_
  obtain ⟨a, left, ⟨⟩⟩ := x
  refine Keeps.of (vc_laws_szSectionS a left) ?_
  revert a left ho hx
  show ∀ (a : List (Sect)) (left : Int), _
  intro a left ho hx
  dsimp only [C_laws_szSectionS, okPTL, okPT, Ok, Ty.cells, SN.cells, OkL, OkC, okI, ci, cb, cs, cl] at ho
  dsimp only [C_laws_szSectionS, vc, v1, decB, SR.pre] at hx
  have cs := sumI_nn (f := szSe) szSe_nn
  (try delta i64 LN); simp only [VBt]; (repeat' first | intro _ | apply And.intro); all_goals (try omega); all_goals first | (unfold szR; split <;> omega) | exact szR_le2 (by first | exact szSe_nn _ | exact szSy_nn _ | exact szOb_nn _ | exact szMb_nn _) ‹_› ‹_› | (try grind [szR, sumI_drop, drop_end, sumI])
def C_laws_eqSectionS : Con := { ps := [.ro (.list (.st .sect)), .ro (.list (.st .sect))], out := fun x => let a : List (Sect) := x.1; let b : List (Sect) := x.2.1; vc .bool (decide (a = b)), det := true }
abbrev L_laws_eqSectionS : List (Nat × Con) := [(117, C_laws_eqSection)]
def G_laws_eqSectionS : Cfg := mkG (tyL tys_) L_laws_eqSectionS false
def an_laws_eqSectionS : PTL C_laws_eqSectionS.ps → Nat → Option Ann := fun x kk_ => let a : List (Sect) := x.1; let b : List (Sect) := x.2.1; if kk_ = 4 then some (.all (Int) fun i => .giv (0 ≤ i ∧ i ≤ a.length ∧ a.length = b.length ∧ a.take i.toNat = b.take i.toNat) (.mk [(5, ai i), (0, al (.st .sect) a), (1, al (.st .sect) b)] [] ((a.length - i.toNat)))) else none
set_option maxRecDepth 200000 in
theorem vc_laws_eqSectionS (a : List (Sect)) (b : List (Sect)) : (keeps Try.prog G_laws_eqSectionS (an_laws_eqSectionS (a, b, ())) (Try.f90.body.getD .skip) Try.f90.results.toList C_laws_eqSectionS (a, b, ())) = ((a.length ≤ 9223372036854775807 →
 b.length ≤ 9223372036854775807 →
 (decide (LN a ≠ LN b) = true →
 false = decide (@Eq (List Sect) a b) ∧ True) ∧ (decide (LN a ≠ LN b) = false →
 (∃ (x_1 : Int), 0 = x_1 ∧ @Eq (List Sect) a a ∧ @Eq (List Sect) b b ∧ (0 ≤ x_1 ∧ x_1 ≤ LN a ∧ a.length = b.length ∧ @Eq (List Sect) (a.take x_1.toNat) (b.take x_1.toNat)) ∧ True) ∧ (∀ (x_2 : Int), 0 ≤ x_2 ∧ x_2 ≤ LN a ∧ a.length = b.length ∧ @Eq (List Sect) (a.take x_2.toNat) (b.take x_2.toNat) →
 a.length ≤ 9223372036854775807 →
 (decide (x_2 < LN a) = true →
 (0 ≤ x_2 ∧ x_2 < LN a) ∧ (∀ (x_3 : Sect), a[x_2.toNat]? = some x_3 →
 Ok (Ty.st SN.sect) x_3 →
 (0 ≤ x_2 ∧ x_2 < LN b) ∧ (∀ (x_4 : Sect), b[x_2.toNat]? = some x_4 →
 Ok (Ty.st SN.sect) x_4 →
 (Bool.not (decide (@Eq Sect x_3 x_4)) = true →
 false = decide (@Eq (List Sect) a b) ∧ True) ∧ (Bool.not (decide (@Eq Sect x_3 x_4)) = false →
 i64 (x_2 + 1) ∧ (∃ (x_5 : Int), x_2 + 1 = x_5 ∧ @Eq (List Sect) a a ∧ @Eq (List Sect) b b ∧ (0 ≤ x_5 ∧ x_5 ≤ LN a ∧ a.length = b.length ∧ @Eq (List Sect) (a.take x_5.toNat) (b.take x_5.toNat)) ∧ a.length - x_5.toNat < a.length - x_2.toNat))))) ∧ (decide (x_2 < LN a) = false →
 true = decide (@Eq (List Sect) a b) ∧ True))))) := by kernel_rfl
theorem det_laws_eqSectionS : C_laws_eqSectionS.det = true → ∀ x, (C_laws_eqSectionS.out x).Det := fun _ _ => Det.vc'
set_option maxRecDepth 200000 in
set_option maxHeartbeats 4000000 in
theorem ok_laws_eqSectionS : ConOK Try.prog 90 C_laws_eqSectionS := by
  refine con_mk (wr := false) (ty := tyL tys_) (l := L_laws_eqSectionS) ⟨⟨ok_laws_eqSection, det_laws_eqSection⟩, trivial⟩ Try.checked.mixed (fn := Try.f90) (body := Try.f90.body.getD .skip) Try.func90 rfl (by decide) (by kernel_rfl) rfl an_laws_eqSectionS fun x ho hx => ?_
  obtain ⟨a, b, ⟨⟩⟩ := x
  refine Keeps.of (vc_laws_eqSectionS a b) ?_
  revert a b ho hx
  show ∀ (a : List (Sect)) (b : List (Sect)), _
  intro a b ho hx
  dsimp only [C_laws_eqSectionS, okPTL, okPT, Ok, Ty.cells, SN.cells, OkL, OkC, okI, ci, cb, cs, cl] at ho
  dsimp only [C_laws_eqSectionS, vc, v1, decB, SR.pre] at hx
  (try delta i64 LN); simp only [VBt]; (repeat' first | intro _ | apply And.intro); all_goals (try omega); all_goals first | grind [take_all', take_next, take_diff] | exact take_next2 (by omega) (by assumption) (by assumption) (by assumption) (by assumption) | exact take_diff2 (by assumption) (by assumption) (by assumption)
def C_laws_markSectionS : Con := { ps := [.row none (.st .sect), .ro .i], out := fun x => let a : List (Sect) := x.1; let k : Int := x.2.1; .req (0 ≤ k ∧ k + sumI cSe a ≤ 1000000000000) (turnL (.st .sect) (mkL mkSe cSe a k) (k + sumI cSe a)), det := true }
abbrev L_laws_markSectionS : List (Nat × Con) := [(60, C_laws_markText), (92, C_laws_markByteS), (93, C_laws_markFixupS)]
def G_laws_markSectionS : Cfg := mkG (tyL tys_) L_laws_markSectionS false
def an_laws_markSectionS : PTL C_laws_markSectionS.ps → Nat → Option Ann := fun x kk_ => let a : List (Sect) := x.1; let k : Int := x.2.1; if kk_ = 2 then some (.all (Int) fun i => .giv (0 ≤ i ∧ i ≤ a.length) (.mk [(5, ai i), (1, ai (k + sumI cSe (a.take i.toNat))), (0, asl 0)] [(0, .row none (.st .sect) (mkd mkSe cSe a k i.toNat) true)] ((a.length - i.toNat)))) else none
set_option maxRecDepth 200000 in
theorem vc_laws_markSectionS (a : List (Sect)) (k : Int) : (keeps Try.prog G_laws_markSectionS (an_laws_markSectionS (a, k, ())) (Try.f58.body.getD .skip) Try.f58.results.toList C_laws_markSectionS (a, k, ())) = (((∃ (x_1 : Int), 0 = x_1 ∧ k = k + @sumI Sect cSe (a.take x_1.toNat) ∧ @Eq (List Sect) a (@mkd Sect mkSe cSe a k x_1.toNat) ∧ (0 ≤ x_1 ∧ x_1 ≤ LN a) ∧ True) ∧ (∀ (x_2 : Int), 0 ≤ x_2 ∧ x_2 ≤ LN a →
 (@mkd Sect mkSe cSe a k x_2.toNat).length ≤ 9223372036854775807 →
 (decide (x_2 < LN (@mkd Sect mkSe cSe a k x_2.toNat)) = true →
 (0 ≤ k + @sumI Sect cSe (a.take x_2.toNat) ∧ k + @sumI Sect cSe (a.take x_2.toNat) ≤ 1000000000000) ∧ (0 ≤ x_2 ∧ x_2 < LN (@mkd Sect mkSe cSe a k x_2.toNat)) ∧ (∀ (x_3 : Sect), (@mkd Sect mkSe cSe a k x_2.toNat)[x_2.toNat]? = some x_3 →
 i64 (k + @sumI Sect cSe (a.take x_2.toNat) + 1) ∧ (0 ≤ x_2 ∧ x_2 < LN ((@mkd Sect mkSe cSe a k x_2.toNat).set x_2.toNat (Sect.mk (markT (k + @sumI Sect cSe (a.take x_2.toNat))) (Sect.kind x_3) (Sect.align x_3) (Sect.bytes x_3) (Sect.size x_3) (Sect.fixups x_3)))) ∧ (∀ (x_4 : Sect), ((@mkd Sect mkSe cSe a k x_2.toNat).set x_2.toNat (Sect.mk (markT (k + @sumI Sect cSe (a.take x_2.toNat))) (Sect.kind x_3) (Sect.align x_3) (Sect.bytes x_3) (Sect.size x_3) (Sect.fixups x_3)))[x_2.toNat]? = some x_4 →
 i64 (k + @sumI Sect cSe (a.take x_2.toNat) + 1 + 1) ∧ (0 ≤ x_2 ∧ x_2 < LN (((@mkd Sect mkSe cSe a k x_2.toNat).set x_2.toNat (Sect.mk (markT (k + @sumI Sect cSe (a.take x_2.toNat))) (Sect.kind x_3) (Sect.align x_3) (Sect.bytes x_3) (Sect.size x_3) (Sect.fixups x_3))).set x_2.toNat (Sect.mk (Sect.name x_4) (k + @sumI Sect cSe (a.take x_2.toNat) + 1) (Sect.align x_4) (Sect.bytes x_4) (Sect.size x_4) (Sect.fixups x_4)))) ∧ (∀ (x_5 : Sect), (((@mkd Sect mkSe cSe a k x_2.toNat).set x_2.toNat (Sect.mk (markT (k + @sumI Sect cSe (a.take x_2.toNat))) (Sect.kind x_3) (Sect.align x_3) (Sect.bytes x_3) (Sect.size x_3) (Sect.fixups x_3))).set x_2.toNat (Sect.mk (Sect.name x_4) (k + @sumI Sect cSe (a.take x_2.toNat) + 1) (Sect.align x_4) (Sect.bytes x_4) (Sect.size x_4) (Sect.fixups x_4)))[x_2.toNat]? = some x_5 →
 i64 (k + @sumI Sect cSe (a.take x_2.toNat) + 1 + 1 + 1) ∧ (0 ≤ x_2 ∧ x_2 < LN ((((@mkd Sect mkSe cSe a k x_2.toNat).set x_2.toNat (Sect.mk (markT (k + @sumI Sect cSe (a.take x_2.toNat))) (Sect.kind x_3) (Sect.align x_3) (Sect.bytes x_3) (Sect.size x_3) (Sect.fixups x_3))).set x_2.toNat (Sect.mk (Sect.name x_4) (k + @sumI Sect cSe (a.take x_2.toNat) + 1) (Sect.align x_4) (Sect.bytes x_4) (Sect.size x_4) (Sect.fixups x_4))).set x_2.toNat (Sect.mk (Sect.name x_5) (Sect.kind x_5) (k + @sumI Sect cSe (a.take x_2.toNat) + 1 + 1) (Sect.bytes x_5) (Sect.size x_5) (Sect.fixups x_5)))) ∧ (∀ (x_6 : Sect), ((((@mkd Sect mkSe cSe a k x_2.toNat).set x_2.toNat (Sect.mk (markT (k + @sumI Sect cSe (a.take x_2.toNat))) (Sect.kind x_3) (Sect.align x_3) (Sect.bytes x_3) (Sect.size x_3) (Sect.fixups x_3))).set x_2.toNat (Sect.mk (Sect.name x_4) (k + @sumI Sect cSe (a.take x_2.toNat) + 1) (Sect.align x_4) (Sect.bytes x_4) (Sect.size x_4) (Sect.fixups x_4))).set x_2.toNat (Sect.mk (Sect.name x_5) (Sect.kind x_5) (k + @sumI Sect cSe (a.take x_2.toNat) + 1 + 1) (Sect.bytes x_5) (Sect.size x_5) (Sect.fixups x_5)))[x_2.toNat]? = some x_6 →
 Ok (Ty.st SN.sect) x_6 →
 (∀ (x_7 : Sect), ((((@mkd Sect mkSe cSe a k x_2.toNat).set x_2.toNat (Sect.mk (markT (k + @sumI Sect cSe (a.take x_2.toNat))) (Sect.kind x_3) (Sect.align x_3) (Sect.bytes x_3) (Sect.size x_3) (Sect.fixups x_3))).set x_2.toNat (Sect.mk (Sect.name x_4) (k + @sumI Sect cSe (a.take x_2.toNat) + 1) (Sect.align x_4) (Sect.bytes x_4) (Sect.size x_4) (Sect.fixups x_4))).set x_2.toNat (Sect.mk (Sect.name x_5) (Sect.kind x_5) (k + @sumI Sect cSe (a.take x_2.toNat) + 1 + 1) (Sect.bytes x_5) (Sect.size x_5) (Sect.fixups x_5)))[x_2.toNat]? = some x_7 →
 (0 ≤ k + @sumI Sect cSe (a.take x_2.toNat) + 1 + 1 + 1 ∧ k + @sumI Sect cSe (a.take x_2.toNat) + 1 + 1 + 1 + @sumI Int (@cOne Int) (Sect.bytes x_7) ≤ 1000000000000) ∧ (0 ≤ x_2 ∧ x_2 < LN (((((@mkd Sect mkSe cSe a k x_2.toNat).set x_2.toNat (Sect.mk (markT (k + @sumI Sect cSe (a.take x_2.toNat))) (Sect.kind x_3) (Sect.align x_3) (Sect.bytes x_3) (Sect.size x_3) (Sect.fixups x_3))).set x_2.toNat (Sect.mk (Sect.name x_4) (k + @sumI Sect cSe (a.take x_2.toNat) + 1) (Sect.align x_4) (Sect.bytes x_4) (Sect.size x_4) (Sect.fixups x_4))).set x_2.toNat (Sect.mk (Sect.name x_5) (Sect.kind x_5) (k + @sumI Sect cSe (a.take x_2.toNat) + 1 + 1) (Sect.bytes x_5) (Sect.size x_5) (Sect.fixups x_5))).set x_2.toNat (Sect.mk (Sect.name x_7) (Sect.kind x_7) (Sect.align x_7) (@mkL Int mkU (@cOne Int) (Sect.bytes x_7) (k + @sumI Sect cSe (a.take x_2.toNat) + 1 + 1 + 1)) (Sect.size x_7) (Sect.fixups x_7)))) ∧ (∀ (x_8 : Sect), (((((@mkd Sect mkSe cSe a k x_2.toNat).set x_2.toNat (Sect.mk (markT (k + @sumI Sect cSe (a.take x_2.toNat))) (Sect.kind x_3) (Sect.align x_3) (Sect.bytes x_3) (Sect.size x_3) (Sect.fixups x_3))).set x_2.toNat (Sect.mk (Sect.name x_4) (k + @sumI Sect cSe (a.take x_2.toNat) + 1) (Sect.align x_4) (Sect.bytes x_4) (Sect.size x_4) (Sect.fixups x_4))).set x_2.toNat (Sect.mk (Sect.name x_5) (Sect.kind x_5) (k + @sumI Sect cSe (a.take x_2.toNat) + 1 + 1) (Sect.bytes x_5) (Sect.size x_5) (Sect.fixups x_5))).set x_2.toNat (Sect.mk (Sect.name x_7) (Sect.kind x_7) (Sect.align x_7) (@mkL Int mkU (@cOne Int) (Sect.bytes x_7) (k + @sumI Sect cSe (a.take x_2.toNat) + 1 + 1 + 1)) (Sect.size x_7) (Sect.fixups x_7)))[x_2.toNat]? = some x_8 →
 i64 (k + @sumI Sect cSe (a.take x_2.toNat) + 1 + 1 + 1 + @sumI Int (@cOne Int) (Sect.bytes x_7) + 1) ∧ (0 ≤ x_2 ∧ x_2 < LN ((((((@mkd Sect mkSe cSe a k x_2.toNat).set x_2.toNat (Sect.mk (markT (k + @sumI Sect cSe (a.take x_2.toNat))) (Sect.kind x_3) (Sect.align x_3) (Sect.bytes x_3) (Sect.size x_3) (Sect.fixups x_3))).set x_2.toNat (Sect.mk (Sect.name x_4) (k + @sumI Sect cSe (a.take x_2.toNat) + 1) (Sect.align x_4) (Sect.bytes x_4) (Sect.size x_4) (Sect.fixups x_4))).set x_2.toNat (Sect.mk (Sect.name x_5) (Sect.kind x_5) (k + @sumI Sect cSe (a.take x_2.toNat) + 1 + 1) (Sect.bytes x_5) (Sect.size x_5) (Sect.fixups x_5))).set x_2.toNat (Sect.mk (Sect.name x_7) (Sect.kind x_7) (Sect.align x_7) (@mkL Int mkU (@cOne Int) (Sect.bytes x_7) (k + @sumI Sect cSe (a.take x_2.toNat) + 1 + 1 + 1)) (Sect.size x_7) (Sect.fixups x_7))).set x_2.toNat (Sect.mk (Sect.name x_8) (Sect.kind x_8) (Sect.align x_8) (Sect.bytes x_8) (k + @sumI Sect cSe (a.take x_2.toNat) + 1 + 1 + 1 + @sumI Int (@cOne Int) (Sect.bytes x_7)) (Sect.fixups x_8)))) ∧ (∀ (x_9 : Sect), ((((((@mkd Sect mkSe cSe a k x_2.toNat).set x_2.toNat (Sect.mk (markT (k + @sumI Sect cSe (a.take x_2.toNat))) (Sect.kind x_3) (Sect.align x_3) (Sect.bytes x_3) (Sect.size x_3) (Sect.fixups x_3))).set x_2.toNat (Sect.mk (Sect.name x_4) (k + @sumI Sect cSe (a.take x_2.toNat) + 1) (Sect.align x_4) (Sect.bytes x_4) (Sect.size x_4) (Sect.fixups x_4))).set x_2.toNat (Sect.mk (Sect.name x_5) (Sect.kind x_5) (k + @sumI Sect cSe (a.take x_2.toNat) + 1 + 1) (Sect.bytes x_5) (Sect.size x_5) (Sect.fixups x_5))).set x_2.toNat (Sect.mk (Sect.name x_7) (Sect.kind x_7) (Sect.align x_7) (@mkL Int mkU (@cOne Int) (Sect.bytes x_7) (k + @sumI Sect cSe (a.take x_2.toNat) + 1 + 1 + 1)) (Sect.size x_7) (Sect.fixups x_7))).set x_2.toNat (Sect.mk (Sect.name x_8) (Sect.kind x_8) (Sect.align x_8) (Sect.bytes x_8) (k + @sumI Sect cSe (a.take x_2.toNat) + 1 + 1 + 1 + @sumI Int (@cOne Int) (Sect.bytes x_7)) (Sect.fixups x_8)))[x_2.toNat]? = some x_9 →
 Ok (Ty.st SN.sect) x_9 →
 (∀ (x_10 : Sect), ((((((@mkd Sect mkSe cSe a k x_2.toNat).set x_2.toNat (Sect.mk (markT (k + @sumI Sect cSe (a.take x_2.toNat))) (Sect.kind x_3) (Sect.align x_3) (Sect.bytes x_3) (Sect.size x_3) (Sect.fixups x_3))).set x_2.toNat (Sect.mk (Sect.name x_4) (k + @sumI Sect cSe (a.take x_2.toNat) + 1) (Sect.align x_4) (Sect.bytes x_4) (Sect.size x_4) (Sect.fixups x_4))).set x_2.toNat (Sect.mk (Sect.name x_5) (Sect.kind x_5) (k + @sumI Sect cSe (a.take x_2.toNat) + 1 + 1) (Sect.bytes x_5) (Sect.size x_5) (Sect.fixups x_5))).set x_2.toNat (Sect.mk (Sect.name x_7) (Sect.kind x_7) (Sect.align x_7) (@mkL Int mkU (@cOne Int) (Sect.bytes x_7) (k + @sumI Sect cSe (a.take x_2.toNat) + 1 + 1 + 1)) (Sect.size x_7) (Sect.fixups x_7))).set x_2.toNat (Sect.mk (Sect.name x_8) (Sect.kind x_8) (Sect.align x_8) (Sect.bytes x_8) (k + @sumI Sect cSe (a.take x_2.toNat) + 1 + 1 + 1 + @sumI Int (@cOne Int) (Sect.bytes x_7)) (Sect.fixups x_8)))[x_2.toNat]? = some x_10 →
 (0 ≤ k + @sumI Sect cSe (a.take x_2.toNat) + 1 + 1 + 1 + @sumI Int (@cOne Int) (Sect.bytes x_7) + 1 ∧ k + @sumI Sect cSe (a.take x_2.toNat) + 1 + 1 + 1 + @sumI Int (@cOne Int) (Sect.bytes x_7) + 1 + @sumI Fixup (@c4 Fixup) (Sect.fixups x_10) ≤ 1000000000000) ∧ i64 (x_2 + 1) ∧ (∃ (x_11 : Int), x_2 + 1 = x_11 ∧ k + @sumI Sect cSe (a.take x_2.toNat) + 1 + 1 + 1 + @sumI Int (@cOne Int) (Sect.bytes x_7) + 1 + @sumI Fixup (@c4 Fixup) (Sect.fixups x_10) = k + @sumI Sect cSe (a.take x_11.toNat) ∧ @Eq (List Sect) (((((((@mkd Sect mkSe cSe a k x_2.toNat).set x_2.toNat (Sect.mk (markT (k + @sumI Sect cSe (a.take x_2.toNat))) (Sect.kind x_3) (Sect.align x_3) (Sect.bytes x_3) (Sect.size x_3) (Sect.fixups x_3))).set x_2.toNat (Sect.mk (Sect.name x_4) (k + @sumI Sect cSe (a.take x_2.toNat) + 1) (Sect.align x_4) (Sect.bytes x_4) (Sect.size x_4) (Sect.fixups x_4))).set x_2.toNat (Sect.mk (Sect.name x_5) (Sect.kind x_5) (k + @sumI Sect cSe (a.take x_2.toNat) + 1 + 1) (Sect.bytes x_5) (Sect.size x_5) (Sect.fixups x_5))).set x_2.toNat (Sect.mk (Sect.name x_7) (Sect.kind x_7) (Sect.align x_7) (@mkL Int mkU (@cOne Int) (Sect.bytes x_7) (k + @sumI Sect cSe (a.take x_2.toNat) + 1 + 1 + 1)) (Sect.size x_7) (Sect.fixups x_7))).set x_2.toNat (Sect.mk (Sect.name x_8) (Sect.kind x_8) (Sect.align x_8) (Sect.bytes x_8) (k + @sumI Sect cSe (a.take x_2.toNat) + 1 + 1 + 1 + @sumI Int (@cOne Int) (Sect.bytes x_7)) (Sect.fixups x_8))).set x_2.toNat (Sect.mk (Sect.name x_10) (Sect.kind x_10) (Sect.align x_10) (Sect.bytes x_10) (Sect.size x_10) (@mkL Fixup mkFx (@c4 Fixup) (Sect.fixups x_10) (k + @sumI Sect cSe (a.take x_2.toNat) + 1 + 1 + 1 + @sumI Int (@cOne Int) (Sect.bytes x_7) + 1)))) (@mkd Sect mkSe cSe a k x_11.toNat) ∧ (0 ≤ x_11 ∧ x_11 ≤ LN a) ∧ a.length - x_11.toNat < a.length - x_2.toNat)))))))))) ∧ (decide (x_2 < LN (@mkd Sect mkSe cSe a k x_2.toNat)) = false →
 k + @sumI Sect cSe (a.take x_2.toNat) = k + @sumI Sect cSe a ∧ @Eq (List Sect) (@mkd Sect mkSe cSe a k x_2.toNat) (@mkL Sect mkSe cSe a k) ∧ True)))) := by kernel_rfl
theorem det_laws_markSectionS : C_laws_markSectionS.det = true → ∀ x, (C_laws_markSectionS.out x).Det := fun _ x => by simp only [C_laws_markSectionS]; repeat (first | exact Det.ret _ | exact Det.vc' | apply Det.req)
set_option maxRecDepth 200000 in
set_option maxHeartbeats 4000000 in
theorem ok_laws_markSectionS : ConOK Try.prog 58 C_laws_markSectionS := by
  refine con_mk (wr := false) (ty := tyL tys_) (l := L_laws_markSectionS) ⟨⟨ok_laws_markText, det_laws_markText⟩, ⟨⟨ok_laws_markByteS, det_laws_markByteS⟩, ⟨⟨ok_laws_markFixupS, det_laws_markFixupS⟩, trivial⟩⟩⟩ Try.checked.mixed (fn := Try.f58) (body := Try.f58.body.getD .skip) Try.func58 rfl (by decide) (by kernel_rfl) rfl an_laws_markSectionS fun x ho hx => ?_
  obtain ⟨a, k, ⟨⟩⟩ := x
  refine Keeps.of (vc_laws_markSectionS a k) ?_
  revert a k ho hx
  show ∀ (a : List (Sect)) (k : Int), _
  intro a k ho hx
  dsimp only [C_laws_markSectionS, okPTL, okPT, Ok, Ty.cells, SN.cells, OkL, OkC, okI, ci, cb, cs, cl] at ho
  dsimp only [C_laws_markSectionS, vc, v1, decB, SR.pre] at hx
  have cn : ∀ x : Sect, 0 ≤ cSe x := cSe_nn
  have cl := sumI_le cn a
  have cs := sumI_nn cn
  have cb := fun i x => sumI_tk cn (l := a) (i := i) (x := x)
  have g1 := @cOne_ge Int
  have g2 := @c4_ge Fixup
  have g3 := @c4_ge Sym
  have g4 := cSe_ge
  (try delta i64 LN); simp only [VBt]; (repeat' first | intro _ | apply And.intro); all_goals (try omega); all_goals first | (simp only [List.length_take, List.length_replicate, mkd_len, List.length_set, List.length_append]; omega) | exact mkd_full' (by omega) | exact (mkd_zero _ _).symm | exact mkd_set' (by assumption) (by omega) (by subst_vars; simp [mkRg, mkFx, mkSy, mkPa, mkSe, mkMb, mkOb, mkIL, Int.add_assoc]) | (try grind [mkd_len, mkd_get, mkd_zero, sumI_next, sumI_all, cOne, c4, cPa, cSe, cOb, cMb, cIL, sumI])
def C_laws_toSymbol : Con := { ps := [.ro (.st .sym)], out := fun x => let a : Sym := x.1; newS .sym a, det := true }
abbrev L_laws_toSymbol : List (Nat × Con) := []
def G_laws_toSymbol : Cfg := mkG (tyL tys_) L_laws_toSymbol false
def an_laws_toSymbol : PTL C_laws_toSymbol.ps → Nat → Option Ann := fun _ _ => none
set_option maxRecDepth 200000 in
theorem vc_laws_toSymbol (a : Sym) : (keeps Try.prog G_laws_toSymbol (an_laws_toSymbol (a, ())) (Try.f116.body.getD .skip) Try.f116.results.toList C_laws_toSymbol (a, ())) = ((@Eq ByteArray (Sym.name a) (Sym.name a) ∧ Sym.bind a = Sym.bind a ∧ Sym.wher a = Sym.wher a ∧ Sym.value a = Sym.value a ∧ True)) := by kernel_rfl
theorem det_laws_toSymbol : C_laws_toSymbol.det = true → ∀ x, (C_laws_toSymbol.out x).Det := fun _ x => by simp only [C_laws_toSymbol]; repeat (first | exact Det.ret _ | exact Det.vc' | apply Det.req)
set_option maxRecDepth 200000 in
set_option maxHeartbeats 4000000 in
theorem ok_laws_toSymbol : ConOK Try.prog 116 C_laws_toSymbol := by
  refine con_mk (wr := false) (ty := tyL tys_) (l := L_laws_toSymbol) trivial Try.checked.mixed (fn := Try.f116) (body := Try.f116.body.getD .skip) Try.func116 rfl (by decide) (by kernel_rfl) rfl an_laws_toSymbol fun x ho hx => ?_
  obtain ⟨a, ⟨⟩⟩ := x
  refine Keeps.of (vc_laws_toSymbol a) ?_
  revert a ho hx
  show ∀ (a : Sym), _
  intro a ho hx
  dsimp only [C_laws_toSymbol, okPTL, okPT, Ok, Ty.cells, SN.cells, OkL, OkC, okI, ci, cb, cs, cl] at ho
  dsimp only [C_laws_toSymbol, vc, v1, decB, SR.pre] at hx
  (try delta i64 LN); simp only [VBt]; (repeat' first | intro _ | apply And.intro); all_goals (try omega); all_goals (try grind [szIm, szMe, szHa, szPa, szSe, szSy, szOb, szMb])
def C_laws_szSymbol : Con := { ps := [.ro (.st .sym), .ro .i], out := fun x => let a : Sym := x.1; let left : Int := x.2.1; .req (0 ≤ left ∧ left ≤ 1048576) (vc .i (szR (szSy a) left)), det := true }
abbrev L_laws_szSymbol : List (Nat × Con) := []
def G_laws_szSymbol : Cfg := mkG (tyL tys_) L_laws_szSymbol false
def an_laws_szSymbol : PTL C_laws_szSymbol.ps → Nat → Option Ann := fun _ _ => none
set_option maxRecDepth 200000 in
theorem vc_laws_szSymbol (a : Sym) (left : Int) : (keeps Try.prog G_laws_szSymbol (an_laws_szSymbol (a, left, ())) (Try.f114.body.getD .skip) Try.f114.results.toList C_laws_szSymbol (a, left, ())) = ((ByteArray.size (Sym.name a) ≤ 9223372036854775807 →
 i64 (left - @Nat.cast Int _ (ByteArray.size (Sym.name a))) ∧ (decide (left - @Nat.cast Int _ (ByteArray.size (Sym.name a)) < 0) = true →
 (- (1 : Int)) = szR (szSy a) left ∧ True) ∧ (decide (left - @Nat.cast Int _ (ByteArray.size (Sym.name a)) < 0) = false →
 left - @Nat.cast Int _ (ByteArray.size (Sym.name a)) = szR (szSy a) left ∧ True))) := by kernel_rfl
theorem det_laws_szSymbol : C_laws_szSymbol.det = true → ∀ x, (C_laws_szSymbol.out x).Det := fun _ x => by simp only [C_laws_szSymbol]; repeat (first | exact Det.ret _ | exact Det.vc' | apply Det.req)
set_option maxRecDepth 200000 in
set_option maxHeartbeats 4000000 in
theorem ok_laws_szSymbol : ConOK Try.prog 114 C_laws_szSymbol := by
  refine con_mk (wr := false) (ty := tyL tys_) (l := L_laws_szSymbol) trivial Try.checked.mixed (fn := Try.f114) (body := Try.f114.body.getD .skip) Try.func114 rfl (by decide) (by kernel_rfl) rfl an_laws_szSymbol fun x ho hx => ?_
  obtain ⟨a, left, ⟨⟩⟩ := x
  refine Keeps.of (vc_laws_szSymbol a left) ?_
  revert a left ho hx
  show ∀ (a : Sym) (left : Int), _
  intro a left ho hx
  dsimp only [C_laws_szSymbol, okPTL, okPT, Ok, Ty.cells, SN.cells, OkL, OkC, okI, ci, cb, cs, cl] at ho
  dsimp only [C_laws_szSymbol, vc, v1, decB, SR.pre] at hx
  (try delta i64 LN); simp only [VBt]; (repeat' first | intro _ | apply And.intro); all_goals (try omega); all_goals (try grind [szR, szIm, szMe, szHa, szPa, szSe, szSy, szOb, szMb])
def C_laws_eqSymbol : Con := { ps := [.ro (.st .sym), .ro (.st .sym)], out := fun x => let a : Sym := x.1; let b : Sym := x.2.1; vc .bool (decide (a = b)), det := true }
abbrev L_laws_eqSymbol : List (Nat × Con) := []
def G_laws_eqSymbol : Cfg := mkG (tyL tys_) L_laws_eqSymbol false
def an_laws_eqSymbol : PTL C_laws_eqSymbol.ps → Nat → Option Ann := fun _ _ => none
set_option maxRecDepth 200000 in
theorem vc_laws_eqSymbol (a : Sym) (b : Sym) : (keeps Try.prog G_laws_eqSymbol (an_laws_eqSymbol (a, b, ())) (Try.f118.body.getD .skip) Try.f118.results.toList C_laws_eqSymbol (a, b, ())) = (((decide (Sym.name a ≠ Sym.name b) = true →
 false = decide (@Eq Sym a b) ∧ True) ∧ (decide (Sym.name a ≠ Sym.name b) = false →
 (decide (Sym.bind a ≠ Sym.bind b) = true →
 false = decide (@Eq Sym a b) ∧ True) ∧ (decide (Sym.bind a ≠ Sym.bind b) = false →
 (decide (Sym.wher a ≠ Sym.wher b) = true →
 false = decide (@Eq Sym a b) ∧ True) ∧ (decide (Sym.wher a ≠ Sym.wher b) = false →
 (decide (Sym.value a ≠ Sym.value b) = true →
 false = decide (@Eq Sym a b) ∧ True) ∧ (decide (Sym.value a ≠ Sym.value b) = false →
 true = decide (@Eq Sym a b) ∧ True)))))) := by kernel_rfl
theorem det_laws_eqSymbol : C_laws_eqSymbol.det = true → ∀ x, (C_laws_eqSymbol.out x).Det := fun _ _ => Det.vc'
set_option maxRecDepth 200000 in
set_option maxHeartbeats 4000000 in
theorem ok_laws_eqSymbol : ConOK Try.prog 118 C_laws_eqSymbol := by
  refine con_mk (wr := false) (ty := tyL tys_) (l := L_laws_eqSymbol) trivial Try.checked.mixed (fn := Try.f118) (body := Try.f118.body.getD .skip) Try.func118 rfl (by decide) (by kernel_rfl) rfl an_laws_eqSymbol fun x ho hx => ?_
  obtain ⟨a, b, ⟨⟩⟩ := x
  refine Keeps.of (vc_laws_eqSymbol a b) ?_
  revert a b ho hx
  show ∀ (a : Sym) (b : Sym), _
  intro a b ho hx
  dsimp only [C_laws_eqSymbol, okPTL, okPT, Ok, Ty.cells, SN.cells, OkL, OkC, okI, ci, cb, cs, cl] at ho
  dsimp only [C_laws_eqSymbol, vc, v1, decB, SR.pre] at hx
  (try delta i64 LN); simp only [VBt]; (repeat' first | intro _ | apply And.intro); all_goals (try omega); all_goals (first | grind [cases Img] | (cases a; cases b; simp_all; done) | (obtain ⟨⟨_, _⟩, _⟩ := a; obtain ⟨⟨_, _⟩, _⟩ := b; simp_all; done) | (obtain ⟨_, _, _⟩ := a; obtain ⟨_, _, _⟩ := b; simp_all; done) | (obtain ⟨_, ⟨_, _⟩⟩ := a; obtain ⟨_, ⟨_, _⟩⟩ := b; simp_all; done) | skip)
def C_laws_toSymbolS : Con := { ps := [.ro (.list (.st .sym))], out := fun x => let a : List (Sym) := x.1; .req ((a.length + sumI szSy a : Int) ≤ 1048576) (newL (.st .sym) a), det := true }
abbrev L_laws_toSymbolS : List (Nat × Con) := [(116, C_laws_toSymbol)]
def G_laws_toSymbolS : Cfg := mkG (tyL tys_) L_laws_toSymbolS false
def an_laws_toSymbolS : PTL C_laws_toSymbolS.ps → Nat → Option Ann := fun x kk_ => let a : List (Sym) := x.1; if kk_ = 3 then some (.all (Int) fun i => .giv (0 ≤ i ∧ i ≤ a.length) (.mk [(4, ai i), (3, asl 20), (0, al (.st .sym) a)] [(20, .row (some 37) (.st .sym) (a.take i.toNat ++ List.replicate (a.length - i.toNat) (⟨⟨⟨[]⟩⟩, 0, 0, 0⟩ : Sym)) true)] ((a.length - i.toNat)))) else none
set_option maxRecDepth 200000 in
theorem vc_laws_toSymbolS (a : List (Sym)) : (keeps Try.prog G_laws_toSymbolS (an_laws_toSymbolS (a, ())) (Try.f89.body.getD .skip) Try.f89.results.toList C_laws_toSymbolS (a, ())) = ((a.length ≤ 9223372036854775807 →
 (LN a = LN a ∧ 0 ≤ LN a ∧ LN a ≤ 1000000000000 ∧ @Nat.cast Int _ (40 : Nat) * LN a ≤ 140737488355328) ∧ (∃ (x_1 : Int), 0 = x_1 ∧ @Eq (List Sym) a a ∧ @Eq (List Sym) (@repl Sym (LN a) (Sym.mk (ByteArray.mk (@Array.mk UInt8 ([] : List UInt8))) 0 0 0)) (a.take x_1.toNat ++ @List.replicate Sym (a.length - x_1.toNat) (Sym.mk (ByteArray.mk (@Array.mk UInt8 ([] : List UInt8))) 0 0 0)) ∧ (0 ≤ x_1 ∧ x_1 ≤ LN a) ∧ True) ∧ (∀ (x_2 : Int), 0 ≤ x_2 ∧ x_2 ≤ LN a →
 a.length ≤ 9223372036854775807 →
 (decide (x_2 < LN a) = true →
 (0 ≤ x_2 ∧ x_2 < LN a) ∧ (∀ (x_3 : Sym), a[x_2.toNat]? = some x_3 →
 Ok (Ty.st SN.sym) x_3 →
 (0 ≤ x_2 ∧ x_2 < LN (a.take x_2.toNat ++ @List.replicate Sym (a.length - x_2.toNat) (Sym.mk (ByteArray.mk (@Array.mk UInt8 ([] : List UInt8))) 0 0 0))) ∧ (∀ (x_4 : Sym), (a.take x_2.toNat ++ @List.replicate Sym (a.length - x_2.toNat) (Sym.mk (ByteArray.mk (@Array.mk UInt8 ([] : List UInt8))) 0 0 0))[x_2.toNat]? = some x_4 →
 i64 (x_2 + 1) ∧ (∃ (x_5 : Int), x_2 + 1 = x_5 ∧ @Eq (List Sym) a a ∧ @Eq (List Sym) ((a.take x_2.toNat ++ @List.replicate Sym (a.length - x_2.toNat) (Sym.mk (ByteArray.mk (@Array.mk UInt8 ([] : List UInt8))) 0 0 0)).set x_2.toNat x_3) (a.take x_5.toNat ++ @List.replicate Sym (a.length - x_5.toNat) (Sym.mk (ByteArray.mk (@Array.mk UInt8 ([] : List UInt8))) 0 0 0)) ∧ (0 ≤ x_5 ∧ x_5 ≤ LN a) ∧ a.length - x_5.toNat < a.length - x_2.toNat)))) ∧ (decide (x_2 < LN a) = false →
 @Eq (List Sym) (a.take x_2.toNat ++ @List.replicate Sym (a.length - x_2.toNat) (Sym.mk (ByteArray.mk (@Array.mk UInt8 ([] : List UInt8))) 0 0 0)) a ∧ True)))) := by kernel_rfl
theorem det_laws_toSymbolS : C_laws_toSymbolS.det = true → ∀ x, (C_laws_toSymbolS.out x).Det := fun _ x => by simp only [C_laws_toSymbolS]; repeat (first | exact Det.ret _ | exact Det.vc' | apply Det.req)
set_option maxRecDepth 200000 in
set_option maxHeartbeats 4000000 in
theorem ok_laws_toSymbolS : ConOK Try.prog 89 C_laws_toSymbolS := by
  refine con_mk (wr := false) (ty := tyL tys_) (l := L_laws_toSymbolS) ⟨⟨ok_laws_toSymbol, det_laws_toSymbol⟩, trivial⟩ Try.checked.mixed (fn := Try.f89) (body := Try.f89.body.getD .skip) Try.func89 rfl (by decide) (by kernel_rfl) rfl an_laws_toSymbolS fun x ho hx => ?_
  obtain ⟨a, ⟨⟩⟩ := x
  refine Keeps.of (vc_laws_toSymbolS a) ?_
  revert a ho hx
  show ∀ (a : List (Sym)), _
  intro a ho hx
  dsimp only [C_laws_toSymbolS, okPTL, okPT, Ok, Ty.cells, SN.cells, OkL, OkC, okI, ci, cb, cs, cl] at ho
  dsimp only [C_laws_toSymbolS, vc, v1, decB, SR.pre] at hx
  have cs := sumI_nn (f := szSy) szSy_nn a
  have ca := fun k x => sumI_at (f := szSy) szSy_nn (l := a) (k := k) (x := x)
  (try delta i64 LN); simp only [VBt]; (repeat' first | intro _ | apply And.intro); all_goals (try omega); all_goals first | exact repl_fill | exact set_fill' ‹_› (by omega) | exact fill_full' (by omega) | (simp only [List.length_take, List.length_replicate, mkd_len, List.length_set, List.length_append]; omega) | (try grind [sumI_at, szPa, szSe, szOb, szSy, szMb])
def C_laws_szSymbolS : Con := { ps := [.ro (.list (.st .sym)), .ro .i], out := fun x => let a : List (Sym) := x.1; let left : Int := x.2.1; .req (0 ≤ left ∧ left ≤ 1048576) (vc .i (szR (a.length + sumI szSy a : Int) left)), det := true }
abbrev L_laws_szSymbolS : List (Nat × Con) := [(114, C_laws_szSymbol)]
def G_laws_szSymbolS : Cfg := mkG (tyL tys_) L_laws_szSymbolS false
def an_laws_szSymbolS : PTL C_laws_szSymbolS.ps → Nat → Option Ann := fun x kk_ => let a : List (Sym) := x.1; let left : Int := x.2.1; if kk_ = 5 then some (.all (Int) fun i => .all (Int) fun m => .giv (0 ≤ i ∧ i ≤ a.length ∧ 0 ≤ m ∧ m ≤ left ∧ szR (a.length + sumI szSy a : Int) left = szR (sumI szSy (a.drop i.toNat)) m) (.mk [(5, ai i), (1, ai m), (0, al (.st .sym) a)] [] ((a.length - i.toNat)))) else none
set_option maxRecDepth 200000 in
theorem vc_laws_szSymbolS (a : List (Sym)) (left : Int) : (keeps Try.prog G_laws_szSymbolS (an_laws_szSymbolS (a, left, ())) (Try.f87.body.getD .skip) Try.f87.results.toList C_laws_szSymbolS (a, left, ())) = ((a.length ≤ 9223372036854775807 →
 i64 (left - LN a) ∧ (decide (left - LN a < 0) = true →
 (- (1 : Int)) = szR (LN a + @sumI Sym szSy a) left ∧ True) ∧ (decide (left - LN a < 0) = false →
 (∃ (x_1 : Int), (∃ (x_2 : Int), 0 = x_1 ∧ left - LN a = x_2 ∧ @Eq (List Sym) a a ∧ (0 ≤ x_1 ∧ x_1 ≤ LN a ∧ 0 ≤ x_2 ∧ x_2 ≤ left ∧ szR (LN a + @sumI Sym szSy a) left = szR (@sumI Sym szSy (a.drop x_1.toNat)) x_2) ∧ True)) ∧ (∀ (x_3 : Int), (∀ (x_4 : Int), 0 ≤ x_3 ∧ x_3 ≤ LN a ∧ 0 ≤ x_4 ∧ x_4 ≤ left ∧ szR (LN a + @sumI Sym szSy a) left = szR (@sumI Sym szSy (a.drop x_3.toNat)) x_4 →
 a.length ≤ 9223372036854775807 →
 (decide (x_3 < LN a) = true →
 (0 ≤ x_3 ∧ x_3 < LN a) ∧ (∀ (x_5 : Sym), a[x_3.toNat]? = some x_5 →
 Ok (Ty.st SN.sym) x_5 →
 (0 ≤ x_4 ∧ x_4 ≤ 1048576) ∧ (decide (szR (szSy x_5) x_4 < 0) = true →
 (- (1 : Int)) = szR (LN a + @sumI Sym szSy a) left ∧ True) ∧ (decide (szR (szSy x_5) x_4 < 0) = false →
 i64 (x_3 + 1) ∧ (∃ (x_6 : Int), (∃ (x_7 : Int), x_3 + 1 = x_6 ∧ szR (szSy x_5) x_4 = x_7 ∧ @Eq (List Sym) a a ∧ (0 ≤ x_6 ∧ x_6 ≤ LN a ∧ 0 ≤ x_7 ∧ x_7 ≤ left ∧ szR (LN a + @sumI Sym szSy a) left = szR (@sumI Sym szSy (a.drop x_6.toNat)) x_7) ∧ a.length - x_6.toNat < a.length - x_3.toNat))))) ∧ (decide (x_3 < LN a) = false →
 x_4 = szR (LN a + @sumI Sym szSy a) left ∧ True)))))) := by kernel_rfl
theorem det_laws_szSymbolS : C_laws_szSymbolS.det = true → ∀ x, (C_laws_szSymbolS.out x).Det := fun _ x => by simp only [C_laws_szSymbolS]; repeat (first | exact Det.ret _ | exact Det.vc' | apply Det.req)
set_option maxRecDepth 200000 in
set_option maxHeartbeats 4000000 in
theorem ok_laws_szSymbolS : ConOK Try.prog 87 C_laws_szSymbolS := by
  refine con_mk (wr := false) (ty := tyL tys_) (l := L_laws_szSymbolS) ⟨⟨ok_laws_szSymbol, det_laws_szSymbol⟩, trivial⟩ Try.checked.mixed (fn := Try.f87) (body := Try.f87.body.getD .skip) Try.func87 rfl (by decide) (by kernel_rfl) rfl an_laws_szSymbolS fun x ho hx => ?_
  obtain ⟨a, left, ⟨⟩⟩ := x
  refine Keeps.of (vc_laws_szSymbolS a left) ?_
  revert a left ho hx
  show ∀ (a : List (Sym)) (left : Int), _
  intro a left ho hx
  dsimp only [C_laws_szSymbolS, okPTL, okPT, Ok, Ty.cells, SN.cells, OkL, OkC, okI, ci, cb, cs, cl] at ho
  dsimp only [C_laws_szSymbolS, vc, v1, decB, SR.pre] at hx
  have cs := sumI_nn (f := szSy) szSy_nn
  (try delta i64 LN); simp only [VBt]; (repeat' first | intro _ | apply And.intro); all_goals (try omega); all_goals first | (unfold szR; split <;> omega) | exact szR_le2 (by first | exact szSe_nn _ | exact szSy_nn _ | exact szOb_nn _ | exact szMb_nn _) ‹_› ‹_› | (try grind [szR, sumI_drop, drop_end, sumI])
def C_laws_eqSymbolS : Con := { ps := [.ro (.list (.st .sym)), .ro (.list (.st .sym))], out := fun x => let a : List (Sym) := x.1; let b : List (Sym) := x.2.1; vc .bool (decide (a = b)), det := true }
abbrev L_laws_eqSymbolS : List (Nat × Con) := [(118, C_laws_eqSymbol)]
def G_laws_eqSymbolS : Cfg := mkG (tyL tys_) L_laws_eqSymbolS false
def an_laws_eqSymbolS : PTL C_laws_eqSymbolS.ps → Nat → Option Ann := fun x kk_ => let a : List (Sym) := x.1; let b : List (Sym) := x.2.1; if kk_ = 4 then some (.all (Int) fun i => .giv (0 ≤ i ∧ i ≤ a.length ∧ a.length = b.length ∧ a.take i.toNat = b.take i.toNat) (.mk [(5, ai i), (0, al (.st .sym) a), (1, al (.st .sym) b)] [] ((a.length - i.toNat)))) else none
set_option maxRecDepth 200000 in
theorem vc_laws_eqSymbolS (a : List (Sym)) (b : List (Sym)) : (keeps Try.prog G_laws_eqSymbolS (an_laws_eqSymbolS (a, b, ())) (Try.f91.body.getD .skip) Try.f91.results.toList C_laws_eqSymbolS (a, b, ())) = ((a.length ≤ 9223372036854775807 →
 b.length ≤ 9223372036854775807 →
 (decide (LN a ≠ LN b) = true →
 false = decide (@Eq (List Sym) a b) ∧ True) ∧ (decide (LN a ≠ LN b) = false →
 (∃ (x_1 : Int), 0 = x_1 ∧ @Eq (List Sym) a a ∧ @Eq (List Sym) b b ∧ (0 ≤ x_1 ∧ x_1 ≤ LN a ∧ a.length = b.length ∧ @Eq (List Sym) (a.take x_1.toNat) (b.take x_1.toNat)) ∧ True) ∧ (∀ (x_2 : Int), 0 ≤ x_2 ∧ x_2 ≤ LN a ∧ a.length = b.length ∧ @Eq (List Sym) (a.take x_2.toNat) (b.take x_2.toNat) →
 a.length ≤ 9223372036854775807 →
 (decide (x_2 < LN a) = true →
 (0 ≤ x_2 ∧ x_2 < LN a) ∧ (∀ (x_3 : Sym), a[x_2.toNat]? = some x_3 →
 Ok (Ty.st SN.sym) x_3 →
 (0 ≤ x_2 ∧ x_2 < LN b) ∧ (∀ (x_4 : Sym), b[x_2.toNat]? = some x_4 →
 Ok (Ty.st SN.sym) x_4 →
 (Bool.not (decide (@Eq Sym x_3 x_4)) = true →
 false = decide (@Eq (List Sym) a b) ∧ True) ∧ (Bool.not (decide (@Eq Sym x_3 x_4)) = false →
 i64 (x_2 + 1) ∧ (∃ (x_5 : Int), x_2 + 1 = x_5 ∧ @Eq (List Sym) a a ∧ @Eq (List Sym) b b ∧ (0 ≤ x_5 ∧ x_5 ≤ LN a ∧ a.length = b.length ∧ @Eq (List Sym) (a.take x_5.toNat) (b.take x_5.toNat)) ∧ a.length - x_5.toNat < a.length - x_2.toNat))))) ∧ (decide (x_2 < LN a) = false →
 true = decide (@Eq (List Sym) a b) ∧ True))))) := by kernel_rfl
theorem det_laws_eqSymbolS : C_laws_eqSymbolS.det = true → ∀ x, (C_laws_eqSymbolS.out x).Det := fun _ _ => Det.vc'
set_option maxRecDepth 200000 in
set_option maxHeartbeats 4000000 in
theorem ok_laws_eqSymbolS : ConOK Try.prog 91 C_laws_eqSymbolS := by
  refine con_mk (wr := false) (ty := tyL tys_) (l := L_laws_eqSymbolS) ⟨⟨ok_laws_eqSymbol, det_laws_eqSymbol⟩, trivial⟩ Try.checked.mixed (fn := Try.f91) (body := Try.f91.body.getD .skip) Try.func91 rfl (by decide) (by kernel_rfl) rfl an_laws_eqSymbolS fun x ho hx => ?_
  obtain ⟨a, b, ⟨⟩⟩ := x
  refine Keeps.of (vc_laws_eqSymbolS a b) ?_
  revert a b ho hx
  show ∀ (a : List (Sym)) (b : List (Sym)), _
  intro a b ho hx
  dsimp only [C_laws_eqSymbolS, okPTL, okPT, Ok, Ty.cells, SN.cells, OkL, OkC, okI, ci, cb, cs, cl] at ho
  dsimp only [C_laws_eqSymbolS, vc, v1, decB, SR.pre] at hx
  (try delta i64 LN); simp only [VBt]; (repeat' first | intro _ | apply And.intro); all_goals (try omega); all_goals first | grind [take_all', take_next, take_diff] | exact take_next2 (by omega) (by assumption) (by assumption) (by assumption) (by assumption) | exact take_diff2 (by assumption) (by assumption) (by assumption)
def C_laws_markSymbolS : Con := { ps := [.row none (.st .sym), .ro .i], out := fun x => let a : List (Sym) := x.1; let k : Int := x.2.1; .req (0 ≤ k ∧ k + sumI c4 a ≤ 1000000000000) (turnL (.st .sym) (mkL mkSy c4 a k) (k + sumI c4 a)), det := true }
abbrev L_laws_markSymbolS : List (Nat × Con) := [(60, C_laws_markText)]
def G_laws_markSymbolS : Cfg := mkG (tyL tys_) L_laws_markSymbolS false
def an_laws_markSymbolS : PTL C_laws_markSymbolS.ps → Nat → Option Ann := fun x kk_ => let a : List (Sym) := x.1; let k : Int := x.2.1; if kk_ = 2 then some (.all (Int) fun i => .giv (0 ≤ i ∧ i ≤ a.length) (.mk [(5, ai i), (1, ai (k + sumI c4 (a.take i.toNat))), (0, asl 0)] [(0, .row none (.st .sym) (mkd mkSy c4 a k i.toNat) true)] ((a.length - i.toNat)))) else none
set_option maxRecDepth 200000 in
theorem vc_laws_markSymbolS (a : List (Sym)) (k : Int) : (keeps Try.prog G_laws_markSymbolS (an_laws_markSymbolS (a, k, ())) (Try.f59.body.getD .skip) Try.f59.results.toList C_laws_markSymbolS (a, k, ())) = (((∃ (x_1 : Int), 0 = x_1 ∧ k = k + @sumI Sym (@c4 Sym) (a.take x_1.toNat) ∧ @Eq (List Sym) a (@mkd Sym mkSy (@c4 Sym) a k x_1.toNat) ∧ (0 ≤ x_1 ∧ x_1 ≤ LN a) ∧ True) ∧ (∀ (x_2 : Int), 0 ≤ x_2 ∧ x_2 ≤ LN a →
 (@mkd Sym mkSy (@c4 Sym) a k x_2.toNat).length ≤ 9223372036854775807 →
 (decide (x_2 < LN (@mkd Sym mkSy (@c4 Sym) a k x_2.toNat)) = true →
 (0 ≤ k + @sumI Sym (@c4 Sym) (a.take x_2.toNat) ∧ k + @sumI Sym (@c4 Sym) (a.take x_2.toNat) ≤ 1000000000000) ∧ (0 ≤ x_2 ∧ x_2 < LN (@mkd Sym mkSy (@c4 Sym) a k x_2.toNat)) ∧ (∀ (x_3 : Sym), (@mkd Sym mkSy (@c4 Sym) a k x_2.toNat)[x_2.toNat]? = some x_3 →
 i64 (k + @sumI Sym (@c4 Sym) (a.take x_2.toNat) + 1) ∧ (0 ≤ x_2 ∧ x_2 < LN ((@mkd Sym mkSy (@c4 Sym) a k x_2.toNat).set x_2.toNat (Sym.mk (markT (k + @sumI Sym (@c4 Sym) (a.take x_2.toNat))) (Sym.bind x_3) (Sym.wher x_3) (Sym.value x_3)))) ∧ (∀ (x_4 : Sym), ((@mkd Sym mkSy (@c4 Sym) a k x_2.toNat).set x_2.toNat (Sym.mk (markT (k + @sumI Sym (@c4 Sym) (a.take x_2.toNat))) (Sym.bind x_3) (Sym.wher x_3) (Sym.value x_3)))[x_2.toNat]? = some x_4 →
 i64 (k + @sumI Sym (@c4 Sym) (a.take x_2.toNat) + 1 + 1) ∧ (0 ≤ x_2 ∧ x_2 < LN (((@mkd Sym mkSy (@c4 Sym) a k x_2.toNat).set x_2.toNat (Sym.mk (markT (k + @sumI Sym (@c4 Sym) (a.take x_2.toNat))) (Sym.bind x_3) (Sym.wher x_3) (Sym.value x_3))).set x_2.toNat (Sym.mk (Sym.name x_4) (k + @sumI Sym (@c4 Sym) (a.take x_2.toNat) + 1) (Sym.wher x_4) (Sym.value x_4)))) ∧ (∀ (x_5 : Sym), (((@mkd Sym mkSy (@c4 Sym) a k x_2.toNat).set x_2.toNat (Sym.mk (markT (k + @sumI Sym (@c4 Sym) (a.take x_2.toNat))) (Sym.bind x_3) (Sym.wher x_3) (Sym.value x_3))).set x_2.toNat (Sym.mk (Sym.name x_4) (k + @sumI Sym (@c4 Sym) (a.take x_2.toNat) + 1) (Sym.wher x_4) (Sym.value x_4)))[x_2.toNat]? = some x_5 →
 i64 (k + @sumI Sym (@c4 Sym) (a.take x_2.toNat) + 1 + 1 + 1) ∧ (0 ≤ x_2 ∧ x_2 < LN ((((@mkd Sym mkSy (@c4 Sym) a k x_2.toNat).set x_2.toNat (Sym.mk (markT (k + @sumI Sym (@c4 Sym) (a.take x_2.toNat))) (Sym.bind x_3) (Sym.wher x_3) (Sym.value x_3))).set x_2.toNat (Sym.mk (Sym.name x_4) (k + @sumI Sym (@c4 Sym) (a.take x_2.toNat) + 1) (Sym.wher x_4) (Sym.value x_4))).set x_2.toNat (Sym.mk (Sym.name x_5) (Sym.bind x_5) (k + @sumI Sym (@c4 Sym) (a.take x_2.toNat) + 1 + 1) (Sym.value x_5)))) ∧ (∀ (x_6 : Sym), ((((@mkd Sym mkSy (@c4 Sym) a k x_2.toNat).set x_2.toNat (Sym.mk (markT (k + @sumI Sym (@c4 Sym) (a.take x_2.toNat))) (Sym.bind x_3) (Sym.wher x_3) (Sym.value x_3))).set x_2.toNat (Sym.mk (Sym.name x_4) (k + @sumI Sym (@c4 Sym) (a.take x_2.toNat) + 1) (Sym.wher x_4) (Sym.value x_4))).set x_2.toNat (Sym.mk (Sym.name x_5) (Sym.bind x_5) (k + @sumI Sym (@c4 Sym) (a.take x_2.toNat) + 1 + 1) (Sym.value x_5)))[x_2.toNat]? = some x_6 →
 i64 (k + @sumI Sym (@c4 Sym) (a.take x_2.toNat) + 1 + 1 + 1 + 1) ∧ i64 (x_2 + 1) ∧ (∃ (x_7 : Int), x_2 + 1 = x_7 ∧ k + @sumI Sym (@c4 Sym) (a.take x_2.toNat) + 1 + 1 + 1 + 1 = k + @sumI Sym (@c4 Sym) (a.take x_7.toNat) ∧ @Eq (List Sym) (((((@mkd Sym mkSy (@c4 Sym) a k x_2.toNat).set x_2.toNat (Sym.mk (markT (k + @sumI Sym (@c4 Sym) (a.take x_2.toNat))) (Sym.bind x_3) (Sym.wher x_3) (Sym.value x_3))).set x_2.toNat (Sym.mk (Sym.name x_4) (k + @sumI Sym (@c4 Sym) (a.take x_2.toNat) + 1) (Sym.wher x_4) (Sym.value x_4))).set x_2.toNat (Sym.mk (Sym.name x_5) (Sym.bind x_5) (k + @sumI Sym (@c4 Sym) (a.take x_2.toNat) + 1 + 1) (Sym.value x_5))).set x_2.toNat (Sym.mk (Sym.name x_6) (Sym.bind x_6) (Sym.wher x_6) (k + @sumI Sym (@c4 Sym) (a.take x_2.toNat) + 1 + 1 + 1))) (@mkd Sym mkSy (@c4 Sym) a k x_7.toNat) ∧ (0 ≤ x_7 ∧ x_7 ≤ LN a) ∧ a.length - x_7.toNat < a.length - x_2.toNat)))))) ∧ (decide (x_2 < LN (@mkd Sym mkSy (@c4 Sym) a k x_2.toNat)) = false →
 k + @sumI Sym (@c4 Sym) (a.take x_2.toNat) = k + @sumI Sym (@c4 Sym) a ∧ @Eq (List Sym) (@mkd Sym mkSy (@c4 Sym) a k x_2.toNat) (@mkL Sym mkSy (@c4 Sym) a k) ∧ True)))) := by kernel_rfl
theorem det_laws_markSymbolS : C_laws_markSymbolS.det = true → ∀ x, (C_laws_markSymbolS.out x).Det := fun _ x => by simp only [C_laws_markSymbolS]; repeat (first | exact Det.ret _ | exact Det.vc' | apply Det.req)
set_option maxRecDepth 200000 in
set_option maxHeartbeats 4000000 in
theorem ok_laws_markSymbolS : ConOK Try.prog 59 C_laws_markSymbolS := by
  refine con_mk (wr := false) (ty := tyL tys_) (l := L_laws_markSymbolS) ⟨⟨ok_laws_markText, det_laws_markText⟩, trivial⟩ Try.checked.mixed (fn := Try.f59) (body := Try.f59.body.getD .skip) Try.func59 rfl (by decide) (by kernel_rfl) rfl an_laws_markSymbolS fun x ho hx => ?_
  obtain ⟨a, k, ⟨⟩⟩ := x
  refine Keeps.of (vc_laws_markSymbolS a k) ?_
  revert a k ho hx
  show ∀ (a : List (Sym)) (k : Int), _
  intro a k ho hx
  dsimp only [C_laws_markSymbolS, okPTL, okPT, Ok, Ty.cells, SN.cells, OkL, OkC, okI, ci, cb, cs, cl] at ho
  dsimp only [C_laws_markSymbolS, vc, v1, decB, SR.pre] at hx
  have cn : ∀ x : Sym, 0 ≤ c4 x := c4_nn
  have cl := sumI_le cn a
  have cs := sumI_nn cn
  (try delta i64 LN); simp only [VBt]; (repeat' first | intro _ | apply And.intro); all_goals (try omega); all_goals first | (simp only [List.length_take, List.length_replicate, mkd_len, List.length_set, List.length_append]; omega) | exact mkd_full' (by omega) | exact (mkd_zero _ _).symm | exact mkd_set' (by assumption) (by omega) (by subst_vars; simp [mkRg, mkFx, mkSy, mkPa, mkSe, mkMb, mkOb, mkIL, Int.add_assoc]) | (try grind [mkd_len, mkd_get, mkd_zero, sumI_next, sumI_all, cOne, c4, cPa, cSe, cOb, cMb, cIL, sumI])
def C_laws_toObject : Con := { ps := [.ro (.st .obj)], out := fun x => let a : Objt := x.1; .req (szOb a ≤ 1048576) (newS .obj a), det := true }
abbrev L_laws_toObject : List (Nat × Con) := [(88, C_laws_toSectionS), (89, C_laws_toSymbolS)]
def G_laws_toObject : Cfg := mkG (tyL tys_) L_laws_toObject false
def an_laws_toObject : PTL C_laws_toObject.ps → Nat → Option Ann := fun _ _ => none
set_option maxRecDepth 200000 in
theorem vc_laws_toObject (a : Objt) : (keeps Try.prog G_laws_toObject (an_laws_toObject (a, ())) (Try.f56.body.getD .skip) Try.f56.results.toList C_laws_toObject (a, ())) = ((LN (Objt.sects a) + @sumI Sect szSe (Objt.sects a) ≤ 1048576 ∧ LN (Objt.syms a) + @sumI Sym szSy (Objt.syms a) ≤ 1048576 ∧ @Eq (List Sect) (Objt.sects a) (Objt.sects a) ∧ @Eq (List Sym) (Objt.syms a) (Objt.syms a) ∧ True)) := by kernel_rfl
theorem det_laws_toObject : C_laws_toObject.det = true → ∀ x, (C_laws_toObject.out x).Det := fun _ x => by simp only [C_laws_toObject]; repeat (first | exact Det.ret _ | exact Det.vc' | apply Det.req)
set_option maxRecDepth 200000 in
set_option maxHeartbeats 4000000 in
theorem ok_laws_toObject : ConOK Try.prog 56 C_laws_toObject := by
  refine con_mk (wr := false) (ty := tyL tys_) (l := L_laws_toObject) ⟨⟨ok_laws_toSectionS, det_laws_toSectionS⟩, ⟨⟨ok_laws_toSymbolS, det_laws_toSymbolS⟩, trivial⟩⟩ Try.checked.mixed (fn := Try.f56) (body := Try.f56.body.getD .skip) Try.func56 rfl (by decide) (by kernel_rfl) rfl an_laws_toObject fun x ho hx => ?_
  obtain ⟨a, ⟨⟩⟩ := x
  refine Keeps.of (vc_laws_toObject a) ?_
  revert a ho hx
  show ∀ (a : Objt), _
  intro a ho hx
  dsimp only [C_laws_toObject, okPTL, okPT, Ok, Ty.cells, SN.cells, OkL, OkC, okI, ci, cb, cs, cl] at ho
  dsimp only [C_laws_toObject, vc, v1, decB, SR.pre] at hx
  have f0 := sumI_nn szSe_nn a.sects
  have f1 := sumI_nn szSy_nn a.syms
  (try delta i64 LN); simp only [VBt]; (repeat' first | intro _ | apply And.intro); all_goals (try omega); all_goals (try grind [szIm, szMe, szHa, szPa, szSe, szSy, szOb, szMb])
def C_laws_szObject : Con := { ps := [.ro (.st .obj), .ro .i], out := fun x => let a : Objt := x.1; let left : Int := x.2.1; .req (0 ≤ left ∧ left ≤ 1048576) (vc .i (szR (szOb a) left)), det := true }
abbrev L_laws_szObject : List (Nat × Con) := [(86, C_laws_szSectionS), (87, C_laws_szSymbolS)]
def G_laws_szObject : Cfg := mkG (tyL tys_) L_laws_szObject false
def an_laws_szObject : PTL C_laws_szObject.ps → Nat → Option Ann := fun _ _ => none
set_option maxRecDepth 200000 in
theorem vc_laws_szObject (a : Objt) (left : Int) : (keeps Try.prog G_laws_szObject (an_laws_szObject (a, left, ())) (Try.f55.body.getD .skip) Try.f55.results.toList C_laws_szObject (a, left, ())) = (((0 ≤ left ∧ left ≤ 1048576) ∧ (decide (szR (LN (Objt.sects a) + @sumI Sect szSe (Objt.sects a)) left < 0) = true →
 (- (1 : Int)) = szR (szOb a) left ∧ True) ∧ (decide (szR (LN (Objt.sects a) + @sumI Sect szSe (Objt.sects a)) left < 0) = false →
 (0 ≤ szR (LN (Objt.sects a) + @sumI Sect szSe (Objt.sects a)) left ∧ szR (LN (Objt.sects a) + @sumI Sect szSe (Objt.sects a)) left ≤ 1048576) ∧ (decide (szR (LN (Objt.syms a) + @sumI Sym szSy (Objt.syms a)) (szR (LN (Objt.sects a) + @sumI Sect szSe (Objt.sects a)) left) < 0) = true →
 (- (1 : Int)) = szR (szOb a) left ∧ True) ∧ (decide (szR (LN (Objt.syms a) + @sumI Sym szSy (Objt.syms a)) (szR (LN (Objt.sects a) + @sumI Sect szSe (Objt.sects a)) left) < 0) = false →
 szR (LN (Objt.syms a) + @sumI Sym szSy (Objt.syms a)) (szR (LN (Objt.sects a) + @sumI Sect szSe (Objt.sects a)) left) = szR (szOb a) left ∧ True)))) := by kernel_rfl
theorem det_laws_szObject : C_laws_szObject.det = true → ∀ x, (C_laws_szObject.out x).Det := fun _ x => by simp only [C_laws_szObject]; repeat (first | exact Det.ret _ | exact Det.vc' | apply Det.req)
set_option maxRecDepth 200000 in
set_option maxHeartbeats 4000000 in
theorem ok_laws_szObject : ConOK Try.prog 55 C_laws_szObject := by
  refine con_mk (wr := false) (ty := tyL tys_) (l := L_laws_szObject) ⟨⟨ok_laws_szSectionS, det_laws_szSectionS⟩, ⟨⟨ok_laws_szSymbolS, det_laws_szSymbolS⟩, trivial⟩⟩ Try.checked.mixed (fn := Try.f55) (body := Try.f55.body.getD .skip) Try.func55 rfl (by decide) (by kernel_rfl) rfl an_laws_szObject fun x ho hx => ?_
  obtain ⟨a, left, ⟨⟩⟩ := x
  refine Keeps.of (vc_laws_szObject a left) ?_
  revert a left ho hx
  show ∀ (a : Objt) (left : Int), _
  intro a left ho hx
  dsimp only [C_laws_szObject, okPTL, okPT, Ok, Ty.cells, SN.cells, OkL, OkC, okI, ci, cb, cs, cl] at ho
  dsimp only [C_laws_szObject, vc, v1, decB, SR.pre] at hx
  have f0 := sumI_nn szSe_nn a.sects
  have f1 := sumI_nn szSy_nn a.syms
  (try delta i64 LN); simp only [VBt]; (repeat' first | intro _ | apply And.intro); all_goals (try omega); all_goals (try grind [szR, szIm, szMe, szHa, szPa, szSe, szSy, szOb, szMb])
def C_laws_eqObject : Con := { ps := [.ro (.st .obj), .ro (.st .obj)], out := fun x => let a : Objt := x.1; let b : Objt := x.2.1; vc .bool (decide (a = b)), det := true }
abbrev L_laws_eqObject : List (Nat × Con) := [(90, C_laws_eqSectionS), (91, C_laws_eqSymbolS)]
def G_laws_eqObject : Cfg := mkG (tyL tys_) L_laws_eqObject false
def an_laws_eqObject : PTL C_laws_eqObject.ps → Nat → Option Ann := fun _ _ => none
set_option maxRecDepth 200000 in
theorem vc_laws_eqObject (a : Objt) (b : Objt) : (keeps Try.prog G_laws_eqObject (an_laws_eqObject (a, b, ())) (Try.f57.body.getD .skip) Try.f57.results.toList C_laws_eqObject (a, b, ())) = (((Bool.not (decide (@Eq (List Sect) (Objt.sects a) (Objt.sects b))) = true →
 false = decide (@Eq Objt a b) ∧ True) ∧ (Bool.not (decide (@Eq (List Sect) (Objt.sects a) (Objt.sects b))) = false →
 (Bool.not (decide (@Eq (List Sym) (Objt.syms a) (Objt.syms b))) = true →
 false = decide (@Eq Objt a b) ∧ True) ∧ (Bool.not (decide (@Eq (List Sym) (Objt.syms a) (Objt.syms b))) = false →
 true = decide (@Eq Objt a b) ∧ True)))) := by kernel_rfl
theorem det_laws_eqObject : C_laws_eqObject.det = true → ∀ x, (C_laws_eqObject.out x).Det := fun _ _ => Det.vc'
set_option maxRecDepth 200000 in
set_option maxHeartbeats 4000000 in
theorem ok_laws_eqObject : ConOK Try.prog 57 C_laws_eqObject := by
  refine con_mk (wr := false) (ty := tyL tys_) (l := L_laws_eqObject) ⟨⟨ok_laws_eqSectionS, det_laws_eqSectionS⟩, ⟨⟨ok_laws_eqSymbolS, det_laws_eqSymbolS⟩, trivial⟩⟩ Try.checked.mixed (fn := Try.f57) (body := Try.f57.body.getD .skip) Try.func57 rfl (by decide) (by kernel_rfl) rfl an_laws_eqObject fun x ho hx => ?_
  obtain ⟨a, b, ⟨⟩⟩ := x
  refine Keeps.of (vc_laws_eqObject a b) ?_
  revert a b ho hx
  show ∀ (a : Objt) (b : Objt), _
  intro a b ho hx
  dsimp only [C_laws_eqObject, okPTL, okPT, Ok, Ty.cells, SN.cells, OkL, OkC, okI, ci, cb, cs, cl] at ho
  dsimp only [C_laws_eqObject, vc, v1, decB, SR.pre] at hx
  (try delta i64 LN); simp only [VBt]; (repeat' first | intro _ | apply And.intro); all_goals (try omega); all_goals (first | grind [cases Img] | (cases a; cases b; simp_all; done) | (obtain ⟨⟨_, _⟩, _⟩ := a; obtain ⟨⟨_, _⟩, _⟩ := b; simp_all; done) | (obtain ⟨_, _, _⟩ := a; obtain ⟨_, _, _⟩ := b; simp_all; done) | (obtain ⟨_, ⟨_, _⟩⟩ := a; obtain ⟨_, ⟨_, _⟩⟩ := b; simp_all; done) | skip)
def C_laws_toObjectS : Con := { ps := [.ro (.list (.st .obj))], out := fun x => let a : List (Objt) := x.1; .req ((a.length + sumI szOb a : Int) ≤ 1048576) (newL (.st .obj) a), det := true }
abbrev L_laws_toObjectS : List (Nat × Con) := [(56, C_laws_toObject)]
def G_laws_toObjectS : Cfg := mkG (tyL tys_) L_laws_toObjectS false
def an_laws_toObjectS : PTL C_laws_toObjectS.ps → Nat → Option Ann := fun x kk_ => let a : List (Objt) := x.1; if kk_ = 3 then some (.all (Int) fun i => .giv (0 ≤ i ∧ i ≤ a.length) (.mk [(4, ai i), (3, asl 20), (0, al (.st .obj) a)] [(20, .row (some 26) (.st .obj) (a.take i.toNat ++ List.replicate (a.length - i.toNat) (⟨[], []⟩ : Objt)) true)] ((a.length - i.toNat)))) else none
set_option maxRecDepth 200000 in
theorem vc_laws_toObjectS (a : List (Objt)) : (keeps Try.prog G_laws_toObjectS (an_laws_toObjectS (a, ())) (Try.f28.body.getD .skip) Try.f28.results.toList C_laws_toObjectS (a, ())) = ((a.length ≤ 9223372036854775807 →
 (LN a = LN a ∧ 0 ≤ LN a ∧ LN a ≤ 1000000000000 ∧ @Nat.cast Int _ (48 : Nat) * LN a ≤ 140737488355328) ∧ (∃ (x_1 : Int), 0 = x_1 ∧ @Eq (List Objt) a a ∧ @Eq (List Objt) (@repl Objt (LN a) (Objt.mk ([] : List Sect) ([] : List Sym))) (a.take x_1.toNat ++ @List.replicate Objt (a.length - x_1.toNat) (Objt.mk ([] : List Sect) ([] : List Sym))) ∧ (0 ≤ x_1 ∧ x_1 ≤ LN a) ∧ True) ∧ (∀ (x_2 : Int), 0 ≤ x_2 ∧ x_2 ≤ LN a →
 a.length ≤ 9223372036854775807 →
 (decide (x_2 < LN a) = true →
 (0 ≤ x_2 ∧ x_2 < LN a) ∧ (∀ (x_3 : Objt), a[x_2.toNat]? = some x_3 →
 Ok (Ty.st SN.obj) x_3 →
 szOb x_3 ≤ 1048576 ∧ (0 ≤ x_2 ∧ x_2 < LN (a.take x_2.toNat ++ @List.replicate Objt (a.length - x_2.toNat) (Objt.mk ([] : List Sect) ([] : List Sym)))) ∧ (∀ (x_4 : Objt), (a.take x_2.toNat ++ @List.replicate Objt (a.length - x_2.toNat) (Objt.mk ([] : List Sect) ([] : List Sym)))[x_2.toNat]? = some x_4 →
 i64 (x_2 + 1) ∧ (∃ (x_5 : Int), x_2 + 1 = x_5 ∧ @Eq (List Objt) a a ∧ @Eq (List Objt) ((a.take x_2.toNat ++ @List.replicate Objt (a.length - x_2.toNat) (Objt.mk ([] : List Sect) ([] : List Sym))).set x_2.toNat x_3) (a.take x_5.toNat ++ @List.replicate Objt (a.length - x_5.toNat) (Objt.mk ([] : List Sect) ([] : List Sym))) ∧ (0 ≤ x_5 ∧ x_5 ≤ LN a) ∧ a.length - x_5.toNat < a.length - x_2.toNat)))) ∧ (decide (x_2 < LN a) = false →
 @Eq (List Objt) (a.take x_2.toNat ++ @List.replicate Objt (a.length - x_2.toNat) (Objt.mk ([] : List Sect) ([] : List Sym))) a ∧ True)))) := by kernel_rfl
theorem det_laws_toObjectS : C_laws_toObjectS.det = true → ∀ x, (C_laws_toObjectS.out x).Det := fun _ x => by simp only [C_laws_toObjectS]; repeat (first | exact Det.ret _ | exact Det.vc' | apply Det.req)
set_option maxRecDepth 200000 in
set_option maxHeartbeats 4000000 in
theorem ok_laws_toObjectS : ConOK Try.prog 28 C_laws_toObjectS := by
  refine con_mk (wr := false) (ty := tyL tys_) (l := L_laws_toObjectS) ⟨⟨ok_laws_toObject, det_laws_toObject⟩, trivial⟩ Try.checked.mixed (fn := Try.f28) (body := Try.f28.body.getD .skip) Try.func28 rfl (by decide) (by kernel_rfl) rfl an_laws_toObjectS fun x ho hx => ?_
  obtain ⟨a, ⟨⟩⟩ := x
  refine Keeps.of (vc_laws_toObjectS a) ?_
  revert a ho hx
  show ∀ (a : List (Objt)), _
  intro a ho hx
  dsimp only [C_laws_toObjectS, okPTL, okPT, Ok, Ty.cells, SN.cells, OkL, OkC, okI, ci, cb, cs, cl] at ho
  dsimp only [C_laws_toObjectS, vc, v1, decB, SR.pre] at hx
  have cs := sumI_nn (f := szOb) szOb_nn a
  have ca := fun k x => sumI_at (f := szOb) szOb_nn (l := a) (k := k) (x := x)
  (try delta i64 LN); simp only [VBt]; (repeat' first | intro _ | apply And.intro); all_goals (try omega); all_goals first | exact repl_fill | exact set_fill' ‹_› (by omega) | exact fill_full' (by omega) | (simp only [List.length_take, List.length_replicate, mkd_len, List.length_set, List.length_append]; omega) | (try grind [sumI_at, szPa, szSe, szOb, szSy, szMb])
def C_laws_szObjectS : Con := { ps := [.ro (.list (.st .obj)), .ro .i], out := fun x => let a : List (Objt) := x.1; let left : Int := x.2.1; .req (0 ≤ left ∧ left ≤ 1048576) (vc .i (szR (a.length + sumI szOb a : Int) left)), det := true }
abbrev L_laws_szObjectS : List (Nat × Con) := [(55, C_laws_szObject)]
def G_laws_szObjectS : Cfg := mkG (tyL tys_) L_laws_szObjectS false
def an_laws_szObjectS : PTL C_laws_szObjectS.ps → Nat → Option Ann := fun x kk_ => let a : List (Objt) := x.1; let left : Int := x.2.1; if kk_ = 5 then some (.all (Int) fun i => .all (Int) fun m => .giv (0 ≤ i ∧ i ≤ a.length ∧ 0 ≤ m ∧ m ≤ left ∧ szR (a.length + sumI szOb a : Int) left = szR (sumI szOb (a.drop i.toNat)) m) (.mk [(5, ai i), (1, ai m), (0, al (.st .obj) a)] [] ((a.length - i.toNat)))) else none
set_option maxRecDepth 200000 in
theorem vc_laws_szObjectS (a : List (Objt)) (left : Int) : (keeps Try.prog G_laws_szObjectS (an_laws_szObjectS (a, left, ())) (Try.f27.body.getD .skip) Try.f27.results.toList C_laws_szObjectS (a, left, ())) = ((a.length ≤ 9223372036854775807 →
 i64 (left - LN a) ∧ (decide (left - LN a < 0) = true →
 (- (1 : Int)) = szR (LN a + @sumI Objt szOb a) left ∧ True) ∧ (decide (left - LN a < 0) = false →
 (∃ (x_1 : Int), (∃ (x_2 : Int), 0 = x_1 ∧ left - LN a = x_2 ∧ @Eq (List Objt) a a ∧ (0 ≤ x_1 ∧ x_1 ≤ LN a ∧ 0 ≤ x_2 ∧ x_2 ≤ left ∧ szR (LN a + @sumI Objt szOb a) left = szR (@sumI Objt szOb (a.drop x_1.toNat)) x_2) ∧ True)) ∧ (∀ (x_3 : Int), (∀ (x_4 : Int), 0 ≤ x_3 ∧ x_3 ≤ LN a ∧ 0 ≤ x_4 ∧ x_4 ≤ left ∧ szR (LN a + @sumI Objt szOb a) left = szR (@sumI Objt szOb (a.drop x_3.toNat)) x_4 →
 a.length ≤ 9223372036854775807 →
 (decide (x_3 < LN a) = true →
 (0 ≤ x_3 ∧ x_3 < LN a) ∧ (∀ (x_5 : Objt), a[x_3.toNat]? = some x_5 →
 Ok (Ty.st SN.obj) x_5 →
 (0 ≤ x_4 ∧ x_4 ≤ 1048576) ∧ (decide (szR (szOb x_5) x_4 < 0) = true →
 (- (1 : Int)) = szR (LN a + @sumI Objt szOb a) left ∧ True) ∧ (decide (szR (szOb x_5) x_4 < 0) = false →
 i64 (x_3 + 1) ∧ (∃ (x_6 : Int), (∃ (x_7 : Int), x_3 + 1 = x_6 ∧ szR (szOb x_5) x_4 = x_7 ∧ @Eq (List Objt) a a ∧ (0 ≤ x_6 ∧ x_6 ≤ LN a ∧ 0 ≤ x_7 ∧ x_7 ≤ left ∧ szR (LN a + @sumI Objt szOb a) left = szR (@sumI Objt szOb (a.drop x_6.toNat)) x_7) ∧ a.length - x_6.toNat < a.length - x_3.toNat))))) ∧ (decide (x_3 < LN a) = false →
 x_4 = szR (LN a + @sumI Objt szOb a) left ∧ True)))))) := by kernel_rfl
theorem det_laws_szObjectS : C_laws_szObjectS.det = true → ∀ x, (C_laws_szObjectS.out x).Det := fun _ x => by simp only [C_laws_szObjectS]; repeat (first | exact Det.ret _ | exact Det.vc' | apply Det.req)
set_option maxRecDepth 200000 in
set_option maxHeartbeats 4000000 in
theorem ok_laws_szObjectS : ConOK Try.prog 27 C_laws_szObjectS := by
  refine con_mk (wr := false) (ty := tyL tys_) (l := L_laws_szObjectS) ⟨⟨ok_laws_szObject, det_laws_szObject⟩, trivial⟩ Try.checked.mixed (fn := Try.f27) (body := Try.f27.body.getD .skip) Try.func27 rfl (by decide) (by kernel_rfl) rfl an_laws_szObjectS fun x ho hx => ?_
  obtain ⟨a, left, ⟨⟩⟩ := x
  refine Keeps.of (vc_laws_szObjectS a left) ?_
  revert a left ho hx
  show ∀ (a : List (Objt)) (left : Int), _
  intro a left ho hx
  dsimp only [C_laws_szObjectS, okPTL, okPT, Ok, Ty.cells, SN.cells, OkL, OkC, okI, ci, cb, cs, cl] at ho
  dsimp only [C_laws_szObjectS, vc, v1, decB, SR.pre] at hx
  have cs := sumI_nn (f := szOb) szOb_nn
  (try delta i64 LN); simp only [VBt]; (repeat' first | intro _ | apply And.intro); all_goals (try omega); all_goals first | (unfold szR; split <;> omega) | exact szR_le2 (by first | exact szSe_nn _ | exact szSy_nn _ | exact szOb_nn _ | exact szMb_nn _) ‹_› ‹_› | (try grind [szR, sumI_drop, drop_end, sumI])
def C_laws_eqObjectS : Con := { ps := [.ro (.list (.st .obj)), .ro (.list (.st .obj))], out := fun x => let a : List (Objt) := x.1; let b : List (Objt) := x.2.1; vc .bool (decide (a = b)), det := true }
abbrev L_laws_eqObjectS : List (Nat × Con) := [(57, C_laws_eqObject)]
def G_laws_eqObjectS : Cfg := mkG (tyL tys_) L_laws_eqObjectS false
def an_laws_eqObjectS : PTL C_laws_eqObjectS.ps → Nat → Option Ann := fun x kk_ => let a : List (Objt) := x.1; let b : List (Objt) := x.2.1; if kk_ = 4 then some (.all (Int) fun i => .giv (0 ≤ i ∧ i ≤ a.length ∧ a.length = b.length ∧ a.take i.toNat = b.take i.toNat) (.mk [(5, ai i), (0, al (.st .obj) a), (1, al (.st .obj) b)] [] ((a.length - i.toNat)))) else none
set_option maxRecDepth 200000 in
theorem vc_laws_eqObjectS (a : List (Objt)) (b : List (Objt)) : (keeps Try.prog G_laws_eqObjectS (an_laws_eqObjectS (a, b, ())) (Try.f30.body.getD .skip) Try.f30.results.toList C_laws_eqObjectS (a, b, ())) = ((a.length ≤ 9223372036854775807 →
 b.length ≤ 9223372036854775807 →
 (decide (LN a ≠ LN b) = true →
 false = decide (@Eq (List Objt) a b) ∧ True) ∧ (decide (LN a ≠ LN b) = false →
 (∃ (x_1 : Int), 0 = x_1 ∧ @Eq (List Objt) a a ∧ @Eq (List Objt) b b ∧ (0 ≤ x_1 ∧ x_1 ≤ LN a ∧ a.length = b.length ∧ @Eq (List Objt) (a.take x_1.toNat) (b.take x_1.toNat)) ∧ True) ∧ (∀ (x_2 : Int), 0 ≤ x_2 ∧ x_2 ≤ LN a ∧ a.length = b.length ∧ @Eq (List Objt) (a.take x_2.toNat) (b.take x_2.toNat) →
 a.length ≤ 9223372036854775807 →
 (decide (x_2 < LN a) = true →
 (0 ≤ x_2 ∧ x_2 < LN a) ∧ (∀ (x_3 : Objt), a[x_2.toNat]? = some x_3 →
 Ok (Ty.st SN.obj) x_3 →
 (0 ≤ x_2 ∧ x_2 < LN b) ∧ (∀ (x_4 : Objt), b[x_2.toNat]? = some x_4 →
 Ok (Ty.st SN.obj) x_4 →
 (Bool.not (decide (@Eq Objt x_3 x_4)) = true →
 false = decide (@Eq (List Objt) a b) ∧ True) ∧ (Bool.not (decide (@Eq Objt x_3 x_4)) = false →
 i64 (x_2 + 1) ∧ (∃ (x_5 : Int), x_2 + 1 = x_5 ∧ @Eq (List Objt) a a ∧ @Eq (List Objt) b b ∧ (0 ≤ x_5 ∧ x_5 ≤ LN a ∧ a.length = b.length ∧ @Eq (List Objt) (a.take x_5.toNat) (b.take x_5.toNat)) ∧ a.length - x_5.toNat < a.length - x_2.toNat))))) ∧ (decide (x_2 < LN a) = false →
 true = decide (@Eq (List Objt) a b) ∧ True))))) := by kernel_rfl
theorem det_laws_eqObjectS : C_laws_eqObjectS.det = true → ∀ x, (C_laws_eqObjectS.out x).Det := fun _ _ => Det.vc'
set_option maxRecDepth 200000 in
set_option maxHeartbeats 4000000 in
theorem ok_laws_eqObjectS : ConOK Try.prog 30 C_laws_eqObjectS := by
  refine con_mk (wr := false) (ty := tyL tys_) (l := L_laws_eqObjectS) ⟨⟨ok_laws_eqObject, det_laws_eqObject⟩, trivial⟩ Try.checked.mixed (fn := Try.f30) (body := Try.f30.body.getD .skip) Try.func30 rfl (by decide) (by kernel_rfl) rfl an_laws_eqObjectS fun x ho hx => ?_
  obtain ⟨a, b, ⟨⟩⟩ := x
  refine Keeps.of (vc_laws_eqObjectS a b) ?_
  revert a b ho hx
  show ∀ (a : List (Objt)) (b : List (Objt)), _
  intro a b ho hx
  dsimp only [C_laws_eqObjectS, okPTL, okPT, Ok, Ty.cells, SN.cells, OkL, OkC, okI, ci, cb, cs, cl] at ho
  dsimp only [C_laws_eqObjectS, vc, v1, decB, SR.pre] at hx
  (try delta i64 LN); simp only [VBt]; (repeat' first | intro _ | apply And.intro); all_goals (try omega); all_goals first | grind [take_all', take_next, take_diff] | exact take_next2 (by omega) (by assumption) (by assumption) (by assumption) (by assumption) | exact take_diff2 (by assumption) (by assumption) (by assumption)
def C_laws_markObjectS : Con := { ps := [.row none (.st .obj), .ro .i], out := fun x => let a : List (Objt) := x.1; let k : Int := x.2.1; .req (0 ≤ k ∧ k + sumI cOb a ≤ 1000000000000) (turnL (.st .obj) (mkL mkOb cOb a k) (k + sumI cOb a)), det := true }
abbrev L_laws_markObjectS : List (Nat × Con) := [(58, C_laws_markSectionS), (59, C_laws_markSymbolS)]
def G_laws_markObjectS : Cfg := mkG (tyL tys_) L_laws_markObjectS false
def an_laws_markObjectS : PTL C_laws_markObjectS.ps → Nat → Option Ann := fun x kk_ => let a : List (Objt) := x.1; let k : Int := x.2.1; if kk_ = 2 then some (.all (Int) fun i => .giv (0 ≤ i ∧ i ≤ a.length) (.mk [(5, ai i), (1, ai (k + sumI cOb (a.take i.toNat))), (0, asl 0)] [(0, .row none (.st .obj) (mkd mkOb cOb a k i.toNat) true)] ((a.length - i.toNat)))) else none
set_option maxRecDepth 200000 in
theorem vc_laws_markObjectS (a : List (Objt)) (k : Int) : (keeps Try.prog G_laws_markObjectS (an_laws_markObjectS (a, k, ())) (Try.f31.body.getD .skip) Try.f31.results.toList C_laws_markObjectS (a, k, ())) = (((∃ (x_1 : Int), 0 = x_1 ∧ k = k + @sumI Objt cOb (a.take x_1.toNat) ∧ @Eq (List Objt) a (@mkd Objt mkOb cOb a k x_1.toNat) ∧ (0 ≤ x_1 ∧ x_1 ≤ LN a) ∧ True) ∧ (∀ (x_2 : Int), 0 ≤ x_2 ∧ x_2 ≤ LN a →
 (@mkd Objt mkOb cOb a k x_2.toNat).length ≤ 9223372036854775807 →
 (decide (x_2 < LN (@mkd Objt mkOb cOb a k x_2.toNat)) = true →
 (0 ≤ x_2 ∧ x_2 < LN (@mkd Objt mkOb cOb a k x_2.toNat)) ∧ (∀ (x_3 : Objt), (@mkd Objt mkOb cOb a k x_2.toNat)[x_2.toNat]? = some x_3 →
 Ok (Ty.st SN.obj) x_3 →
 (∀ (x_4 : Objt), (@mkd Objt mkOb cOb a k x_2.toNat)[x_2.toNat]? = some x_4 →
 (0 ≤ k + @sumI Objt cOb (a.take x_2.toNat) ∧ k + @sumI Objt cOb (a.take x_2.toNat) + @sumI Sect cSe (Objt.sects x_4) ≤ 1000000000000) ∧ (0 ≤ x_2 ∧ x_2 < LN ((@mkd Objt mkOb cOb a k x_2.toNat).set x_2.toNat (Objt.mk (@mkL Sect mkSe cSe (Objt.sects x_4) (k + @sumI Objt cOb (a.take x_2.toNat))) (Objt.syms x_4)))) ∧ (∀ (x_5 : Objt), ((@mkd Objt mkOb cOb a k x_2.toNat).set x_2.toNat (Objt.mk (@mkL Sect mkSe cSe (Objt.sects x_4) (k + @sumI Objt cOb (a.take x_2.toNat))) (Objt.syms x_4)))[x_2.toNat]? = some x_5 →
 Ok (Ty.st SN.obj) x_5 →
 (∀ (x_6 : Objt), ((@mkd Objt mkOb cOb a k x_2.toNat).set x_2.toNat (Objt.mk (@mkL Sect mkSe cSe (Objt.sects x_4) (k + @sumI Objt cOb (a.take x_2.toNat))) (Objt.syms x_4)))[x_2.toNat]? = some x_6 →
 (0 ≤ k + @sumI Objt cOb (a.take x_2.toNat) + @sumI Sect cSe (Objt.sects x_4) ∧ k + @sumI Objt cOb (a.take x_2.toNat) + @sumI Sect cSe (Objt.sects x_4) + @sumI Sym (@c4 Sym) (Objt.syms x_6) ≤ 1000000000000) ∧ i64 (x_2 + 1) ∧ (∃ (x_7 : Int), x_2 + 1 = x_7 ∧ k + @sumI Objt cOb (a.take x_2.toNat) + @sumI Sect cSe (Objt.sects x_4) + @sumI Sym (@c4 Sym) (Objt.syms x_6) = k + @sumI Objt cOb (a.take x_7.toNat) ∧ @Eq (List Objt) (((@mkd Objt mkOb cOb a k x_2.toNat).set x_2.toNat (Objt.mk (@mkL Sect mkSe cSe (Objt.sects x_4) (k + @sumI Objt cOb (a.take x_2.toNat))) (Objt.syms x_4))).set x_2.toNat (Objt.mk (Objt.sects x_6) (@mkL Sym mkSy (@c4 Sym) (Objt.syms x_6) (k + @sumI Objt cOb (a.take x_2.toNat) + @sumI Sect cSe (Objt.sects x_4))))) (@mkd Objt mkOb cOb a k x_7.toNat) ∧ (0 ≤ x_7 ∧ x_7 ≤ LN a) ∧ a.length - x_7.toNat < a.length - x_2.toNat)))))) ∧ (decide (x_2 < LN (@mkd Objt mkOb cOb a k x_2.toNat)) = false →
 k + @sumI Objt cOb (a.take x_2.toNat) = k + @sumI Objt cOb a ∧ @Eq (List Objt) (@mkd Objt mkOb cOb a k x_2.toNat) (@mkL Objt mkOb cOb a k) ∧ True)))) := by kernel_rfl
theorem det_laws_markObjectS : C_laws_markObjectS.det = true → ∀ x, (C_laws_markObjectS.out x).Det := fun _ x => by simp only [C_laws_markObjectS]; repeat (first | exact Det.ret _ | exact Det.vc' | apply Det.req)
set_option maxRecDepth 200000 in
set_option maxHeartbeats 4000000 in
theorem ok_laws_markObjectS : ConOK Try.prog 31 C_laws_markObjectS := by
  refine con_mk (wr := false) (ty := tyL tys_) (l := L_laws_markObjectS) ⟨⟨ok_laws_markSectionS, det_laws_markSectionS⟩, ⟨⟨ok_laws_markSymbolS, det_laws_markSymbolS⟩, trivial⟩⟩ Try.checked.mixed (fn := Try.f31) (body := Try.f31.body.getD .skip) Try.func31 rfl (by decide) (by kernel_rfl) rfl an_laws_markObjectS fun x ho hx => ?_
  obtain ⟨a, k, ⟨⟩⟩ := x
  refine Keeps.of (vc_laws_markObjectS a k) ?_
  revert a k ho hx
  show ∀ (a : List (Objt)) (k : Int), _
  intro a k ho hx
  dsimp only [C_laws_markObjectS, okPTL, okPT, Ok, Ty.cells, SN.cells, OkL, OkC, okI, ci, cb, cs, cl] at ho
  dsimp only [C_laws_markObjectS, vc, v1, decB, SR.pre] at hx
  have cn : ∀ x : Objt, 0 ≤ cOb x := cOb_nn
  have cl := sumI_le cn a
  have cs := sumI_nn cn
  have cb := fun i x => sumI_tk cn (l := a) (i := i) (x := x)
  have g1 := @cOne_ge Int
  have g2 := @c4_ge Fixup
  have g3 := @c4_ge Sym
  have g4 := cSe_ge
  (try delta i64 LN); simp only [VBt]; (repeat' first | intro _ | apply And.intro); all_goals (try omega); all_goals first | (simp only [List.length_take, List.length_replicate, mkd_len, List.length_set, List.length_append]; omega) | exact mkd_full' (by omega) | exact (mkd_zero _ _).symm | exact mkd_set' (by assumption) (by omega) (by subst_vars; simp [mkRg, mkFx, mkSy, mkPa, mkSe, mkMb, mkOb, mkIL, Int.add_assoc]) | (try grind [mkd_len, mkd_get, mkd_zero, sumI_next, sumI_all, cOne, c4, cPa, cSe, cOb, cMb, cIL, sumI])
end Go.Proofs.Ythkefakjihafeaa
