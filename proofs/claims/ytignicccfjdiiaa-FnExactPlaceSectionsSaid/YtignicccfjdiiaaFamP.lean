/- The laws' families: members of archives, lists of lists. -/
import Derived.Test.YtignicccfjdiiaaFamO
set_option linter.unusedVariables false
set_option linter.unusedSimpArgs false
namespace Go.Proofs.Ytignicccfjdiiaa
open Go Go.RowKit


def C_laws_toMember : Con := { ps := [.ro (.st .member)], out := fun x => let a : Member := x.1; .req (szMb a ≤ 1048576) (newS .member a), det := true }
abbrev L_laws_toMember : List (Nat × Con) := [(91, C_laws_toObject)]
def G_laws_toMember : Cfg := mkG (tyL tys_) L_laws_toMember false
def an_laws_toMember : PTL C_laws_toMember.ps → Nat → Option Ann := fun _ _ => none
set_option maxRecDepth 200000 in
theorem vc_laws_toMember (a : Member) : (keeps Try.prog G_laws_toMember (an_laws_toMember (a, ())) (Try.f67.body.getD .skip) Try.f67.results.toList C_laws_toMember (a, ())) = ((((szOb (Member.what a)) ≤ 1048576) ∧
 ((@Eq ByteArray (Member.name a) (Member.name a)) ∧
 ((@Eq (List Sect) (Objt.sects (Member.what a)) (Objt.sects (Member.what a))) ∧
 ((@Eq (List Sym) (Objt.syms (Member.what a)) (Objt.syms (Member.what a))) ∧
 True))))) := by kernel_rfl
theorem det_laws_toMember : C_laws_toMember.det = true → ∀ x, (C_laws_toMember.out x).Det := fun _ x => by simp only [C_laws_toMember]; repeat (first | exact Det.ret _ | exact Det.vc' | apply Det.req)
set_option maxRecDepth 200000 in
set_option maxHeartbeats 4000000 in
theorem ok_laws_toMember : ConOK Try.prog 67 C_laws_toMember := by
  refine con_mk (wr := false) (ty := tyL tys_) (l := L_laws_toMember) ⟨⟨ok_laws_toObject, det_laws_toObject⟩, trivial⟩ Try.checked.mixed (fn := Try.f67) (body := Try.f67.body.getD .skip) Try.func67 rfl (by decide) (by kernel_rfl) rfl an_laws_toMember fun x ho hx => ?_
  obtain ⟨a, ⟨⟩⟩ := x
  refine Keeps.of (vc_laws_toMember a) ?_
  revert a ho hx
  show ∀ (a : Member), _
  intro a ho hx
  dsimp only [C_laws_toMember, okPTL, okPT, Ok, Ty.cells, SN.cells, OkL, OkC, okI, ci, cb, cs, cl] at ho
  dsimp only [C_laws_toMember, vc, v1, decB, SR.pre] at hx
  have f0 := szOb_nn a.what
  (try delta i64 LN); simp only [VBt]; (repeat' first | intro _ | apply And.intro); all_goals (try omega); all_goals (try grind [szIm, szMe, szHa, szPa, szSe, szSy, szOb, szMb])
def C_laws_szMember : Con := { ps := [.ro (.st .member), .ro .i], out := fun x => let a : Member := x.1; let left : Int := x.2.1; .req (0 ≤ left ∧ left ≤ 1048576) (vc .i (szR (szMb a) left)), det := true }
abbrev L_laws_szMember : List (Nat × Con) := [(90, C_laws_szObject)]
def G_laws_szMember : Cfg := mkG (tyL tys_) L_laws_szMember false
def an_laws_szMember : PTL C_laws_szMember.ps → Nat → Option Ann := fun _ _ => none
set_option maxRecDepth 200000 in
theorem vc_laws_szMember (a : Member) (left : Int) : (keeps Try.prog G_laws_szMember (an_laws_szMember (a, left, ())) (Try.f66.body.getD .skip) Try.f66.results.toList C_laws_szMember (a, left, ())) = ((((ByteArray.size (Member.name a)) ≤ 9223372036854775807) →
 ((i64 (left - (@Nat.cast Int _ (ByteArray.size (Member.name a))))) ∧
 ((((decide ((left - (@Nat.cast Int _ (ByteArray.size (Member.name a)))) < 0)) = true) →
 (((- (1 : Int)) = (szR (szMb a) left)) ∧
 True)) ∧
 (((decide ((left - (@Nat.cast Int _ (ByteArray.size (Member.name a)))) < 0)) = false) →
 (((0 ≤ (left - (@Nat.cast Int _ (ByteArray.size (Member.name a))))) ∧
 ((left - (@Nat.cast Int _ (ByteArray.size (Member.name a)))) ≤ 1048576)) ∧
 ((((decide ((szR (szOb (Member.what a)) (left - (@Nat.cast Int _ (ByteArray.size (Member.name a))))) < 0)) = true) →
 (((- (1 : Int)) = (szR (szMb a) left)) ∧
 True)) ∧
 (((decide ((szR (szOb (Member.what a)) (left - (@Nat.cast Int _ (ByteArray.size (Member.name a))))) < 0)) = false) →
 (((szR (szOb (Member.what a)) (left - (@Nat.cast Int _ (ByteArray.size (Member.name a))))) = (szR (szMb a) left)) ∧
 True))))))))) := by kernel_rfl
theorem det_laws_szMember : C_laws_szMember.det = true → ∀ x, (C_laws_szMember.out x).Det := fun _ x => by simp only [C_laws_szMember]; repeat (first | exact Det.ret _ | exact Det.vc' | apply Det.req)
set_option maxRecDepth 200000 in
set_option maxHeartbeats 4000000 in
theorem ok_laws_szMember : ConOK Try.prog 66 C_laws_szMember := by
  refine con_mk (wr := false) (ty := tyL tys_) (l := L_laws_szMember) ⟨⟨ok_laws_szObject, det_laws_szObject⟩, trivial⟩ Try.checked.mixed (fn := Try.f66) (body := Try.f66.body.getD .skip) Try.func66 rfl (by decide) (by kernel_rfl) rfl an_laws_szMember fun x ho hx => ?_
  obtain ⟨a, left, ⟨⟩⟩ := x
  refine Keeps.of (vc_laws_szMember a left) ?_
  revert a left ho hx
  show ∀ (a : Member) (left : Int), _
  intro a left ho hx
  dsimp only [C_laws_szMember, okPTL, okPT, Ok, Ty.cells, SN.cells, OkL, OkC, okI, ci, cb, cs, cl] at ho
  dsimp only [C_laws_szMember, vc, v1, decB, SR.pre] at hx
  have f0 := szOb_nn a.what
  (try delta i64 LN); simp only [VBt]; (repeat' first | intro _ | apply And.intro); all_goals (try omega); all_goals (try grind [szR, szIm, szMe, szHa, szPa, szSe, szSy, szOb, szMb])
def C_laws_eqMember : Con := { ps := [.ro (.st .member), .ro (.st .member)], out := fun x => let a : Member := x.1; let b : Member := x.2.1; vc .bool (decide (a = b)), det := true }
abbrev L_laws_eqMember : List (Nat × Con) := [(92, C_laws_eqObject)]
def G_laws_eqMember : Cfg := mkG (tyL tys_) L_laws_eqMember false
def an_laws_eqMember : PTL C_laws_eqMember.ps → Nat → Option Ann := fun _ _ => none
set_option maxRecDepth 200000 in
theorem vc_laws_eqMember (a : Member) (b : Member) : (keeps Try.prog G_laws_eqMember (an_laws_eqMember (a, b, ())) (Try.f68.body.getD .skip) Try.f68.results.toList C_laws_eqMember (a, b, ())) = (((((decide ((Member.name a) ≠ (Member.name b))) = true) →
 ((false = (decide (@Eq Member a b))) ∧
 True)) ∧
 (((decide ((Member.name a) ≠ (Member.name b))) = false) →
 ((((Bool.not (decide (@Eq Objt (Member.what a) (Member.what b)))) = true) →
 ((false = (decide (@Eq Member a b))) ∧
 True)) ∧
 (((Bool.not (decide (@Eq Objt (Member.what a) (Member.what b)))) = false) →
 ((true = (decide (@Eq Member a b))) ∧
 True)))))) := by kernel_rfl
theorem det_laws_eqMember : C_laws_eqMember.det = true → ∀ x, (C_laws_eqMember.out x).Det := fun _ _ => Det.vc'
set_option maxRecDepth 200000 in
set_option maxHeartbeats 4000000 in
theorem ok_laws_eqMember : ConOK Try.prog 68 C_laws_eqMember := by
  refine con_mk (wr := false) (ty := tyL tys_) (l := L_laws_eqMember) ⟨⟨ok_laws_eqObject, det_laws_eqObject⟩, trivial⟩ Try.checked.mixed (fn := Try.f68) (body := Try.f68.body.getD .skip) Try.func68 rfl (by decide) (by kernel_rfl) rfl an_laws_eqMember fun x ho hx => ?_
  obtain ⟨a, b, ⟨⟩⟩ := x
  refine Keeps.of (vc_laws_eqMember a b) ?_
  revert a b ho hx
  show ∀ (a : Member) (b : Member), _
  intro a b ho hx
  dsimp only [C_laws_eqMember, okPTL, okPT, Ok, Ty.cells, SN.cells, OkL, OkC, okI, ci, cb, cs, cl] at ho
  dsimp only [C_laws_eqMember, vc, v1, decB, SR.pre] at hx
  (try delta i64 LN); simp only [VBt]; (repeat' first | intro _ | apply And.intro); all_goals (try omega); all_goals (first | grind [cases Img] | (cases a; cases b; simp_all; done) | (obtain ⟨⟨_, _⟩, _⟩ := a; obtain ⟨⟨_, _⟩, _⟩ := b; simp_all; done) | (obtain ⟨_, _, _⟩ := a; obtain ⟨_, _, _⟩ := b; simp_all; done) | (obtain ⟨_, ⟨_, _⟩⟩ := a; obtain ⟨_, ⟨_, _⟩⟩ := b; simp_all; done) | skip)
def C_laws_toMemberS : Con := { ps := [.ro (.list (.st .member))], out := fun x => let a : List (Member) := x.1; .req ((a.length + sumI szMb a : Int) ≤ 1048576) (newL (.st .member) a), det := true }
abbrev L_laws_toMemberS : List (Nat × Con) := [(67, C_laws_toMember)]
def G_laws_toMemberS : Cfg := mkG (tyL tys_) L_laws_toMemberS false
def an_laws_toMemberS : PTL C_laws_toMemberS.ps → Nat → Option Ann := fun x kk_ => let a : List (Member) := x.1; if kk_ = 3 then some (.all (Int) fun i => .giv (0 ≤ i ∧ i ≤ a.length) (.mk [(4, ai i), (3, asl 20), (0, al (.st .member) a)] [(20, .row (some 31) (.st .member) (a.take i.toNat ++ List.replicate (a.length - i.toNat) (⟨⟨⟨[]⟩⟩, ⟨[], []⟩⟩ : Member)) true)] ((a.length - i.toNat)))) else none
set_option maxRecDepth 200000 in
theorem vc_laws_toMemberS (a : List (Member)) : (keeps Try.prog G_laws_toMemberS (an_laws_toMemberS (a, ())) (Try.f20.body.getD .skip) Try.f20.results.toList C_laws_toMemberS (a, ())) = ((((List.length a) ≤ 9223372036854775807) →
 ((((LN a) = (LN a)) ∧
 ((0 ≤ (LN a)) ∧
 (((LN a) ≤ 1000000000000) ∧
 (((@Nat.cast Int _ (64 : Nat)) * (LN a)) ≤ 140737488355328)))) ∧
 ((∃ (x_1 : Int), ((0 = x_1) ∧
 ((@Eq (List Member) a a) ∧
 ((@Eq (List Member) (@repl Member (LN a) (Member.mk (ByteArray.mk (@Array.mk UInt8 ([] : List UInt8))) (Objt.mk ([] : List Sect) ([] : List Sym)))) ((List.take (Int.toNat x_1) a) ++ (@List.replicate Member ((List.length a) - (Int.toNat x_1)) (Member.mk (ByteArray.mk (@Array.mk UInt8 ([] : List UInt8))) (Objt.mk ([] : List Sect) ([] : List Sym)))))) ∧
 (((0 ≤ x_1) ∧
 (x_1 ≤ (LN a))) ∧
 True))))) ∧
 (∀ (x_2 : Int), (((0 ≤ x_2) ∧
 (x_2 ≤ (LN a))) →
 (((List.length a) ≤ 9223372036854775807) →
 ((((decide (x_2 < (LN a))) = true) →
 (((0 ≤ x_2) ∧
 (x_2 < (LN a))) ∧
 (∀ (x_3 : Member), ((@Eq (Option Member) (a)[(Int.toNat x_2)]? (some x_3)) →
 ((Ok (Ty.st SN.member) x_3) →
 (((szMb x_3) ≤ 1048576) ∧
 (((0 ≤ x_2) ∧
 (x_2 < (LN ((List.take (Int.toNat x_2) a) ++ (@List.replicate Member ((List.length a) - (Int.toNat x_2)) (Member.mk (ByteArray.mk (@Array.mk UInt8 ([] : List UInt8))) (Objt.mk ([] : List Sect) ([] : List Sym)))))))) ∧
 (∀ (x_4 : Member), ((@Eq (Option Member) (((List.take (Int.toNat x_2) a) ++ (@List.replicate Member ((List.length a) - (Int.toNat x_2)) (Member.mk (ByteArray.mk (@Array.mk UInt8 ([] : List UInt8))) (Objt.mk ([] : List Sect) ([] : List Sym))))))[(Int.toNat x_2)]? (some x_4)) →
 ((i64 (x_2 + (1 : Int))) ∧
 (∃ (x_5 : Int), (((x_2 + (1 : Int)) = x_5) ∧
 ((@Eq (List Member) a a) ∧
 ((@Eq (List Member) (List.set ((List.take (Int.toNat x_2) a) ++ (@List.replicate Member ((List.length a) - (Int.toNat x_2)) (Member.mk (ByteArray.mk (@Array.mk UInt8 ([] : List UInt8))) (Objt.mk ([] : List Sect) ([] : List Sym))))) (Int.toNat x_2) x_3) ((List.take (Int.toNat x_5) a) ++ (@List.replicate Member ((List.length a) - (Int.toNat x_5)) (Member.mk (ByteArray.mk (@Array.mk UInt8 ([] : List UInt8))) (Objt.mk ([] : List Sect) ([] : List Sym)))))) ∧
 (((0 ≤ x_5) ∧
 (x_5 ≤ (LN a))) ∧
 (((List.length a) - (Int.toNat x_5)) < ((List.length a) - (Int.toNat x_2)))))))))))))))))) ∧
 (((decide (x_2 < (LN a))) = false) →
 ((@Eq (List Member) ((List.take (Int.toNat x_2) a) ++ (@List.replicate Member ((List.length a) - (Int.toNat x_2)) (Member.mk (ByteArray.mk (@Array.mk UInt8 ([] : List UInt8))) (Objt.mk ([] : List Sect) ([] : List Sym))))) a) ∧
 True)))))))))) := by kernel_rfl
theorem det_laws_toMemberS : C_laws_toMemberS.det = true → ∀ x, (C_laws_toMemberS.out x).Det := fun _ x => by simp only [C_laws_toMemberS]; repeat (first | exact Det.ret _ | exact Det.vc' | apply Det.req)
set_option maxRecDepth 200000 in
set_option maxHeartbeats 4000000 in
theorem ok_laws_toMemberS : ConOK Try.prog 20 C_laws_toMemberS := by
  refine con_mk (wr := false) (ty := tyL tys_) (l := L_laws_toMemberS) ⟨⟨ok_laws_toMember, det_laws_toMember⟩, trivial⟩ Try.checked.mixed (fn := Try.f20) (body := Try.f20.body.getD .skip) Try.func20 rfl (by decide) (by kernel_rfl) rfl an_laws_toMemberS fun x ho hx => ?_
  obtain ⟨a, ⟨⟩⟩ := x
  refine Keeps.of (vc_laws_toMemberS a) ?_
  revert a ho hx
  show ∀ (a : List (Member)), _
  intro a ho hx
  dsimp only [C_laws_toMemberS, okPTL, okPT, Ok, Ty.cells, SN.cells, OkL, OkC, okI, ci, cb, cs, cl] at ho
  dsimp only [C_laws_toMemberS, vc, v1, decB, SR.pre] at hx
  have cs := sumI_nn (f := szMb) szMb_nn a
  have ca := fun k x => sumI_at (f := szMb) szMb_nn (l := a) (k := k) (x := x)
  (try delta i64 LN); simp only [VBt]; (repeat' first | intro _ | apply And.intro); all_goals (try omega); all_goals first | exact repl_fill | exact set_fill' ‹_› (by omega) | exact fill_full' (by omega) | (simp only [List.length_take, List.length_replicate, mkd_len, List.length_set, List.length_append]; omega) | (try grind [sumI_at, szPa, szSe, szOb, szSy, szMb])
def C_laws_szMemberS : Con := { ps := [.ro (.list (.st .member)), .ro .i], out := fun x => let a : List (Member) := x.1; let left : Int := x.2.1; .req (0 ≤ left ∧ left ≤ 1048576) (vc .i (szR (a.length + sumI szMb a : Int) left)), det := true }
abbrev L_laws_szMemberS : List (Nat × Con) := [(66, C_laws_szMember)]
def G_laws_szMemberS : Cfg := mkG (tyL tys_) L_laws_szMemberS false
def an_laws_szMemberS : PTL C_laws_szMemberS.ps → Nat → Option Ann := fun x kk_ => let a : List (Member) := x.1; let left : Int := x.2.1; if kk_ = 5 then some (.all (Int) fun i => .all (Int) fun m => .giv (0 ≤ i ∧ i ≤ a.length ∧ 0 ≤ m ∧ m ≤ left ∧ szR (a.length + sumI szMb a : Int) left = szR (sumI szMb (a.drop i.toNat)) m) (.mk [(5, ai i), (1, ai m), (0, al (.st .member) a)] [] ((a.length - i.toNat)))) else none
set_option maxRecDepth 200000 in
theorem vc_laws_szMemberS (a : List (Member)) (left : Int) : (keeps Try.prog G_laws_szMemberS (an_laws_szMemberS (a, left, ())) (Try.f19.body.getD .skip) Try.f19.results.toList C_laws_szMemberS (a, left, ())) = ((((List.length a) ≤ 9223372036854775807) →
 ((i64 (left - (LN a))) ∧
 ((((decide ((left - (LN a)) < 0)) = true) →
 (((- (1 : Int)) = (szR ((LN a) + (@sumI Member szMb a)) left)) ∧
 True)) ∧
 (((decide ((left - (LN a)) < 0)) = false) →
 ((∃ (x_1 : Int), (∃ (x_2 : Int), ((0 = x_1) ∧
 (((left - (LN a)) = x_2) ∧
 ((@Eq (List Member) a a) ∧
 (((0 ≤ x_1) ∧
 ((x_1 ≤ (LN a)) ∧
 ((0 ≤ x_2) ∧
 ((x_2 ≤ left) ∧
 ((szR ((LN a) + (@sumI Member szMb a)) left) = (szR (@sumI Member szMb (List.drop (Int.toNat x_1) a)) x_2)))))) ∧
 True)))))) ∧
 (∀ (x_3 : Int), (∀ (x_4 : Int), (((0 ≤ x_3) ∧
 ((x_3 ≤ (LN a)) ∧
 ((0 ≤ x_4) ∧
 ((x_4 ≤ left) ∧
 ((szR ((LN a) + (@sumI Member szMb a)) left) = (szR (@sumI Member szMb (List.drop (Int.toNat x_3) a)) x_4)))))) →
 (((List.length a) ≤ 9223372036854775807) →
 ((((decide (x_3 < (LN a))) = true) →
 (((0 ≤ x_3) ∧
 (x_3 < (LN a))) ∧
 (∀ (x_5 : Member), ((@Eq (Option Member) (a)[(Int.toNat x_3)]? (some x_5)) →
 ((Ok (Ty.st SN.member) x_5) →
 (((0 ≤ x_4) ∧
 (x_4 ≤ (1048576 : Int))) ∧
 ((((decide ((szR (szMb x_5) x_4) < 0)) = true) →
 (((- (1 : Int)) = (szR ((LN a) + (@sumI Member szMb a)) left)) ∧
 True)) ∧
 (((decide ((szR (szMb x_5) x_4) < 0)) = false) →
 ((i64 (x_3 + (1 : Int))) ∧
 (∃ (x_6 : Int), (∃ (x_7 : Int), (((x_3 + (1 : Int)) = x_6) ∧
 (((szR (szMb x_5) x_4) = x_7) ∧
 ((@Eq (List Member) a a) ∧
 (((0 ≤ x_6) ∧
 ((x_6 ≤ (LN a)) ∧
 ((0 ≤ x_7) ∧
 ((x_7 ≤ left) ∧
 ((szR ((LN a) + (@sumI Member szMb a)) left) = (szR (@sumI Member szMb (List.drop (Int.toNat x_6) a)) x_7)))))) ∧
 (((List.length a) - (Int.toNat x_6)) < ((List.length a) - (Int.toNat x_3)))))))))))))))))) ∧
 (((decide (x_3 < (LN a))) = false) →
 ((x_4 = (szR ((LN a) + (@sumI Member szMb a)) left)) ∧
 True))))))))))))) := by kernel_rfl
theorem det_laws_szMemberS : C_laws_szMemberS.det = true → ∀ x, (C_laws_szMemberS.out x).Det := fun _ x => by simp only [C_laws_szMemberS]; repeat (first | exact Det.ret _ | exact Det.vc' | apply Det.req)
set_option maxRecDepth 200000 in
set_option maxHeartbeats 4000000 in
theorem ok_laws_szMemberS : ConOK Try.prog 19 C_laws_szMemberS := by
  refine con_mk (wr := false) (ty := tyL tys_) (l := L_laws_szMemberS) ⟨⟨ok_laws_szMember, det_laws_szMember⟩, trivial⟩ Try.checked.mixed (fn := Try.f19) (body := Try.f19.body.getD .skip) Try.func19 rfl (by decide) (by kernel_rfl) rfl an_laws_szMemberS fun x ho hx => ?_
  obtain ⟨a, left, ⟨⟩⟩ := x
  refine Keeps.of (vc_laws_szMemberS a left) ?_
  revert a left ho hx
  show ∀ (a : List (Member)) (left : Int), _
  intro a left ho hx
  dsimp only [C_laws_szMemberS, okPTL, okPT, Ok, Ty.cells, SN.cells, OkL, OkC, okI, ci, cb, cs, cl] at ho
  dsimp only [C_laws_szMemberS, vc, v1, decB, SR.pre] at hx
  have cs := sumI_nn (f := szMb) szMb_nn
  (try delta i64 LN); simp only [VBt]; (repeat' first | intro _ | apply And.intro); all_goals (try omega); all_goals first | (unfold szR; split <;> omega) | exact szR_le2 (by first | exact szSe_nn _ | exact szSy_nn _ | exact szOb_nn _ | exact szMb_nn _) ‹_› ‹_› | (try grind [szR, sumI_drop, drop_end, sumI])
def C_laws_eqMemberS : Con := { ps := [.ro (.list (.st .member)), .ro (.list (.st .member))], out := fun x => let a : List (Member) := x.1; let b : List (Member) := x.2.1; vc .bool (decide (a = b)), det := true }
abbrev L_laws_eqMemberS : List (Nat × Con) := [(68, C_laws_eqMember)]
def G_laws_eqMemberS : Cfg := mkG (tyL tys_) L_laws_eqMemberS false
def an_laws_eqMemberS : PTL C_laws_eqMemberS.ps → Nat → Option Ann := fun x kk_ => let a : List (Member) := x.1; let b : List (Member) := x.2.1; if kk_ = 4 then some (.all (Int) fun i => .giv (0 ≤ i ∧ i ≤ a.length ∧ a.length = b.length ∧ a.take i.toNat = b.take i.toNat) (.mk [(5, ai i), (0, al (.st .member) a), (1, al (.st .member) b)] [] ((a.length - i.toNat)))) else none
set_option maxRecDepth 200000 in
theorem vc_laws_eqMemberS (a : List (Member)) (b : List (Member)) : (keeps Try.prog G_laws_eqMemberS (an_laws_eqMemberS (a, b, ())) (Try.f21.body.getD .skip) Try.f21.results.toList C_laws_eqMemberS (a, b, ())) = ((((List.length a) ≤ 9223372036854775807) →
 (((List.length b) ≤ 9223372036854775807) →
 ((((decide ((LN a) ≠ (LN b))) = true) →
 ((false = (decide (@Eq (List Member) a b))) ∧
 True)) ∧
 (((decide ((LN a) ≠ (LN b))) = false) →
 ((∃ (x_1 : Int), ((0 = x_1) ∧
 ((@Eq (List Member) a a) ∧
 ((@Eq (List Member) b b) ∧
 (((0 ≤ x_1) ∧
 ((x_1 ≤ (LN a)) ∧
 (((List.length a) = (List.length b)) ∧
 (@Eq (List Member) (List.take (Int.toNat x_1) a) (List.take (Int.toNat x_1) b))))) ∧
 True))))) ∧
 (∀ (x_2 : Int), (((0 ≤ x_2) ∧
 ((x_2 ≤ (LN a)) ∧
 (((List.length a) = (List.length b)) ∧
 (@Eq (List Member) (List.take (Int.toNat x_2) a) (List.take (Int.toNat x_2) b))))) →
 (((List.length a) ≤ 9223372036854775807) →
 ((((decide (x_2 < (LN a))) = true) →
 (((0 ≤ x_2) ∧
 (x_2 < (LN a))) ∧
 (∀ (x_3 : Member), ((@Eq (Option Member) (a)[(Int.toNat x_2)]? (some x_3)) →
 ((Ok (Ty.st SN.member) x_3) →
 (((0 ≤ x_2) ∧
 (x_2 < (LN b))) ∧
 (∀ (x_4 : Member), ((@Eq (Option Member) (b)[(Int.toNat x_2)]? (some x_4)) →
 ((Ok (Ty.st SN.member) x_4) →
 ((((Bool.not (decide (@Eq Member x_3 x_4))) = true) →
 ((false = (decide (@Eq (List Member) a b))) ∧
 True)) ∧
 (((Bool.not (decide (@Eq Member x_3 x_4))) = false) →
 ((i64 (x_2 + (1 : Int))) ∧
 (∃ (x_5 : Int), (((x_2 + (1 : Int)) = x_5) ∧
 ((@Eq (List Member) a a) ∧
 ((@Eq (List Member) b b) ∧
 (((0 ≤ x_5) ∧
 ((x_5 ≤ (LN a)) ∧
 (((List.length a) = (List.length b)) ∧
 (@Eq (List Member) (List.take (Int.toNat x_5) a) (List.take (Int.toNat x_5) b))))) ∧
 (((List.length a) - (Int.toNat x_5)) < ((List.length a) - (Int.toNat x_2)))))))))))))))))))) ∧
 (((decide (x_2 < (LN a))) = false) →
 ((true = (decide (@Eq (List Member) a b))) ∧
 True)))))))))))) := by kernel_rfl
theorem det_laws_eqMemberS : C_laws_eqMemberS.det = true → ∀ x, (C_laws_eqMemberS.out x).Det := fun _ _ => Det.vc'
set_option maxRecDepth 200000 in
set_option maxHeartbeats 4000000 in
theorem ok_laws_eqMemberS : ConOK Try.prog 21 C_laws_eqMemberS := by
  refine con_mk (wr := false) (ty := tyL tys_) (l := L_laws_eqMemberS) ⟨⟨ok_laws_eqMember, det_laws_eqMember⟩, trivial⟩ Try.checked.mixed (fn := Try.f21) (body := Try.f21.body.getD .skip) Try.func21 rfl (by decide) (by kernel_rfl) rfl an_laws_eqMemberS fun x ho hx => ?_
  obtain ⟨a, b, ⟨⟩⟩ := x
  refine Keeps.of (vc_laws_eqMemberS a b) ?_
  revert a b ho hx
  show ∀ (a : List (Member)) (b : List (Member)), _
  intro a b ho hx
  dsimp only [C_laws_eqMemberS, okPTL, okPT, Ok, Ty.cells, SN.cells, OkL, OkC, okI, ci, cb, cs, cl] at ho
  dsimp only [C_laws_eqMemberS, vc, v1, decB, SR.pre] at hx
  (try delta i64 LN); simp only [VBt]; (repeat' first | intro _ | apply And.intro); all_goals (try omega); all_goals first | grind [take_all', take_next, take_diff] | exact take_next2 (by omega) (by assumption) (by assumption) (by assumption) (by assumption) | exact take_diff2 (by assumption) (by assumption) (by assumption)
def C_laws_eqIntSS : Con := { ps := [.ro (.list (.list .i)), .ro (.list (.list .i))], out := fun x => let a : List (List (Int)) := x.1; let b : List (List (Int)) := x.2.1; vc .bool (decide (a = b)), det := true }
abbrev L_laws_eqIntSS : List (Nat × Con) := [(52, C_laws_eqIntS)]
def G_laws_eqIntSS : Cfg := mkG (tyL tys_) L_laws_eqIntSS false
def an_laws_eqIntSS : PTL C_laws_eqIntSS.ps → Nat → Option Ann := fun x kk_ => let a : List (List (Int)) := x.1; let b : List (List (Int)) := x.2.1; if kk_ = 4 then some (.all (Int) fun i => .giv (0 ≤ i ∧ i ≤ a.length ∧ a.length = b.length ∧ a.take i.toNat = b.take i.toNat) (.mk [(5, ai i), (0, al (.list .i) a), (1, al (.list .i) b)] [] ((a.length - i.toNat)))) else none
set_option maxRecDepth 200000 in
theorem vc_laws_eqIntSS (a : List (List (Int))) (b : List (List (Int))) : (keeps Try.prog G_laws_eqIntSS (an_laws_eqIntSS (a, b, ())) (Try.f43.body.getD .skip) Try.f43.results.toList C_laws_eqIntSS (a, b, ())) = ((((List.length a) ≤ 9223372036854775807) →
 (((List.length b) ≤ 9223372036854775807) →
 ((((decide ((LN a) ≠ (LN b))) = true) →
 ((false = (decide (@Eq (List (List Int)) a b))) ∧
 True)) ∧
 (((decide ((LN a) ≠ (LN b))) = false) →
 ((∃ (x_1 : Int), ((0 = x_1) ∧
 ((@Eq (List (List Int)) a a) ∧
 ((@Eq (List (List Int)) b b) ∧
 (((0 ≤ x_1) ∧
 ((x_1 ≤ (LN a)) ∧
 (((List.length a) = (List.length b)) ∧
 (@Eq (List (List Int)) (List.take (Int.toNat x_1) a) (List.take (Int.toNat x_1) b))))) ∧
 True))))) ∧
 (∀ (x_2 : Int), (((0 ≤ x_2) ∧
 ((x_2 ≤ (LN a)) ∧
 (((List.length a) = (List.length b)) ∧
 (@Eq (List (List Int)) (List.take (Int.toNat x_2) a) (List.take (Int.toNat x_2) b))))) →
 (((List.length a) ≤ 9223372036854775807) →
 ((((decide (x_2 < (LN a))) = true) →
 (((0 ≤ x_2) ∧
 (x_2 < (LN a))) ∧
 (∀ (x_3 : (List Int)), ((@Eq (Option (List Int)) (a)[(Int.toNat x_2)]? (some x_3)) →
 ((Ok (Ty.list (Ty.int IntKind.i64)) x_3) →
 (((0 ≤ x_2) ∧
 (x_2 < (LN b))) ∧
 (∀ (x_4 : (List Int)), ((@Eq (Option (List Int)) (b)[(Int.toNat x_2)]? (some x_4)) →
 ((Ok (Ty.list (Ty.int IntKind.i64)) x_4) →
 ((((Bool.not (decide (@Eq (List Int) x_3 x_4))) = true) →
 ((false = (decide (@Eq (List (List Int)) a b))) ∧
 True)) ∧
 (((Bool.not (decide (@Eq (List Int) x_3 x_4))) = false) →
 ((i64 (x_2 + (1 : Int))) ∧
 (∃ (x_5 : Int), (((x_2 + (1 : Int)) = x_5) ∧
 ((@Eq (List (List Int)) a a) ∧
 ((@Eq (List (List Int)) b b) ∧
 (((0 ≤ x_5) ∧
 ((x_5 ≤ (LN a)) ∧
 (((List.length a) = (List.length b)) ∧
 (@Eq (List (List Int)) (List.take (Int.toNat x_5) a) (List.take (Int.toNat x_5) b))))) ∧
 (((List.length a) - (Int.toNat x_5)) < ((List.length a) - (Int.toNat x_2)))))))))))))))))))) ∧
 (((decide (x_2 < (LN a))) = false) →
 ((true = (decide (@Eq (List (List Int)) a b))) ∧
 True)))))))))))) := by kernel_rfl
theorem det_laws_eqIntSS : C_laws_eqIntSS.det = true → ∀ x, (C_laws_eqIntSS.out x).Det := fun _ _ => Det.vc'
set_option maxRecDepth 200000 in
set_option maxHeartbeats 4000000 in
theorem ok_laws_eqIntSS : ConOK Try.prog 43 C_laws_eqIntSS := by
  refine con_mk (wr := false) (ty := tyL tys_) (l := L_laws_eqIntSS) ⟨⟨ok_laws_eqIntS, det_laws_eqIntS⟩, trivial⟩ Try.checked.mixed (fn := Try.f43) (body := Try.f43.body.getD .skip) Try.func43 rfl (by decide) (by kernel_rfl) rfl an_laws_eqIntSS fun x ho hx => ?_
  obtain ⟨a, b, ⟨⟩⟩ := x
  refine Keeps.of (vc_laws_eqIntSS a b) ?_
  revert a b ho hx
  show ∀ (a : List (List (Int))) (b : List (List (Int))), _
  intro a b ho hx
  dsimp only [C_laws_eqIntSS, okPTL, okPT, Ok, Ty.cells, SN.cells, OkL, OkC, okI, ci, cb, cs, cl] at ho
  dsimp only [C_laws_eqIntSS, vc, v1, decB, SR.pre] at hx
  (try delta i64 LN); simp only [VBt]; (repeat' first | intro _ | apply And.intro); all_goals (try omega); all_goals first | grind [take_all', take_next, take_diff] | exact take_next2 (by omega) (by assumption) (by assumption) (by assumption) (by assumption) | exact take_diff2 (by assumption) (by assumption) (by assumption)
def C_laws_markIntSS : Con := { ps := [.row none (.list .i), .ro .i], out := fun x => let a : List (List (Int)) := x.1; let k : Int := x.2.1; .req (0 ≤ k ∧ k + sumI cIL a ≤ 1000000000000) (turnL (.list .i) (mkL mkIL cIL a k) (k + sumI cIL a)), det := true }
abbrev L_laws_markIntSS : List (Nat × Con) := [(55, C_laws_markIntS)]
def G_laws_markIntSS : Cfg := mkG (tyL tys_) L_laws_markIntSS false
def an_laws_markIntSS : PTL C_laws_markIntSS.ps → Nat → Option Ann := fun x kk_ => let a : List (List (Int)) := x.1; let k : Int := x.2.1; if kk_ = 2 then some (.all (Int) fun i => .giv (0 ≤ i ∧ i ≤ a.length) (.mk [(5, ai i), (1, ai (k + sumI cIL (a.take i.toNat))), (0, asl 0)] [(0, .row none (.list .i) (mkd mkIL cIL a k i.toNat) true)] ((a.length - i.toNat)))) else none
set_option maxRecDepth 200000 in
theorem vc_laws_markIntSS (a : List (List (Int))) (k : Int) : (keeps Try.prog G_laws_markIntSS (an_laws_markIntSS (a, k, ())) (Try.f45.body.getD .skip) Try.f45.results.toList C_laws_markIntSS (a, k, ())) = (((∃ (x_1 : Int), ((0 = x_1) ∧
 ((k = (k + (@sumI (List Int) cIL (List.take (Int.toNat x_1) a)))) ∧
 ((@Eq (List (List Int)) a (@mkd (List Int) mkIL cIL a k (Int.toNat x_1))) ∧
 (((0 ≤ x_1) ∧
 (x_1 ≤ (LN a))) ∧
 True))))) ∧
 (∀ (x_2 : Int), (((0 ≤ x_2) ∧
 (x_2 ≤ (LN a))) →
 (((List.length (@mkd (List Int) mkIL cIL a k (Int.toNat x_2))) ≤ 9223372036854775807) →
 ((((decide (x_2 < (LN (@mkd (List Int) mkIL cIL a k (Int.toNat x_2))))) = true) →
 (((0 ≤ x_2) ∧
 (x_2 < (LN (@mkd (List Int) mkIL cIL a k (Int.toNat x_2))))) ∧
 (∀ (x_3 : (List Int)), ((@Eq (Option (List Int)) ((@mkd (List Int) mkIL cIL a k (Int.toNat x_2)))[(Int.toNat x_2)]? (some x_3)) →
 ((Ok (Ty.list (Ty.int IntKind.i64)) x_3) →
 (∀ (x_4 : (List Int)), ((@Eq (Option (List Int)) ((@mkd (List Int) mkIL cIL a k (Int.toNat x_2)))[(Int.toNat x_2)]? (some x_4)) →
 (((0 ≤ (k + (@sumI (List Int) cIL (List.take (Int.toNat x_2) a)))) ∧
 (((k + (@sumI (List Int) cIL (List.take (Int.toNat x_2) a))) + (@sumI Int (@cOne Int) x_4)) ≤ 1000000000000)) ∧
 ((i64 (x_2 + (1 : Int))) ∧
 (∃ (x_5 : Int), (((x_2 + (1 : Int)) = x_5) ∧
 ((((k + (@sumI (List Int) cIL (List.take (Int.toNat x_2) a))) + (@sumI Int (@cOne Int) x_4)) = (k + (@sumI (List Int) cIL (List.take (Int.toNat x_5) a)))) ∧
 ((@Eq (List (List Int)) (List.set (@mkd (List Int) mkIL cIL a k (Int.toNat x_2)) (Int.toNat x_2) (@mkL Int mkI (@cOne Int) x_4 (k + (@sumI (List Int) cIL (List.take (Int.toNat x_2) a))))) (@mkd (List Int) mkIL cIL a k (Int.toNat x_5))) ∧
 (((0 ≤ x_5) ∧
 (x_5 ≤ (LN a))) ∧
 (((List.length a) - (Int.toNat x_5)) < ((List.length a) - (Int.toNat x_2))))))))))))))))) ∧
 (((decide (x_2 < (LN (@mkd (List Int) mkIL cIL a k (Int.toNat x_2))))) = false) →
 (((k + (@sumI (List Int) cIL (List.take (Int.toNat x_2) a))) = (k + (@sumI (List Int) cIL a))) ∧
 ((@Eq (List (List Int)) (@mkd (List Int) mkIL cIL a k (Int.toNat x_2)) (@mkL (List Int) mkIL cIL a k)) ∧
 True))))))))) := by kernel_rfl
theorem det_laws_markIntSS : C_laws_markIntSS.det = true → ∀ x, (C_laws_markIntSS.out x).Det := fun _ x => by simp only [C_laws_markIntSS]; repeat (first | exact Det.ret _ | exact Det.vc' | apply Det.req)
set_option maxRecDepth 200000 in
set_option maxHeartbeats 4000000 in
theorem ok_laws_markIntSS : ConOK Try.prog 45 C_laws_markIntSS := by
  refine con_mk (wr := false) (ty := tyL tys_) (l := L_laws_markIntSS) ⟨⟨ok_laws_markIntS, det_laws_markIntS⟩, trivial⟩ Try.checked.mixed (fn := Try.f45) (body := Try.f45.body.getD .skip) Try.func45 rfl (by decide) (by kernel_rfl) rfl an_laws_markIntSS fun x ho hx => ?_
  obtain ⟨a, k, ⟨⟩⟩ := x
  refine Keeps.of (vc_laws_markIntSS a k) ?_
  revert a k ho hx
  show ∀ (a : List (List (Int))) (k : Int), _
  intro a k ho hx
  dsimp only [C_laws_markIntSS, okPTL, okPT, Ok, Ty.cells, SN.cells, OkL, OkC, okI, ci, cb, cs, cl] at ho
  dsimp only [C_laws_markIntSS, vc, v1, decB, SR.pre] at hx
  have cn : ∀ x : List Int, 0 ≤ cIL x := cIL_nn
  have cl := sumI_le cn a
  have cs := sumI_nn cn
  (try delta i64 LN); simp only [VBt]; (repeat' first | intro _ | apply And.intro); all_goals (try omega); all_goals first | (simp only [List.length_take, List.length_replicate, mkd_len, List.length_set, List.length_append]; omega) | exact mkd_full' (by omega) | exact (mkd_zero _ _).symm | exact mkd_set' (by assumption) (by omega) (by subst_vars; simp [mkRg, mkFx, mkSy, mkPa, mkSe, mkMb, mkOb, mkIL, Int.add_assoc]) | (try grind [mkd_len, mkd_get, mkd_zero, sumI_next, sumI_all, cOne, c4, cPa, cSe, cOb, cMb, cIL, sumI])
def C_laws_heldIntSS : Con := { ps := [.ro (.list (.list .i)), .ro .i], out := fun x => let a : List (List (Int)) := x.1; let k : Int := x.2.1; .req (0 ≤ k ∧ k + sumI cIL a ≤ 1000000000000) (vc .i (hdL hIL a k)), det := true }
abbrev L_laws_heldIntSS : List (Nat × Con) := [(56, C_laws_heldIntS)]
def G_laws_heldIntSS : Cfg := mkG (tyL tys_) L_laws_heldIntSS false
def an_laws_heldIntSS : PTL C_laws_heldIntSS.ps → Nat → Option Ann := fun x kk_ => let a : List (List (Int)) := x.1; let k : Int := x.2.1; if kk_ = 2 then some (.all (Int) fun i => .all (Int) fun m => .giv (0 ≤ i ∧ i ≤ a.length ∧ 0 ≤ m ∧ m + sumI cIL (a.drop i.toNat) ≤ 1000000000000 ∧ hdL hIL a k = hdL hIL (a.drop i.toNat) m) (.mk [(5, ai i), (1, ai m), (0, al (.list .i) a)] [] ((a.length - i.toNat)))) else none
set_option maxRecDepth 200000 in
theorem vc_laws_heldIntSS (a : List (List (Int))) (k : Int) : (keeps Try.prog G_laws_heldIntSS (an_laws_heldIntSS (a, k, ())) (Try.f46.body.getD .skip) Try.f46.results.toList C_laws_heldIntSS (a, k, ())) = (((∃ (x_1 : Int), (∃ (x_2 : Int), ((0 = x_1) ∧
 ((k = x_2) ∧
 ((@Eq (List (List Int)) a a) ∧
 (((0 ≤ x_1) ∧
 ((x_1 ≤ (LN a)) ∧
 ((0 ≤ x_2) ∧
 (((x_2 + (@sumI (List Int) cIL (List.drop (Int.toNat x_1) a))) ≤ 1000000000000) ∧
 ((@hdL (List Int) hIL a k) = (@hdL (List Int) hIL (List.drop (Int.toNat x_1) a) x_2)))))) ∧
 True)))))) ∧
 (∀ (x_3 : Int), (∀ (x_4 : Int), (((0 ≤ x_3) ∧
 ((x_3 ≤ (LN a)) ∧
 ((0 ≤ x_4) ∧
 (((x_4 + (@sumI (List Int) cIL (List.drop (Int.toNat x_3) a))) ≤ 1000000000000) ∧
 ((@hdL (List Int) hIL a k) = (@hdL (List Int) hIL (List.drop (Int.toNat x_3) a) x_4)))))) →
 (((List.length a) ≤ 9223372036854775807) →
 ((((decide (x_3 < (LN a))) = true) →
 (((0 ≤ x_3) ∧
 (x_3 < (LN a))) ∧
 (∀ (x_5 : (List Int)), ((@Eq (Option (List Int)) (a)[(Int.toNat x_3)]? (some x_5)) →
 ((Ok (Ty.list (Ty.int IntKind.i64)) x_5) →
 (((0 ≤ x_4) ∧
 ((x_4 + (@sumI Int (@cOne Int) x_5)) ≤ 1000000000000)) ∧
 ((((decide ((@hdL Int hI x_5 x_4) < 0)) = true) →
 (((- (1 : Int)) = (@hdL (List Int) hIL a k)) ∧
 True)) ∧
 (((decide ((@hdL Int hI x_5 x_4) < 0)) = false) →
 ((i64 (x_3 + (1 : Int))) ∧
 (∃ (x_6 : Int), (∃ (x_7 : Int), (((x_3 + (1 : Int)) = x_6) ∧
 (((@hdL Int hI x_5 x_4) = x_7) ∧
 ((@Eq (List (List Int)) a a) ∧
 (((0 ≤ x_6) ∧
 ((x_6 ≤ (LN a)) ∧
 ((0 ≤ x_7) ∧
 (((x_7 + (@sumI (List Int) cIL (List.drop (Int.toNat x_6) a))) ≤ 1000000000000) ∧
 ((@hdL (List Int) hIL a k) = (@hdL (List Int) hIL (List.drop (Int.toNat x_6) a) x_7)))))) ∧
 (((List.length a) - (Int.toNat x_6)) < ((List.length a) - (Int.toNat x_3)))))))))))))))))) ∧
 (((decide (x_3 < (LN a))) = false) →
 ((x_4 = (@hdL (List Int) hIL a k)) ∧
 True))))))))) := by kernel_rfl
theorem det_laws_heldIntSS : C_laws_heldIntSS.det = true → ∀ x, (C_laws_heldIntSS.out x).Det := fun _ x => by simp only [C_laws_heldIntSS]; repeat (first | exact Det.ret _ | exact Det.vc' | apply Det.req)
set_option maxRecDepth 200000 in
set_option maxHeartbeats 4000000 in
theorem ok_laws_heldIntSS : ConOK Try.prog 46 C_laws_heldIntSS := by
  refine con_mk (wr := false) (ty := tyL tys_) (l := L_laws_heldIntSS) ⟨⟨ok_laws_heldIntS, det_laws_heldIntS⟩, trivial⟩ Try.checked.mixed (fn := Try.f46) (body := Try.f46.body.getD .skip) Try.func46 rfl (by decide) (by kernel_rfl) rfl an_laws_heldIntSS fun x ho hx => ?_
  obtain ⟨a, k, ⟨⟩⟩ := x
  refine Keeps.of (vc_laws_heldIntSS a k) ?_
  revert a k ho hx
  show ∀ (a : List (List (Int))) (k : Int), _
  intro a k ho hx
  dsimp only [C_laws_heldIntSS, okPTL, okPT, Ok, Ty.cells, SN.cells, OkL, OkC, okI, ci, cb, cs, cl] at ho
  dsimp only [C_laws_heldIntSS, vc, v1, decB, SR.pre] at hx
  have cn : ∀ x : List Int, 0 ≤ cIL x := cIL_nn
  have cs := sumI_nn cn
  have hu := hdI_or; have hg := cOne_ge (α := Int)
  (try delta i64 LN); simp +contextual only [VBt]; (repeat' first | intro _ | apply And.intro); all_goals (try omega); all_goals first | (simp only [List.length_take, List.length_replicate, mkd_len, List.length_set, List.length_append]; omega) | (try grind [hdL_drop, sumI_drop, drop_end, hdL, sumI, cOne, c4, cPa, cSe, cOb, cMb, cIL, hRg, hFx, hSy, hPa, hSe, hOb, hMb, hIL])
end Go.Proofs.Ytignicccfjdiiaa
