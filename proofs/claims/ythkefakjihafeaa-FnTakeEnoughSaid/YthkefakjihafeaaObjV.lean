/- What is valid: sections, symbols, objects; both packages keep the same contracts. -/
import Derived.Test.YthkefakjihafeaaNamV
import Derived.Test.YthkefakjihafeaaFixD
set_option linter.unusedVariables false
set_option linter.unusedSimpArgs false
namespace Go.Proofs.Ythkefakjihafeaa
open Go Go.RowKit


theorem len0 {α : Type} {l : List α} : ((l.length : Int) = 0) ↔ (l = []) := by cases l <;> simp; omega
theorem secB_blank {q : Sect} {m : Int} (h : q.kind = 3) (h1 : nameB q.name = true) (h2 : q.align = 1 ∨ q.align = 2 ∨ q.align = 4 ∨ q.align = 8) (h3 : 0 ≤ q.size) (h4 : q.size ≤ 48) (h5 : (q.bytes.length : Int) = 0) : decide ((q.fixups.length : Int) = 0) = secB q m := by
  rw [len0] at h5
  have e : decide ((q.fixups.length : Int) = 0) = decide (q.fixups = []) := decide_eq_decide.2 len0
  rw [e]
  unfold secB
  simp [h, h1, h2, h3, h4, h5]
theorem fixB_end {m b e : Int} : fixB m b e [] = true := rfl
def C_impl_SectionSize : Con := { ps := [.ro (.st .sect)], out := fun x => let q : Sect := x.1; vc .i (secSize q), det := true }
abbrev L_impl_SectionSize : List (Nat × Con) := []
def G_impl_SectionSize : Cfg := mkG (tyL tys_) L_impl_SectionSize false
def an_impl_SectionSize : PTL C_impl_SectionSize.ps → Nat → Option Ann := fun _ _ => none
set_option maxRecDepth 200000 in
theorem vc_impl_SectionSize (q : Sect) : (keeps Try.prog G_impl_SectionSize (an_impl_SectionSize (q, ())) (Try.f99.body.getD .skip) Try.f99.results.toList C_impl_SectionSize (q, ())) = (((((decide ((Sect.kind q) = 3)) = true) →
 (((Sect.size q) = (secSize q)) ∧
 True)) ∧
 (((decide ((Sect.kind q) = 3)) = false) →
 (((List.length (Sect.bytes q)) ≤ 9223372036854775807) →
 (((LN (Sect.bytes q)) = (secSize q)) ∧
 True))))) := by kernel_rfl
theorem det_impl_SectionSize : C_impl_SectionSize.det = true → ∀ x, (C_impl_SectionSize.out x).Det := fun _ _ => Det.vc'
set_option maxRecDepth 200000 in
set_option maxHeartbeats 4000000 in
theorem ok_impl_SectionSize : ConOK Try.prog 99 C_impl_SectionSize := by
  refine con_mk (wr := false) (ty := tyL tys_) (l := L_impl_SectionSize) trivial Try.checked.mixed (fn := Try.f99) (body := Try.f99.body.getD .skip) Try.func99 rfl (by decide) (by kernel_rfl) rfl an_impl_SectionSize fun x ho hx => ?_
  obtain ⟨q, ⟨⟩⟩ := x
  refine Keeps.of (vc_impl_SectionSize q) ?_
  revert q ho hx
  show ∀ (q : Sect), _
  intro q ho hx
  dsimp only [C_impl_SectionSize, okPTL, okPT, Ok, Ty.cells, SN.cells, OkL, OkC, okI, ci, cb, cs, cl] at ho
  dsimp only [C_impl_SectionSize, vc, v1, decB, SR.pre] at hx
  (try delta i64 LN); simp only [VBt]; (repeat' first | intro _ | apply And.intro); all_goals (try omega); all_goals grind [secSize]
def C_spec_SectionSize : Con := { ps := [.ro (.st .sect)], out := fun x => let q : Sect := x.1; vc .i (secSize q), det := true }
abbrev L_spec_SectionSize : List (Nat × Con) := []
def G_spec_SectionSize : Cfg := mkG (tyL tys_) L_spec_SectionSize false
def an_spec_SectionSize : PTL C_spec_SectionSize.ps → Nat → Option Ann := fun _ _ => none
set_option maxRecDepth 200000 in
theorem vc_spec_SectionSize (q : Sect) : (keeps Try.prog G_spec_SectionSize (an_spec_SectionSize (q, ())) (Try.f96.body.getD .skip) Try.f96.results.toList C_spec_SectionSize (q, ())) = (((((decide ((Sect.kind q) = 3)) = true) →
 (((Sect.size q) = (secSize q)) ∧
 True)) ∧
 (((decide ((Sect.kind q) = 3)) = false) →
 (((List.length (Sect.bytes q)) ≤ 9223372036854775807) →
 (((LN (Sect.bytes q)) = (secSize q)) ∧
 True))))) := by kernel_rfl
theorem det_spec_SectionSize : C_spec_SectionSize.det = true → ∀ x, (C_spec_SectionSize.out x).Det := fun _ _ => Det.vc'
set_option maxRecDepth 200000 in
set_option maxHeartbeats 4000000 in
theorem ok_spec_SectionSize : ConOK Try.prog 96 C_spec_SectionSize := by
  refine con_mk (wr := false) (ty := tyL tys_) (l := L_spec_SectionSize) trivial Try.checked.mixed (fn := Try.f96) (body := Try.f96.body.getD .skip) Try.func96 rfl (by decide) (by kernel_rfl) rfl an_spec_SectionSize fun x ho hx => ?_
  obtain ⟨q, ⟨⟩⟩ := x
  refine Keeps.of (vc_spec_SectionSize q) ?_
  revert q ho hx
  show ∀ (q : Sect), _
  intro q ho hx
  dsimp only [C_spec_SectionSize, okPTL, okPT, Ok, Ty.cells, SN.cells, OkL, OkC, okI, ci, cb, cs, cl] at ho
  dsimp only [C_spec_SectionSize, vc, v1, decB, SR.pre] at hx
  (try delta i64 LN); simp only [VBt]; (repeat' first | intro _ | apply And.intro); all_goals (try omega); all_goals grind [secSize]
def C_impl_SectionValid : Con := { ps := [.ro (.st .sect), .ro .i], out := fun x => let q : Sect := x.1; let many : Int := x.2.1; vc .bool (secB q many), det := true }
abbrev L_impl_SectionValid : List (Nat × Con) := [(80, C_impl_NameValid), (74, C_impl_within), (73, C_impl_isAlign), (97, C_impl_FixupWide), (98, C_impl_isAdd)]
def G_impl_SectionValid : Cfg := mkG (tyL tys_) L_impl_SectionValid false
def an_impl_SectionValid : PTL C_impl_SectionValid.ps → Nat → Option Ann := fun x kk_ => let q : Sect := x.1; let many : Int := x.2.1; if kk_ = 9 then some (.all (Int) fun i => .all (Int) fun e => .giv (nameB q.name = true ∧ 1 ≤ q.kind ∧ q.kind ≤ 3 ∧ q.kind ≠ 3 ∧ (q.align = 1 ∨ q.align = 2 ∨ q.align = 4 ∨ q.align = 8) ∧ q.size = 0 ∧ (q.bytes.length : Int) ≤ 48 ∧ (q.fixups.length : Int) ≤ 6 ∧ 0 ≤ i ∧ i ≤ q.fixups.length ∧ 0 ≤ e ∧ e ≤ 100 ∧ fixB many q.bytes.length 0 q.fixups = fixB many q.bytes.length e (q.fixups.drop i.toNat)) (.mk [(5, ai e), (61, ai i), (59, al (.st .fixup) q.fixups), (60, ai q.fixups.length), (1, ai many), (2, aref 62)] [(62, bx (ast .sect q))] ((q.fixups.length - i.toNat)))) else none
set_option maxRecDepth 200000 in
theorem vc_impl_SectionValid (q : Sect) (many : Int) : (keeps Try.prog G_impl_SectionValid (an_impl_SectionValid (q, many, ())) (Try.f65.body.getD .skip) Try.f65.results.toList C_impl_SectionValid (q, many, ())) = (((((Bool.not (nameB (Sect.name q))) = true) →
 ((false = (secB q many)) ∧
 True)) ∧
 (((Bool.not (nameB (Sect.name q))) = false) →
 ((((Bool.not (decide ((1 ≤ (Sect.kind q)) ∧
 ((Sect.kind q) ≤ 3)))) = true) →
 ((false = (secB q many)) ∧
 True)) ∧
 (((Bool.not (decide ((1 ≤ (Sect.kind q)) ∧
 ((Sect.kind q) ≤ 3)))) = false) →
 ((((Bool.not (decide (((Sect.align q) = 1) ∨ (((Sect.align q) = 2) ∨ (((Sect.align q) = 4) ∨ ((Sect.align q) = 8)))))) = true) →
 ((false = (secB q many)) ∧
 True)) ∧
 (((Bool.not (decide (((Sect.align q) = 1) ∨ (((Sect.align q) = 2) ∨ (((Sect.align q) = 4) ∨ ((Sect.align q) = 8)))))) = false) →
 ((((decide ((Sect.kind q) = 3)) = true) →
 ((((decide ((0 ≤ (Sect.size q)) ∧
 ((Sect.size q) ≤ 48))) = true) →
 (((List.length (Sect.bytes q)) ≤ 9223372036854775807) →
 ((((decide ((LN (Sect.bytes q)) = 0)) = true) →
 (((List.length (Sect.fixups q)) ≤ 9223372036854775807) →
 (((decide ((LN (Sect.fixups q)) = 0)) = (secB q many)) ∧
 True))) ∧
 (((decide ((LN (Sect.bytes q)) = 0)) = false) →
 ((false = (secB q many)) ∧
 True))))) ∧
 (((decide ((0 ≤ (Sect.size q)) ∧
 ((Sect.size q) ≤ 48))) = false) →
 ((false = (secB q many)) ∧
 True)))) ∧
 (((decide ((Sect.kind q) = 3)) = false) →
 ((((decide ((Sect.size q) ≠ 0)) = true) →
 ((false = (secB q many)) ∧
 True)) ∧
 (((decide ((Sect.size q) ≠ 0)) = false) →
 (((List.length (Sect.bytes q)) ≤ 9223372036854775807) →
 ((((decide (48 < (LN (Sect.bytes q)))) = true) →
 ((false = (secB q many)) ∧
 True)) ∧
 (((decide (48 < (LN (Sect.bytes q)))) = false) →
 (((List.length (Sect.fixups q)) ≤ 9223372036854775807) →
 ((((decide (6 < (LN (Sect.fixups q)))) = true) →
 ((false = (secB q many)) ∧
 True)) ∧
 (((decide (6 < (LN (Sect.fixups q)))) = false) →
 (((List.length (Sect.fixups q)) ≤ 9223372036854775807) →
 ((∃ (x_1 : Int), (∃ (x_2 : Int), ((0 = x_2) ∧
 ((0 = x_1) ∧
 ((@Eq (List Fixup) (Sect.fixups q) (Sect.fixups q)) ∧
 (((LN (Sect.fixups q)) = (LN (Sect.fixups q))) ∧
 ((many = many) ∧
 ((@Eq ByteArray (Sect.name q) (Sect.name q)) ∧
 (((Sect.kind q) = (Sect.kind q)) ∧
 (((Sect.align q) = (Sect.align q)) ∧
 ((@Eq (List Int) (Sect.bytes q) (Sect.bytes q)) ∧
 (((Sect.size q) = (Sect.size q)) ∧
 ((@Eq (List Fixup) (Sect.fixups q) (Sect.fixups q)) ∧
 ((((nameB (Sect.name q)) = true) ∧
 ((1 ≤ (Sect.kind q)) ∧
 (((Sect.kind q) ≤ 3) ∧
 (((Sect.kind q) ≠ 3) ∧
 ((((Sect.align q) = 1) ∨ (((Sect.align q) = 2) ∨ (((Sect.align q) = 4) ∨ ((Sect.align q) = 8)))) ∧
 (((Sect.size q) = 0) ∧
 (((LN (Sect.bytes q)) ≤ 48) ∧
 (((LN (Sect.fixups q)) ≤ 6) ∧
 ((0 ≤ x_1) ∧
 ((x_1 ≤ (LN (Sect.fixups q))) ∧
 ((0 ≤ x_2) ∧
 ((x_2 ≤ (100 : Int)) ∧
 ((fixB many (LN (Sect.bytes q)) (0 : Int) (Sect.fixups q)) = (fixB many (LN (Sect.bytes q)) x_2 (List.drop (Int.toNat x_1) (Sect.fixups q)))))))))))))))) ∧
 True)))))))))))))) ∧
 (∀ (x_3 : Int), (∀ (x_4 : Int), ((((nameB (Sect.name q)) = true) ∧
 ((1 ≤ (Sect.kind q)) ∧
 (((Sect.kind q) ≤ 3) ∧
 (((Sect.kind q) ≠ 3) ∧
 ((((Sect.align q) = 1) ∨ (((Sect.align q) = 2) ∨ (((Sect.align q) = 4) ∨ ((Sect.align q) = 8)))) ∧
 (((Sect.size q) = 0) ∧
 (((LN (Sect.bytes q)) ≤ 48) ∧
 (((LN (Sect.fixups q)) ≤ 6) ∧
 ((0 ≤ x_3) ∧
 ((x_3 ≤ (LN (Sect.fixups q))) ∧
 ((0 ≤ x_4) ∧
 ((x_4 ≤ (100 : Int)) ∧
 ((fixB many (LN (Sect.bytes q)) (0 : Int) (Sect.fixups q)) = (fixB many (LN (Sect.bytes q)) x_4 (List.drop (Int.toNat x_3) (Sect.fixups q)))))))))))))))) →
 ((((decide (x_3 < (LN (Sect.fixups q)))) = true) →
 (((0 ≤ x_3) ∧
 (x_3 < (LN (Sect.fixups q)))) ∧
 (∀ (x_5 : Fixup), ((@Eq (Option Fixup) ((Sect.fixups q))[(Int.toNat x_3)]? (some x_5)) →
 ((Ok (Ty.st SN.fixup) x_5) →
 ((((decide ((fixWide (Fixup.kind x_5)) = 0)) = true) →
 ((false = (secB q many)) ∧
 True)) ∧
 (((decide ((fixWide (Fixup.kind x_5)) = 0)) = false) →
 ((((decide ((Fixup.to x_5) < 0)) = true) →
 ((false = (secB q many)) ∧
 True)) ∧
 (((decide ((Fixup.to x_5) < 0)) = false) →
 ((((decide (many ≤ (Fixup.to x_5))) = true) →
 ((false = (secB q many)) ∧
 True)) ∧
 (((decide (many ≤ (Fixup.to x_5))) = false) →
 ((((Bool.not (decide (((- (1000 : Int)) ≤ (Fixup.add x_5)) ∧
 ((Fixup.add x_5) ≤ 1000)))) = true) →
 ((false = (secB q many)) ∧
 True)) ∧
 (((Bool.not (decide (((- (1000 : Int)) ≤ (Fixup.add x_5)) ∧
 ((Fixup.add x_5) ≤ 1000)))) = false) →
 (((List.length (Sect.bytes q)) ≤ 9223372036854775807) →
 ((i64 ((LN (Sect.bytes q)) - (fixWide (Fixup.kind x_5)))) ∧
 ((((Bool.not (decide ((x_4 ≤ (Fixup.at_ x_5)) ∧
 ((Fixup.at_ x_5) ≤ ((LN (Sect.bytes q)) - (fixWide (Fixup.kind x_5))))))) = true) →
 ((false = (secB q many)) ∧
 True)) ∧
 (((Bool.not (decide ((x_4 ≤ (Fixup.at_ x_5)) ∧
 ((Fixup.at_ x_5) ≤ ((LN (Sect.bytes q)) - (fixWide (Fixup.kind x_5))))))) = false) →
 ((i64 ((Fixup.at_ x_5) + (fixWide (Fixup.kind x_5)))) ∧
 ((i64 (x_3 + (1 : Int))) ∧
 (∃ (x_6 : Int), (∃ (x_7 : Int), ((((Fixup.at_ x_5) + (fixWide (Fixup.kind x_5))) = x_7) ∧
 (((x_3 + (1 : Int)) = x_6) ∧
 ((@Eq (List Fixup) (Sect.fixups q) (Sect.fixups q)) ∧
 (((LN (Sect.fixups q)) = (LN (Sect.fixups q))) ∧
 ((many = many) ∧
 ((@Eq ByteArray (Sect.name q) (Sect.name q)) ∧
 (((Sect.kind q) = (Sect.kind q)) ∧
 (((Sect.align q) = (Sect.align q)) ∧
 ((@Eq (List Int) (Sect.bytes q) (Sect.bytes q)) ∧
 (((Sect.size q) = (Sect.size q)) ∧
 ((@Eq (List Fixup) (Sect.fixups q) (Sect.fixups q)) ∧
 ((((nameB (Sect.name q)) = true) ∧
 ((1 ≤ (Sect.kind q)) ∧
 (((Sect.kind q) ≤ 3) ∧
 (((Sect.kind q) ≠ 3) ∧
 ((((Sect.align q) = 1) ∨ (((Sect.align q) = 2) ∨ (((Sect.align q) = 4) ∨ ((Sect.align q) = 8)))) ∧
 (((Sect.size q) = 0) ∧
 (((LN (Sect.bytes q)) ≤ 48) ∧
 (((LN (Sect.fixups q)) ≤ 6) ∧
 ((0 ≤ x_6) ∧
 ((x_6 ≤ (LN (Sect.fixups q))) ∧
 ((0 ≤ x_7) ∧
 ((x_7 ≤ (100 : Int)) ∧
 ((fixB many (LN (Sect.bytes q)) (0 : Int) (Sect.fixups q)) = (fixB many (LN (Sect.bytes q)) x_7 (List.drop (Int.toNat x_6) (Sect.fixups q)))))))))))))))) ∧
 (((List.length (Sect.fixups q)) - (Int.toNat x_6)) < ((List.length (Sect.fixups q)) - (Int.toNat x_3)))))))))))))))))))))))))))))))))))) ∧
 (((decide (x_3 < (LN (Sect.fixups q)))) = false) →
 ((true = (secB q many)) ∧
 True))))))))))))))))))))))))) := by kernel_rfl
theorem det_impl_SectionValid : C_impl_SectionValid.det = true → ∀ x, (C_impl_SectionValid.out x).Det := fun _ _ => Det.vc'
set_option maxRecDepth 200000 in
set_option maxHeartbeats 4000000 in
theorem ok_impl_SectionValid : ConOK Try.prog 65 C_impl_SectionValid := by
  refine con_mk (wr := false) (ty := tyL tys_) (l := L_impl_SectionValid) ⟨⟨ok_impl_NameValid, det_impl_NameValid⟩, ⟨⟨ok_impl_within, det_impl_within⟩, ⟨⟨ok_impl_isAlign, det_impl_isAlign⟩, ⟨⟨ok_impl_FixupWide, det_impl_FixupWide⟩, ⟨⟨ok_impl_isAdd, det_impl_isAdd⟩, trivial⟩⟩⟩⟩⟩ Try.checked.mixed (fn := Try.f65) (body := Try.f65.body.getD .skip) Try.func65 rfl (by decide) (by kernel_rfl) rfl an_impl_SectionValid fun x ho hx => ?_
  obtain ⟨q, many, ⟨⟩⟩ := x
  refine Keeps.of (vc_impl_SectionValid q many) ?_
  revert q many ho hx
  show ∀ (q : Sect) (many : Int), _
  intro q many ho hx
  dsimp only [C_impl_SectionValid, okPTL, okPT, Ok, Ty.cells, SN.cells, OkL, OkC, okI, ci, cb, cs, cl] at ho
  dsimp only [C_impl_SectionValid, vc, v1, decB, SR.pre] at hx
  have hw := fixWide_le
  (try delta i64 LN); simp only [VBt]; (repeat' first | intro _ | apply And.intro); all_goals (try omega); all_goals (try have hdr := drop_get' (l := q.fixups) (by assumption) (by assumption)); all_goals (try (first | exact secB_blank (by assumption) (by assumption) (by assumption) (by assumption) (by assumption) (by assumption) | grind [secB, fixB, drop_end]))
def C_spec_SectionValid : Con := { ps := [.ro (.st .sect), .ro .i], out := fun x => let q : Sect := x.1; let many : Int := x.2.1; vc .bool (secB q many), det := true }
abbrev L_spec_SectionValid : List (Nat × Con) := [(85, C_spec_NameValid), (105, C_spec_l1In), (106, C_spec_AlignUp), (95, C_spec_FixupWide)]
def G_spec_SectionValid : Cfg := mkG (tyL tys_) L_spec_SectionValid false
def an_spec_SectionValid : PTL C_spec_SectionValid.ps → Nat → Option Ann := fun x kk_ => let q : Sect := x.1; let many : Int := x.2.1; if kk_ = 7 then some (.all (Int) fun i => .all (Int) fun e => .giv (nameB q.name = true ∧ 1 ≤ q.kind ∧ q.kind ≤ 3 ∧ q.kind ≠ 3 ∧ (q.align = 1 ∨ q.align = 2 ∨ q.align = 4 ∨ q.align = 8) ∧ (q.bytes.length : Int) ≤ 48 ∧ (q.fixups.length : Int) ≤ 6 ∧ 0 ≤ i ∧ i ≤ q.fixups.length ∧ 0 ≤ e ∧ e ≤ 100 ∧ fixB many q.bytes.length 0 q.fixups = fixB many q.bytes.length e (q.fixups.drop i.toNat)) (.mk [(5, ai e), (6, ai i), (1, ai many), (2, aref 62)] [(62, bx (ast .sect q))] ((q.fixups.length - i.toNat)))) else none
set_option maxRecDepth 200000 in
theorem vc_spec_SectionValid (q : Sect) (many : Int) : (keeps Try.prog G_spec_SectionValid (an_spec_SectionValid (q, many, ())) (Try.f69.body.getD .skip) Try.f69.results.toList C_spec_SectionValid (q, many, ())) = (((((Bool.not (nameB (Sect.name q))) = true) →
 ((false = (secB q many)) ∧
 True)) ∧
 (((Bool.not (nameB (Sect.name q))) = false) →
 ((((Bool.not (decide ((1 ≤ (Sect.kind q)) ∧
 ((Sect.kind q) ≤ 3)))) = true) →
 ((false = (secB q many)) ∧
 True)) ∧
 (((Bool.not (decide ((1 ≤ (Sect.kind q)) ∧
 ((Sect.kind q) ≤ 3)))) = false) →
 ((((decide ((alignUp (0 : Int) (Sect.align q)) < 0)) = true) →
 ((false = (secB q many)) ∧
 True)) ∧
 (((decide ((alignUp (0 : Int) (Sect.align q)) < 0)) = false) →
 (((List.length (Sect.bytes q)) ≤ 9223372036854775807) →
 ((((decide (48 < (LN (Sect.bytes q)))) = true) →
 ((false = (secB q many)) ∧
 True)) ∧
 (((decide (48 < (LN (Sect.bytes q)))) = false) →
 (((List.length (Sect.fixups q)) ≤ 9223372036854775807) →
 ((((decide (6 < (LN (Sect.fixups q)))) = true) →
 ((false = (secB q many)) ∧
 True)) ∧
 (((decide (6 < (LN (Sect.fixups q)))) = false) →
 ((((Bool.not (decide ((0 ≤ (Sect.size q)) ∧
 ((Sect.size q) ≤ 48)))) = true) →
 ((false = (secB q many)) ∧
 True)) ∧
 (((Bool.not (decide ((0 ≤ (Sect.size q)) ∧
 ((Sect.size q) ≤ 48)))) = false) →
 ((((decide ((Sect.kind q) = 3)) = true) →
 (((List.length (Sect.bytes q)) ≤ 9223372036854775807) →
 ((((decide ((LN (Sect.bytes q)) = 0)) = true) →
 (((List.length (Sect.fixups q)) ≤ 9223372036854775807) →
 (((decide ((LN (Sect.fixups q)) = 0)) = (secB q many)) ∧
 True))) ∧
 (((decide ((LN (Sect.bytes q)) = 0)) = false) →
 ((false = (secB q many)) ∧
 True))))) ∧
 (((decide ((Sect.kind q) = 3)) = false) →
 ((∃ (x_1 : Int), (∃ (x_2 : Int), ((0 = x_2) ∧
 ((0 = x_1) ∧
 ((many = many) ∧
 ((@Eq ByteArray (Sect.name q) (Sect.name q)) ∧
 (((Sect.kind q) = (Sect.kind q)) ∧
 (((Sect.align q) = (Sect.align q)) ∧
 ((@Eq (List Int) (Sect.bytes q) (Sect.bytes q)) ∧
 (((Sect.size q) = (Sect.size q)) ∧
 ((@Eq (List Fixup) (Sect.fixups q) (Sect.fixups q)) ∧
 ((((nameB (Sect.name q)) = true) ∧
 ((1 ≤ (Sect.kind q)) ∧
 (((Sect.kind q) ≤ 3) ∧
 (((Sect.kind q) ≠ 3) ∧
 ((((Sect.align q) = 1) ∨ (((Sect.align q) = 2) ∨ (((Sect.align q) = 4) ∨ ((Sect.align q) = 8)))) ∧
 (((LN (Sect.bytes q)) ≤ 48) ∧
 (((LN (Sect.fixups q)) ≤ 6) ∧
 ((0 ≤ x_1) ∧
 ((x_1 ≤ (LN (Sect.fixups q))) ∧
 ((0 ≤ x_2) ∧
 ((x_2 ≤ (100 : Int)) ∧
 ((fixB many (LN (Sect.bytes q)) (0 : Int) (Sect.fixups q)) = (fixB many (LN (Sect.bytes q)) x_2 (List.drop (Int.toNat x_1) (Sect.fixups q))))))))))))))) ∧
 True)))))))))))) ∧
 (∀ (x_3 : Int), (∀ (x_4 : Int), ((((nameB (Sect.name q)) = true) ∧
 ((1 ≤ (Sect.kind q)) ∧
 (((Sect.kind q) ≤ 3) ∧
 (((Sect.kind q) ≠ 3) ∧
 ((((Sect.align q) = 1) ∨ (((Sect.align q) = 2) ∨ (((Sect.align q) = 4) ∨ ((Sect.align q) = 8)))) ∧
 (((LN (Sect.bytes q)) ≤ 48) ∧
 (((LN (Sect.fixups q)) ≤ 6) ∧
 ((0 ≤ x_3) ∧
 ((x_3 ≤ (LN (Sect.fixups q))) ∧
 ((0 ≤ x_4) ∧
 ((x_4 ≤ (100 : Int)) ∧
 ((fixB many (LN (Sect.bytes q)) (0 : Int) (Sect.fixups q)) = (fixB many (LN (Sect.bytes q)) x_4 (List.drop (Int.toNat x_3) (Sect.fixups q))))))))))))))) →
 (((List.length (Sect.fixups q)) ≤ 9223372036854775807) →
 ((((decide (x_3 < (LN (Sect.fixups q)))) = true) →
 (((0 ≤ x_3) ∧
 (x_3 < (LN (Sect.fixups q)))) ∧
 (∀ (x_5 : Fixup), ((@Eq (Option Fixup) ((Sect.fixups q))[(Int.toNat x_3)]? (some x_5)) →
 ((Ok (Ty.st SN.fixup) x_5) →
 ((((decide ((fixWide (Fixup.kind x_5)) = 0)) = true) →
 ((false = (secB q many)) ∧
 True)) ∧
 (((decide ((fixWide (Fixup.kind x_5)) = 0)) = false) →
 ((((decide ((Fixup.to x_5) < 0)) = true) →
 ((false = (secB q many)) ∧
 True)) ∧
 (((decide ((Fixup.to x_5) < 0)) = false) →
 ((((decide (many ≤ (Fixup.to x_5))) = true) →
 ((false = (secB q many)) ∧
 True)) ∧
 (((decide (many ≤ (Fixup.to x_5))) = false) →
 ((((Bool.not (decide (((- (1000 : Int)) ≤ (Fixup.add x_5)) ∧
 ((Fixup.add x_5) ≤ 1000)))) = true) →
 ((false = (secB q many)) ∧
 True)) ∧
 (((Bool.not (decide (((- (1000 : Int)) ≤ (Fixup.add x_5)) ∧
 ((Fixup.add x_5) ≤ 1000)))) = false) →
 (((List.length (Sect.bytes q)) ≤ 9223372036854775807) →
 ((i64 ((LN (Sect.bytes q)) - (fixWide (Fixup.kind x_5)))) ∧
 ((((Bool.not (decide ((x_4 ≤ (Fixup.at_ x_5)) ∧
 ((Fixup.at_ x_5) ≤ ((LN (Sect.bytes q)) - (fixWide (Fixup.kind x_5))))))) = true) →
 ((false = (secB q many)) ∧
 True)) ∧
 (((Bool.not (decide ((x_4 ≤ (Fixup.at_ x_5)) ∧
 ((Fixup.at_ x_5) ≤ ((LN (Sect.bytes q)) - (fixWide (Fixup.kind x_5))))))) = false) →
 ((i64 ((Fixup.at_ x_5) + (fixWide (Fixup.kind x_5)))) ∧
 ((i64 (x_3 + (1 : Int))) ∧
 (∃ (x_6 : Int), (∃ (x_7 : Int), ((((Fixup.at_ x_5) + (fixWide (Fixup.kind x_5))) = x_7) ∧
 (((x_3 + (1 : Int)) = x_6) ∧
 ((many = many) ∧
 ((@Eq ByteArray (Sect.name q) (Sect.name q)) ∧
 (((Sect.kind q) = (Sect.kind q)) ∧
 (((Sect.align q) = (Sect.align q)) ∧
 ((@Eq (List Int) (Sect.bytes q) (Sect.bytes q)) ∧
 (((Sect.size q) = (Sect.size q)) ∧
 ((@Eq (List Fixup) (Sect.fixups q) (Sect.fixups q)) ∧
 ((((nameB (Sect.name q)) = true) ∧
 ((1 ≤ (Sect.kind q)) ∧
 (((Sect.kind q) ≤ 3) ∧
 (((Sect.kind q) ≠ 3) ∧
 ((((Sect.align q) = 1) ∨ (((Sect.align q) = 2) ∨ (((Sect.align q) = 4) ∨ ((Sect.align q) = 8)))) ∧
 (((LN (Sect.bytes q)) ≤ 48) ∧
 (((LN (Sect.fixups q)) ≤ 6) ∧
 ((0 ≤ x_6) ∧
 ((x_6 ≤ (LN (Sect.fixups q))) ∧
 ((0 ≤ x_7) ∧
 ((x_7 ≤ (100 : Int)) ∧
 ((fixB many (LN (Sect.bytes q)) (0 : Int) (Sect.fixups q)) = (fixB many (LN (Sect.bytes q)) x_7 (List.drop (Int.toNat x_6) (Sect.fixups q))))))))))))))) ∧
 (((List.length (Sect.fixups q)) - (Int.toNat x_6)) < ((List.length (Sect.fixups q)) - (Int.toNat x_3)))))))))))))))))))))))))))))))))) ∧
 (((decide (x_3 < (LN (Sect.fixups q)))) = false) →
 (((decide ((Sect.size q) = 0)) = (secB q many)) ∧
 True))))))))))))))))))))))))) := by kernel_rfl
theorem det_spec_SectionValid : C_spec_SectionValid.det = true → ∀ x, (C_spec_SectionValid.out x).Det := fun _ _ => Det.vc'
set_option maxRecDepth 200000 in
set_option maxHeartbeats 4000000 in
theorem ok_spec_SectionValid : ConOK Try.prog 69 C_spec_SectionValid := by
  refine con_mk (wr := false) (ty := tyL tys_) (l := L_spec_SectionValid) ⟨⟨ok_spec_NameValid, det_spec_NameValid⟩, ⟨⟨ok_spec_l1In, det_spec_l1In⟩, ⟨⟨ok_spec_AlignUp, det_spec_AlignUp⟩, ⟨⟨ok_spec_FixupWide, det_spec_FixupWide⟩, trivial⟩⟩⟩⟩ Try.checked.mixed (fn := Try.f69) (body := Try.f69.body.getD .skip) Try.func69 rfl (by decide) (by kernel_rfl) rfl an_spec_SectionValid fun x ho hx => ?_
  obtain ⟨q, many, ⟨⟩⟩ := x
  refine Keeps.of (vc_spec_SectionValid q many) ?_
  revert q many ho hx
  show ∀ (q : Sect) (many : Int), _
  intro q many ho hx
  dsimp only [C_spec_SectionValid, okPTL, okPT, Ok, Ty.cells, SN.cells, OkL, OkC, okI, ci, cb, cs, cl] at ho
  dsimp only [C_spec_SectionValid, vc, v1, decB, SR.pre] at hx
  have hw := fixWide_le
  (try delta i64 LN); simp only [VBt]; (repeat' first | intro _ | apply And.intro); all_goals (try omega); all_goals (try have hdr := drop_get' (l := q.fixups) (by assumption) (by assumption)); all_goals (try (first | exact secB_blank (by assumption) (by assumption) (by grind [alignUp]) (by assumption) (by assumption) (by assumption) | grind [secB, fixB, drop_end, alignUp]))
def C_impl_SymbolValid : Con := { ps := [.ro (.st .sym), .ro (.list (.st .sect))], out := fun x => let s : Sym := x.1; let l : List (Sect) := x.2.1; vc .bool (symB s l), det := true }
abbrev L_impl_SymbolValid : List (Nat × Con) := [(80, C_impl_NameValid), (74, C_impl_within), (99, C_impl_SectionSize)]
def G_impl_SymbolValid : Cfg := mkG (tyL tys_) L_impl_SymbolValid false
def an_impl_SymbolValid : PTL C_impl_SymbolValid.ps → Nat → Option Ann := fun _ _ => none
set_option maxRecDepth 200000 in
theorem vc_impl_SymbolValid (s : Sym) (l : List (Sect)) : (keeps Try.prog G_impl_SymbolValid (an_impl_SymbolValid (s, l, ())) (Try.f66.body.getD .skip) Try.f66.results.toList C_impl_SymbolValid (s, l, ())) = (((((Bool.not (nameB (Sym.name s))) = true) →
 ((false = (symB s l)) ∧
 True)) ∧
 (((Bool.not (nameB (Sym.name s))) = false) →
 ((((Bool.not (decide ((0 ≤ (Sym.bind s)) ∧
 ((Sym.bind s) ≤ 2)))) = true) →
 ((false = (symB s l)) ∧
 True)) ∧
 (((Bool.not (decide ((0 ≤ (Sym.bind s)) ∧
 ((Sym.bind s) ≤ 2)))) = false) →
 ((((decide ((Sym.wher s) = (- (1 : Int)))) = true) →
 ((((decide ((Sym.value s) = 0)) = true) →
 (((decide ((Sym.bind s) ≠ 0)) = (symB s l)) ∧
 True)) ∧
 (((decide ((Sym.value s) = 0)) = false) →
 ((false = (symB s l)) ∧
 True)))) ∧
 (((decide ((Sym.wher s) = (- (1 : Int)))) = false) →
 ((((decide ((Sym.wher s) = (- (2 : Int)))) = true) →
 (((decide ((0 ≤ (Sym.value s)) ∧
 ((Sym.value s) ≤ 60000))) = (symB s l)) ∧
 True)) ∧
 (((decide ((Sym.wher s) = (- (2 : Int)))) = false) →
 (((List.length l) ≤ 9223372036854775807) →
 ((i64 ((LN l) - 1)) ∧
 ((((decide ((0 ≤ (Sym.wher s)) ∧
 ((Sym.wher s) ≤ ((LN l) - 1)))) = true) →
 (((0 ≤ (Sym.wher s)) ∧
 ((Sym.wher s) < (LN l))) ∧
 (∀ (x_1 : Sect), ((@Eq (Option Sect) (l)[(Int.toNat (Sym.wher s))]? (some x_1)) →
 ((Ok (Ty.st SN.sect) x_1) →
 (((decide ((0 ≤ (Sym.value s)) ∧
 ((Sym.value s) ≤ (secSize x_1)))) = (symB s l)) ∧
 True)))))) ∧
 (((decide ((0 ≤ (Sym.wher s)) ∧
 ((Sym.wher s) ≤ ((LN l) - 1)))) = false) →
 ((false = (symB s l)) ∧
 True)))))))))))))) := by kernel_rfl
theorem det_impl_SymbolValid : C_impl_SymbolValid.det = true → ∀ x, (C_impl_SymbolValid.out x).Det := fun _ _ => Det.vc'
set_option maxRecDepth 200000 in
set_option maxHeartbeats 4000000 in
theorem ok_impl_SymbolValid : ConOK Try.prog 66 C_impl_SymbolValid := by
  refine con_mk (wr := false) (ty := tyL tys_) (l := L_impl_SymbolValid) ⟨⟨ok_impl_NameValid, det_impl_NameValid⟩, ⟨⟨ok_impl_within, det_impl_within⟩, ⟨⟨ok_impl_SectionSize, det_impl_SectionSize⟩, trivial⟩⟩⟩ Try.checked.mixed (fn := Try.f66) (body := Try.f66.body.getD .skip) Try.func66 rfl (by decide) (by kernel_rfl) rfl an_impl_SymbolValid fun x ho hx => ?_
  obtain ⟨s, l, ⟨⟩⟩ := x
  refine Keeps.of (vc_impl_SymbolValid s l) ?_
  revert s l ho hx
  show ∀ (s : Sym) (l : List (Sect)), _
  intro s l ho hx
  dsimp only [C_impl_SymbolValid, okPTL, okPT, Ok, Ty.cells, SN.cells, OkL, OkC, okI, ci, cb, cs, cl] at ho
  dsimp only [C_impl_SymbolValid, vc, v1, decB, SR.pre] at hx
  (try delta i64 LN); simp only [VBt]; (repeat' first | intro _ | apply And.intro); all_goals (try omega); all_goals grind [symB]
def C_spec_SymbolValid : Con := { ps := [.ro (.st .sym), .ro (.list (.st .sect))], out := fun x => let s : Sym := x.1; let l : List (Sect) := x.2.1; vc .bool (symB s l), det := true }
abbrev L_spec_SymbolValid : List (Nat × Con) := [(85, C_spec_NameValid), (105, C_spec_l1In), (96, C_spec_SectionSize)]
def G_spec_SymbolValid : Cfg := mkG (tyL tys_) L_spec_SymbolValid false
def an_spec_SymbolValid : PTL C_spec_SymbolValid.ps → Nat → Option Ann := fun _ _ => none
set_option maxRecDepth 200000 in
theorem vc_spec_SymbolValid (s : Sym) (l : List (Sect)) : (keeps Try.prog G_spec_SymbolValid (an_spec_SymbolValid (s, l, ())) (Try.f70.body.getD .skip) Try.f70.results.toList C_spec_SymbolValid (s, l, ())) = (((((Bool.not (nameB (Sym.name s))) = true) →
 ((false = (symB s l)) ∧
 True)) ∧
 (((Bool.not (nameB (Sym.name s))) = false) →
 ((((Bool.not (decide ((0 ≤ (Sym.bind s)) ∧
 ((Sym.bind s) ≤ 2)))) = true) →
 ((false = (symB s l)) ∧
 True)) ∧
 (((Bool.not (decide ((0 ≤ (Sym.bind s)) ∧
 ((Sym.bind s) ≤ 2)))) = false) →
 ((((decide ((Sym.wher s) = (- (1 : Int)))) = true) →
 ((((decide ((Sym.value s) = 0)) = true) →
 (((decide ((Sym.bind s) ≠ 0)) = (symB s l)) ∧
 True)) ∧
 (((decide ((Sym.value s) = 0)) = false) →
 ((false = (symB s l)) ∧
 True)))) ∧
 (((decide ((Sym.wher s) = (- (1 : Int)))) = false) →
 ((((decide ((Sym.wher s) = (- (2 : Int)))) = true) →
 (((decide ((0 ≤ (Sym.value s)) ∧
 ((Sym.value s) ≤ 60000))) = (symB s l)) ∧
 True)) ∧
 (((decide ((Sym.wher s) = (- (2 : Int)))) = false) →
 (((List.length l) ≤ 9223372036854775807) →
 ((i64 ((LN l) - 1)) ∧
 ((((decide ((0 ≤ (Sym.wher s)) ∧
 ((Sym.wher s) ≤ ((LN l) - 1)))) = true) →
 (((0 ≤ (Sym.wher s)) ∧
 ((Sym.wher s) < (LN l))) ∧
 (∀ (x_1 : Sect), ((@Eq (Option Sect) (l)[(Int.toNat (Sym.wher s))]? (some x_1)) →
 ((Ok (Ty.st SN.sect) x_1) →
 (((decide ((0 ≤ (Sym.value s)) ∧
 ((Sym.value s) ≤ (secSize x_1)))) = (symB s l)) ∧
 True)))))) ∧
 (((decide ((0 ≤ (Sym.wher s)) ∧
 ((Sym.wher s) ≤ ((LN l) - 1)))) = false) →
 ((false = (symB s l)) ∧
 True)))))))))))))) := by kernel_rfl
theorem det_spec_SymbolValid : C_spec_SymbolValid.det = true → ∀ x, (C_spec_SymbolValid.out x).Det := fun _ _ => Det.vc'
set_option maxRecDepth 200000 in
set_option maxHeartbeats 4000000 in
theorem ok_spec_SymbolValid : ConOK Try.prog 70 C_spec_SymbolValid := by
  refine con_mk (wr := false) (ty := tyL tys_) (l := L_spec_SymbolValid) ⟨⟨ok_spec_NameValid, det_spec_NameValid⟩, ⟨⟨ok_spec_l1In, det_spec_l1In⟩, ⟨⟨ok_spec_SectionSize, det_spec_SectionSize⟩, trivial⟩⟩⟩ Try.checked.mixed (fn := Try.f70) (body := Try.f70.body.getD .skip) Try.func70 rfl (by decide) (by kernel_rfl) rfl an_spec_SymbolValid fun x ho hx => ?_
  obtain ⟨s, l, ⟨⟩⟩ := x
  refine Keeps.of (vc_spec_SymbolValid s l) ?_
  revert s l ho hx
  show ∀ (s : Sym) (l : List (Sect)), _
  intro s l ho hx
  dsimp only [C_spec_SymbolValid, okPTL, okPT, Ok, Ty.cells, SN.cells, OkL, OkC, okI, ci, cb, cs, cl] at ho
  dsimp only [C_spec_SymbolValid, vc, v1, decB, SR.pre] at hx
  (try delta i64 LN); simp only [VBt]; (repeat' first | intro _ | apply And.intro); all_goals (try omega); all_goals grind [symB]
def C_impl_globalOf_1 : Con := { ps := [.ro (.st .sym), .box (.ty .str)], out := fun x => let s : Sym := x.1; let name : ByteArray := x.2.1; vc .bool (decide (s.bind ≠ 0 ∧ s.name = name)), det := true }
abbrev L_impl_globalOf_1 : List (Nat × Con) := []
def G_impl_globalOf_1 : Cfg := mkG (tyL tys_) L_impl_globalOf_1 false
def an_impl_globalOf_1 : PTL C_impl_globalOf_1.ps → Nat → Option Ann := fun _ _ => none
set_option maxRecDepth 200000 in
theorem vc_impl_globalOf_1 (s : Sym) (name : ByteArray) : (keeps Try.prog G_impl_globalOf_1 (an_impl_globalOf_1 (s, name, ())) (Try.f101.body.getD .skip) Try.f101.results.toList C_impl_globalOf_1 (s, name, ())) = (((((decide ((Sym.bind s) ≠ 0)) = true) →
 (((decide (@Eq ByteArray (Sym.name s) name)) = (decide (((Sym.bind s) ≠ 0) ∧
 (@Eq ByteArray (Sym.name s) name)))) ∧
 ((@Eq ByteArray name name) ∧
 True))) ∧
 (((decide ((Sym.bind s) ≠ 0)) = false) →
 ((false = (decide (((Sym.bind s) ≠ 0) ∧
 (@Eq ByteArray (Sym.name s) name)))) ∧
 ((@Eq ByteArray name name) ∧
 True))))) := by kernel_rfl
theorem det_impl_globalOf_1 : C_impl_globalOf_1.det = true → ∀ x, (C_impl_globalOf_1.out x).Det := fun _ _ => Det.vc'
set_option maxRecDepth 200000 in
set_option maxHeartbeats 4000000 in
theorem ok_impl_globalOf_1 : ConOK Try.prog 101 C_impl_globalOf_1 := by
  refine con_mk (wr := false) (ty := tyL tys_) (l := L_impl_globalOf_1) trivial Try.checked.mixed (fn := Try.f101) (body := Try.f101.body.getD .skip) Try.func101 rfl (by decide) (by kernel_rfl) rfl an_impl_globalOf_1 fun x ho hx => ?_
  obtain ⟨s, name, ⟨⟩⟩ := x
  refine Keeps.of (vc_impl_globalOf_1 s name) ?_
  revert s name ho hx
  show ∀ (s : Sym) (name : ByteArray), _
  intro s name ho hx
  dsimp only [C_impl_globalOf_1, okPTL, okPT, Ok, Ty.cells, SN.cells, OkL, OkC, okI, ci, cb, cs, cl] at ho
  dsimp only [C_impl_globalOf_1, vc, v1, decB, SR.pre] at hx
  (try delta i64 LN); simp only [VBt]; (repeat' first | intro _ | apply And.intro); all_goals (try omega); all_goals grind
def C_slices_IndexFunc_impl_Symbol_impl_Symbol : Con := { ps := [.ro (.list (.st .sym)), .fn 101 [.ty .str]], out := fun x => let l : List (Sym) := x.1; let f : (ByteArray) × (Unit) := x.2.1; vc .i (globIx f.1 l 0), det := true }
abbrev L_slices_IndexFunc_impl_Symbol_impl_Symbol : List (Nat × Con) := [(101, C_impl_globalOf_1)]
def G_slices_IndexFunc_impl_Symbol_impl_Symbol : Cfg := mkG (tyL tys_) L_slices_IndexFunc_impl_Symbol_impl_Symbol false
def an_slices_IndexFunc_impl_Symbol_impl_Symbol : PTL C_slices_IndexFunc_impl_Symbol_impl_Symbol.ps → Nat → Option Ann := fun x kk_ => let l : List (Sym) := x.1; let f : (ByteArray) × (Unit) := x.2.1; if kk_ = 2 then some (.all (Int) fun i => .giv (0 ≤ i ∧ i ≤ l.length ∧ globIx f.1 l 0 = globIx f.1 (l.drop i.toNat) i) (.mk [(1, .one (.fn 101 [0])), (8, ai i), (0, al (.st .sym) l), (7, ai (List.length l))] [(0, lent .str f.1)] ((l.length - i.toNat)))) else none
set_option maxRecDepth 200000 in
theorem vc_slices_IndexFunc_impl_Symbol_impl_Symbol (l : List (Sym)) (f : (ByteArray) × (Unit)) : (keeps Try.prog G_slices_IndexFunc_impl_Symbol_impl_Symbol (an_slices_IndexFunc_impl_Symbol_impl_Symbol (l, f, ())) (Try.f100.body.getD .skip) Try.f100.results.toList C_slices_IndexFunc_impl_Symbol_impl_Symbol (l, f, ())) = ((((List.length l) ≤ 9223372036854775807) →
 ((∃ (x_1 : Int), ((0 = x_1) ∧
 ((@Eq (List Sym) l l) ∧
 (((LN l) = (LN l)) ∧
 ((@Eq ByteArray (Prod.fst f) (Prod.fst f)) ∧
 (((0 ≤ x_1) ∧
 ((x_1 ≤ (LN l)) ∧
 ((globIx (Prod.fst f) l (0 : Int)) = (globIx (Prod.fst f) (List.drop (Int.toNat x_1) l) x_1)))) ∧
 True)))))) ∧
 (∀ (x_2 : Int), (((0 ≤ x_2) ∧
 ((x_2 ≤ (LN l)) ∧
 ((globIx (Prod.fst f) l (0 : Int)) = (globIx (Prod.fst f) (List.drop (Int.toNat x_2) l) x_2)))) →
 ((((decide (x_2 < (LN l))) = true) →
 (((0 ≤ x_2) ∧
 (x_2 < (LN l))) ∧
 (∀ (x_3 : Sym), ((@Eq (Option Sym) (l)[(Int.toNat x_2)]? (some x_3)) →
 ((Ok (Ty.st SN.sym) x_3) →
 ((((decide (((Sym.bind x_3) ≠ 0) ∧
 (@Eq ByteArray (Sym.name x_3) (Prod.fst f)))) = true) →
 ((x_2 = (globIx (Prod.fst f) l (0 : Int))) ∧
 ((@Eq ByteArray (Prod.fst f) (Prod.fst f)) ∧
 True))) ∧
 (((decide (((Sym.bind x_3) ≠ 0) ∧
 (@Eq ByteArray (Sym.name x_3) (Prod.fst f)))) = false) →
 ((i64 (x_2 + (1 : Int))) ∧
 (∃ (x_4 : Int), (((x_2 + (1 : Int)) = x_4) ∧
 ((@Eq (List Sym) l l) ∧
 (((LN l) = (LN l)) ∧
 ((@Eq ByteArray (Prod.fst f) (Prod.fst f)) ∧
 (((0 ≤ x_4) ∧
 ((x_4 ≤ (LN l)) ∧
 ((globIx (Prod.fst f) l (0 : Int)) = (globIx (Prod.fst f) (List.drop (Int.toNat x_4) l) x_4)))) ∧
 (((List.length l) - (Int.toNat x_4)) < ((List.length l) - (Int.toNat x_2))))))))))))))))) ∧
 (((decide (x_2 < (LN l))) = false) →
 (((- (1 : Int)) = (globIx (Prod.fst f) l (0 : Int))) ∧
 ((@Eq ByteArray (Prod.fst f) (Prod.fst f)) ∧
 True))))))))) := by kernel_rfl
theorem det_slices_IndexFunc_impl_Symbol_impl_Symbol : C_slices_IndexFunc_impl_Symbol_impl_Symbol.det = true → ∀ x, (C_slices_IndexFunc_impl_Symbol_impl_Symbol.out x).Det := fun _ _ => Det.vc'
set_option maxRecDepth 200000 in
set_option maxHeartbeats 4000000 in
theorem ok_slices_IndexFunc_impl_Symbol_impl_Symbol : ConOK Try.prog 100 C_slices_IndexFunc_impl_Symbol_impl_Symbol := by
  refine con_mk (wr := false) (ty := tyL tys_) (l := L_slices_IndexFunc_impl_Symbol_impl_Symbol) ⟨⟨ok_impl_globalOf_1, det_impl_globalOf_1⟩, trivial⟩ Try.checked.mixed (fn := Try.f100) (body := Try.f100.body.getD .skip) Try.func100 rfl (by decide) (by kernel_rfl) rfl an_slices_IndexFunc_impl_Symbol_impl_Symbol fun x ho hx => ?_
  obtain ⟨l, f, ⟨⟩⟩ := x
  refine Keeps.of (vc_slices_IndexFunc_impl_Symbol_impl_Symbol l f) ?_
  revert l f ho hx
  show ∀ (l : List (Sym)) (f : (ByteArray) × (Unit)), _
  intro l f ho hx
  dsimp only [C_slices_IndexFunc_impl_Symbol_impl_Symbol, okPTL, okPT, Ok, Ty.cells, SN.cells, OkL, OkC, okI, ci, cb, cs, cl] at ho
  dsimp only [C_slices_IndexFunc_impl_Symbol_impl_Symbol, vc, v1, decB, SR.pre] at hx
  (try delta i64 LN); simp only [VBt]; (repeat' first | intro _ | apply And.intro); all_goals (try omega); all_goals (try have hdr := drop_get' (l := l) (by assumption) (by assumption)); all_goals grind [globIx, drop_end]
def C_impl_globalOf : Con := { ps := [.ro (.list (.st .sym)), .ro .str], out := fun x => let l : List (Sym) := x.1; let name : ByteArray := x.2.1; vc .i (globIx name l 0), det := true }
abbrev L_impl_globalOf : List (Nat × Con) := [(101, C_impl_globalOf_1), (100, C_slices_IndexFunc_impl_Symbol_impl_Symbol)]
def G_impl_globalOf : Cfg := mkG (tyL tys_) L_impl_globalOf false
def an_impl_globalOf : PTL C_impl_globalOf.ps → Nat → Option Ann := fun _ _ => none
set_option maxRecDepth 200000 in
theorem vc_impl_globalOf (l : List (Sym)) (name : ByteArray) : (keeps Try.prog G_impl_globalOf (an_impl_globalOf (l, name, ())) (Try.f67.body.getD .skip) Try.f67.results.toList C_impl_globalOf (l, name, ())) = ((((globIx name l (0 : Int)) = (globIx name l (0 : Int))) ∧
 True)) := by kernel_rfl
theorem det_impl_globalOf : C_impl_globalOf.det = true → ∀ x, (C_impl_globalOf.out x).Det := fun _ _ => Det.vc'
set_option maxRecDepth 200000 in
set_option maxHeartbeats 4000000 in
theorem ok_impl_globalOf : ConOK Try.prog 67 C_impl_globalOf := by
  refine con_mk (wr := false) (ty := tyL tys_) (l := L_impl_globalOf) ⟨⟨ok_impl_globalOf_1, det_impl_globalOf_1⟩, ⟨⟨ok_slices_IndexFunc_impl_Symbol_impl_Symbol, det_slices_IndexFunc_impl_Symbol_impl_Symbol⟩, trivial⟩⟩ Try.checked.mixed (fn := Try.f67) (body := Try.f67.body.getD .skip) Try.func67 rfl (by decide) (by kernel_rfl) rfl an_impl_globalOf fun x ho hx => ?_
  obtain ⟨l, name, ⟨⟩⟩ := x
  refine Keeps.of (vc_impl_globalOf l name) ?_
  revert l name ho hx
  show ∀ (l : List (Sym)) (name : ByteArray), _
  intro l name ho hx
  dsimp only [C_impl_globalOf, okPTL, okPT, Ok, Ty.cells, SN.cells, OkL, OkC, okI, ci, cb, cs, cl] at ho
  dsimp only [C_impl_globalOf, vc, v1, decB, SR.pre] at hx
  (try delta i64 LN); simp only [VBt]; (repeat' first | intro _ | apply And.intro); all_goals (try omega); all_goals grind
def C_impl_ObjectValid : Con := { ps := [.ro (.st .obj)], out := fun x => let o : Objt := x.1; vc .bool (objB o), det := true }
abbrev L_impl_ObjectValid : List (Nat × Con) := [(65, C_impl_SectionValid), (66, C_impl_SymbolValid), (67, C_impl_globalOf)]
def G_impl_ObjectValid : Cfg := mkG (tyL tys_) L_impl_ObjectValid false
def an_impl_ObjectValid : PTL C_impl_ObjectValid.ps → Nat → Option Ann := fun x kk_ => let o : Objt := x.1; if kk_ = 4 then some (.all (Int) fun i => .giv ((o.sects.length : Int) ≤ 8 ∧ (o.syms.length : Int) ≤ 12 ∧ 0 ≤ i ∧ i ≤ o.sects.length ∧ o.sects.all (fun s => secB s o.syms.length) = (o.sects.drop i.toNat).all (fun s => secB s o.syms.length)) (.mk [(20, ai i), (18, al (.st .sect) o.sects), (19, ai o.sects.length), (1, aref 61)] [(61, bx (ast .obj o))] ((o.sects.length - i.toNat)))) else if kk_ = 10 then some (.all (Int) fun i => .giv ((o.sects.length : Int) ≤ 8 ∧ (o.syms.length : Int) ≤ 12 ∧ o.sects.all (fun s => secB s o.syms.length) = true ∧ 0 ≤ i ∧ i ≤ o.syms.length ∧ symsB o.sects [] o.syms = symsB o.sects (o.syms.take i.toNat) (o.syms.drop i.toNat)) (.mk [(34, ai i), (32, al (.st .sym) o.syms), (33, ai o.syms.length), (1, aref 61)] [(61, bx (ast .obj o))] ((o.syms.length - i.toNat)))) else none
set_option maxRecDepth 200000 in
theorem vc_impl_ObjectValid (o : Objt) : (keeps Try.prog G_impl_ObjectValid (an_impl_ObjectValid (o, ())) (Try.f36.body.getD .skip) Try.f36.results.toList C_impl_ObjectValid (o, ())) = ((((List.length (Objt.sects o)) ≤ 9223372036854775807) →
 ((((decide (8 < (LN (Objt.sects o)))) = true) →
 ((false = (objB o)) ∧
 True)) ∧
 (((decide (8 < (LN (Objt.sects o)))) = false) →
 (((List.length (Objt.syms o)) ≤ 9223372036854775807) →
 ((((decide (12 < (LN (Objt.syms o)))) = true) →
 ((false = (objB o)) ∧
 True)) ∧
 (((decide (12 < (LN (Objt.syms o)))) = false) →
 (((List.length (Objt.sects o)) ≤ 9223372036854775807) →
 ((∃ (x_1 : Int), ((0 = x_1) ∧
 ((@Eq (List Sect) (Objt.sects o) (Objt.sects o)) ∧
 (((LN (Objt.sects o)) = (LN (Objt.sects o))) ∧
 ((@Eq (List Sect) (Objt.sects o) (Objt.sects o)) ∧
 ((@Eq (List Sym) (Objt.syms o) (Objt.syms o)) ∧
 ((((LN (Objt.sects o)) ≤ 8) ∧
 (((LN (Objt.syms o)) ≤ 12) ∧
 ((0 ≤ x_1) ∧
 ((x_1 ≤ (LN (Objt.sects o))) ∧
 ((@List.all Sect (Objt.sects o) (fun (s_2 : Sect) => (secB s_2 (LN (Objt.syms o))))) = (@List.all Sect (List.drop (Int.toNat x_1) (Objt.sects o)) (fun (s_3 : Sect) => (secB s_3 (LN (Objt.syms o)))))))))) ∧
 True))))))) ∧
 (∀ (x_4 : Int), ((((LN (Objt.sects o)) ≤ 8) ∧
 (((LN (Objt.syms o)) ≤ 12) ∧
 ((0 ≤ x_4) ∧
 ((x_4 ≤ (LN (Objt.sects o))) ∧
 ((@List.all Sect (Objt.sects o) (fun (s_5 : Sect) => (secB s_5 (LN (Objt.syms o))))) = (@List.all Sect (List.drop (Int.toNat x_4) (Objt.sects o)) (fun (s_6 : Sect) => (secB s_6 (LN (Objt.syms o)))))))))) →
 ((((decide (x_4 < (LN (Objt.sects o)))) = true) →
 (((0 ≤ x_4) ∧
 (x_4 < (LN (Objt.sects o)))) ∧
 (∀ (x_7 : Sect), ((@Eq (Option Sect) ((Objt.sects o))[(Int.toNat x_4)]? (some x_7)) →
 ((Ok (Ty.st SN.sect) x_7) →
 (((List.length (Objt.syms o)) ≤ 9223372036854775807) →
 ((((Bool.not (secB x_7 (LN (Objt.syms o)))) = true) →
 ((false = (objB o)) ∧
 True)) ∧
 (((Bool.not (secB x_7 (LN (Objt.syms o)))) = false) →
 ((i64 (x_4 + (1 : Int))) ∧
 (∃ (x_8 : Int), (((x_4 + (1 : Int)) = x_8) ∧
 ((@Eq (List Sect) (Objt.sects o) (Objt.sects o)) ∧
 (((LN (Objt.sects o)) = (LN (Objt.sects o))) ∧
 ((@Eq (List Sect) (Objt.sects o) (Objt.sects o)) ∧
 ((@Eq (List Sym) (Objt.syms o) (Objt.syms o)) ∧
 ((((LN (Objt.sects o)) ≤ 8) ∧
 (((LN (Objt.syms o)) ≤ 12) ∧
 ((0 ≤ x_8) ∧
 ((x_8 ≤ (LN (Objt.sects o))) ∧
 ((@List.all Sect (Objt.sects o) (fun (s_9 : Sect) => (secB s_9 (LN (Objt.syms o))))) = (@List.all Sect (List.drop (Int.toNat x_8) (Objt.sects o)) (fun (s_10 : Sect) => (secB s_10 (LN (Objt.syms o)))))))))) ∧
 (((List.length (Objt.sects o)) - (Int.toNat x_8)) < ((List.length (Objt.sects o)) - (Int.toNat x_4))))))))))))))))))) ∧
 (((decide (x_4 < (LN (Objt.sects o)))) = false) →
 (((List.length (Objt.syms o)) ≤ 9223372036854775807) →
 ((∃ (x_11 : Int), ((0 = x_11) ∧
 ((@Eq (List Sym) (Objt.syms o) (Objt.syms o)) ∧
 (((LN (Objt.syms o)) = (LN (Objt.syms o))) ∧
 ((@Eq (List Sect) (Objt.sects o) (Objt.sects o)) ∧
 ((@Eq (List Sym) (Objt.syms o) (Objt.syms o)) ∧
 ((((LN (Objt.sects o)) ≤ 8) ∧
 (((LN (Objt.syms o)) ≤ 12) ∧
 (((@List.all Sect (Objt.sects o) (fun (s_12 : Sect) => (secB s_12 (LN (Objt.syms o))))) = true) ∧
 ((0 ≤ x_11) ∧
 ((x_11 ≤ (LN (Objt.syms o))) ∧
 ((symsB (Objt.sects o) ([] : List Sym) (Objt.syms o)) = (symsB (Objt.sects o) (List.take (Int.toNat x_11) (Objt.syms o)) (List.drop (Int.toNat x_11) (Objt.syms o))))))))) ∧
 True))))))) ∧
 (∀ (x_13 : Int), ((((LN (Objt.sects o)) ≤ 8) ∧
 (((LN (Objt.syms o)) ≤ 12) ∧
 (((@List.all Sect (Objt.sects o) (fun (s_14 : Sect) => (secB s_14 (LN (Objt.syms o))))) = true) ∧
 ((0 ≤ x_13) ∧
 ((x_13 ≤ (LN (Objt.syms o))) ∧
 ((symsB (Objt.sects o) ([] : List Sym) (Objt.syms o)) = (symsB (Objt.sects o) (List.take (Int.toNat x_13) (Objt.syms o)) (List.drop (Int.toNat x_13) (Objt.syms o))))))))) →
 ((((decide (x_13 < (LN (Objt.syms o)))) = true) →
 (((0 ≤ x_13) ∧
 (x_13 < (LN (Objt.syms o)))) ∧
 (∀ (x_15 : Sym), ((@Eq (Option Sym) ((Objt.syms o))[(Int.toNat x_13)]? (some x_15)) →
 ((Ok (Ty.st SN.sym) x_15) →
 ((((Bool.not (symB x_15 (Objt.sects o))) = true) →
 ((false = (objB o)) ∧
 True)) ∧
 (((Bool.not (symB x_15 (Objt.sects o))) = false) →
 ((((decide ((Sym.bind x_15) ≠ 0)) = true) →
 (((0 ≤ x_13) ∧
 (x_13 ≤ (LN (Objt.syms o)))) ∧
 ((((decide (0 ≤ (globIx (Sym.name x_15) (List.take ((Int.toNat x_13) - 0) (List.drop (0 : Nat) (Objt.syms o))) (0 : Int)))) = true) →
 ((false = (objB o)) ∧
 True)) ∧
 (((decide (0 ≤ (globIx (Sym.name x_15) (List.take ((Int.toNat x_13) - 0) (List.drop (0 : Nat) (Objt.syms o))) (0 : Int)))) = false) →
 ((i64 (x_13 + (1 : Int))) ∧
 (∃ (x_16 : Int), (((x_13 + (1 : Int)) = x_16) ∧
 ((@Eq (List Sym) (Objt.syms o) (Objt.syms o)) ∧
 (((LN (Objt.syms o)) = (LN (Objt.syms o))) ∧
 ((@Eq (List Sect) (Objt.sects o) (Objt.sects o)) ∧
 ((@Eq (List Sym) (Objt.syms o) (Objt.syms o)) ∧
 ((((LN (Objt.sects o)) ≤ 8) ∧
 (((LN (Objt.syms o)) ≤ 12) ∧
 (((@List.all Sect (Objt.sects o) (fun (s_17 : Sect) => (secB s_17 (LN (Objt.syms o))))) = true) ∧
 ((0 ≤ x_16) ∧
 ((x_16 ≤ (LN (Objt.syms o))) ∧
 ((symsB (Objt.sects o) ([] : List Sym) (Objt.syms o)) = (symsB (Objt.sects o) (List.take (Int.toNat x_16) (Objt.syms o)) (List.drop (Int.toNat x_16) (Objt.syms o))))))))) ∧
 (((List.length (Objt.syms o)) - (Int.toNat x_16)) < ((List.length (Objt.syms o)) - (Int.toNat x_13))))))))))))))) ∧
 (((decide ((Sym.bind x_15) ≠ 0)) = false) →
 ((i64 (x_13 + (1 : Int))) ∧
 (∃ (x_18 : Int), (((x_13 + (1 : Int)) = x_18) ∧
 ((@Eq (List Sym) (Objt.syms o) (Objt.syms o)) ∧
 (((LN (Objt.syms o)) = (LN (Objt.syms o))) ∧
 ((@Eq (List Sect) (Objt.sects o) (Objt.sects o)) ∧
 ((@Eq (List Sym) (Objt.syms o) (Objt.syms o)) ∧
 ((((LN (Objt.sects o)) ≤ 8) ∧
 (((LN (Objt.syms o)) ≤ 12) ∧
 (((@List.all Sect (Objt.sects o) (fun (s_19 : Sect) => (secB s_19 (LN (Objt.syms o))))) = true) ∧
 ((0 ≤ x_18) ∧
 ((x_18 ≤ (LN (Objt.syms o))) ∧
 ((symsB (Objt.sects o) ([] : List Sym) (Objt.syms o)) = (symsB (Objt.sects o) (List.take (Int.toNat x_18) (Objt.syms o)) (List.drop (Int.toNat x_18) (Objt.syms o))))))))) ∧
 (((List.length (Objt.syms o)) - (Int.toNat x_18)) < ((List.length (Objt.syms o)) - (Int.toNat x_13)))))))))))))))))))) ∧
 (((decide (x_13 < (LN (Objt.syms o)))) = false) →
 ((true = (objB o)) ∧
 True)))))))))))))))))))) := by kernel_rfl
theorem det_impl_ObjectValid : C_impl_ObjectValid.det = true → ∀ x, (C_impl_ObjectValid.out x).Det := fun _ _ => Det.vc'
set_option maxRecDepth 200000 in
set_option maxHeartbeats 4000000 in
theorem ok_impl_ObjectValid : ConOK Try.prog 36 C_impl_ObjectValid := by
  refine con_mk (wr := false) (ty := tyL tys_) (l := L_impl_ObjectValid) ⟨⟨ok_impl_SectionValid, det_impl_SectionValid⟩, ⟨⟨ok_impl_SymbolValid, det_impl_SymbolValid⟩, ⟨⟨ok_impl_globalOf, det_impl_globalOf⟩, trivial⟩⟩⟩ Try.checked.mixed (fn := Try.f36) (body := Try.f36.body.getD .skip) Try.func36 rfl (by decide) (by kernel_rfl) rfl an_impl_ObjectValid fun x ho hx => ?_
  obtain ⟨o, ⟨⟩⟩ := x
  refine Keeps.of (vc_impl_ObjectValid o) ?_
  revert o ho hx
  show ∀ (o : Objt), _
  intro o ho hx
  dsimp only [C_impl_ObjectValid, okPTL, okPT, Ok, Ty.cells, SN.cells, OkL, OkC, okI, ci, cb, cs, cl] at ho
  dsimp only [C_impl_ObjectValid, vc, v1, decB, SR.pre] at hx
  (try delta i64 LN); simp only [VBt]; (repeat' first | intro _ | apply And.intro); all_goals (try omega)
  all_goals (try grind [objB, symsB_at, symsB_end, all_at, all_end, newSym_glob])
def C_spec_ObjectValid : Con := { ps := [.ro (.st .obj)], out := fun x => let o : Objt := x.1; vc .bool (objB o), det := true }
abbrev L_spec_ObjectValid : List (Nat × Con) := [(69, C_spec_SectionValid), (70, C_spec_SymbolValid)]
def G_spec_ObjectValid : Cfg := mkG (tyL tys_) L_spec_ObjectValid false
def an_spec_ObjectValid : PTL C_spec_ObjectValid.ps → Nat → Option Ann := fun x kk_ => let o : Objt := x.1; if kk_ = 2 then some (.all (Int) fun i => .giv (0 ≤ i ∧ i ≤ o.sects.length ∧ o.sects.all (fun s => secB s o.syms.length) = (o.sects.drop i.toNat).all (fun s => secB s o.syms.length)) (.mk [(3, ai i), (1, aref 61)] [(61, bx (ast .obj o))] ((o.sects.length - i.toNat)))) else if kk_ = 7 then some (.all (Int) fun i => .giv (o.sects.all (fun s => secB s o.syms.length) = true ∧ 0 ≤ i ∧ i ≤ o.syms.length ∧ symsB o.sects [] o.syms = symsB o.sects (o.syms.take i.toNat) (o.syms.drop i.toNat)) (.mk [(4, ai i), (1, aref 61)] [(61, bx (ast .obj o))] ((o.syms.length - i.toNat)))) else if kk_ = 2012 then some (.all (Int) fun i => .all (Int) fun j => .giv (o.sects.all (fun s => secB s o.syms.length) = true ∧ 0 ≤ i ∧ i < o.syms.length ∧ 0 ≤ j ∧ j ≤ i ∧ symsB o.sects [] o.syms = symsB o.sects (o.syms.take i.toNat) (o.syms.drop i.toNat) ∧ (∀ s, o.syms[i.toNat]? = some s → symB s o.sects = true ∧ newSym s (o.syms.take j.toNat) = true)) (.mk [(4, ai i), (5, ai j), (1, aref 61)] [(61, bx (ast .obj o))] ((o.syms.length - i.toNat) * (o.syms.length + 1) + (i - j).toNat))) else none
set_option maxRecDepth 200000 in
theorem vc_spec_ObjectValid (o : Objt) : (keeps Try.prog G_spec_ObjectValid (an_spec_ObjectValid (o, ())) (Try.f39.body.getD .skip) Try.f39.results.toList C_spec_ObjectValid (o, ())) = (((∃ (x_1 : Int), ((0 = x_1) ∧
 ((@Eq (List Sect) (Objt.sects o) (Objt.sects o)) ∧
 ((@Eq (List Sym) (Objt.syms o) (Objt.syms o)) ∧
 (((0 ≤ x_1) ∧
 ((x_1 ≤ (LN (Objt.sects o))) ∧
 ((@List.all Sect (Objt.sects o) (fun (s_2 : Sect) => (secB s_2 (LN (Objt.syms o))))) = (@List.all Sect (List.drop (Int.toNat x_1) (Objt.sects o)) (fun (s_3 : Sect) => (secB s_3 (LN (Objt.syms o)))))))) ∧
 True))))) ∧
 (∀ (x_4 : Int), (((0 ≤ x_4) ∧
 ((x_4 ≤ (LN (Objt.sects o))) ∧
 ((@List.all Sect (Objt.sects o) (fun (s_5 : Sect) => (secB s_5 (LN (Objt.syms o))))) = (@List.all Sect (List.drop (Int.toNat x_4) (Objt.sects o)) (fun (s_6 : Sect) => (secB s_6 (LN (Objt.syms o)))))))) →
 (((List.length (Objt.sects o)) ≤ 9223372036854775807) →
 ((((decide (x_4 < (LN (Objt.sects o)))) = true) →
 (((0 ≤ x_4) ∧
 (x_4 < (LN (Objt.sects o)))) ∧
 (∀ (x_7 : Sect), ((@Eq (Option Sect) ((Objt.sects o))[(Int.toNat x_4)]? (some x_7)) →
 ((Ok (Ty.st SN.sect) x_7) →
 (((List.length (Objt.syms o)) ≤ 9223372036854775807) →
 ((((Bool.not (secB x_7 (LN (Objt.syms o)))) = true) →
 ((false = (objB o)) ∧
 True)) ∧
 (((Bool.not (secB x_7 (LN (Objt.syms o)))) = false) →
 ((i64 (x_4 + (1 : Int))) ∧
 (∃ (x_8 : Int), (((x_4 + (1 : Int)) = x_8) ∧
 ((@Eq (List Sect) (Objt.sects o) (Objt.sects o)) ∧
 ((@Eq (List Sym) (Objt.syms o) (Objt.syms o)) ∧
 (((0 ≤ x_8) ∧
 ((x_8 ≤ (LN (Objt.sects o))) ∧
 ((@List.all Sect (Objt.sects o) (fun (s_9 : Sect) => (secB s_9 (LN (Objt.syms o))))) = (@List.all Sect (List.drop (Int.toNat x_8) (Objt.sects o)) (fun (s_10 : Sect) => (secB s_10 (LN (Objt.syms o)))))))) ∧
 (((List.length (Objt.sects o)) - (Int.toNat x_8)) < ((List.length (Objt.sects o)) - (Int.toNat x_4))))))))))))))))) ∧
 (((decide (x_4 < (LN (Objt.sects o)))) = false) →
 ((∃ (x_11 : Int), ((0 = x_11) ∧
 ((@Eq (List Sect) (Objt.sects o) (Objt.sects o)) ∧
 ((@Eq (List Sym) (Objt.syms o) (Objt.syms o)) ∧
 ((((@List.all Sect (Objt.sects o) (fun (s_12 : Sect) => (secB s_12 (LN (Objt.syms o))))) = true) ∧
 ((0 ≤ x_11) ∧
 ((x_11 ≤ (LN (Objt.syms o))) ∧
 ((symsB (Objt.sects o) ([] : List Sym) (Objt.syms o)) = (symsB (Objt.sects o) (List.take (Int.toNat x_11) (Objt.syms o)) (List.drop (Int.toNat x_11) (Objt.syms o))))))) ∧
 True))))) ∧
 (∀ (x_13 : Int), ((((@List.all Sect (Objt.sects o) (fun (s_14 : Sect) => (secB s_14 (LN (Objt.syms o))))) = true) ∧
 ((0 ≤ x_13) ∧
 ((x_13 ≤ (LN (Objt.syms o))) ∧
 ((symsB (Objt.sects o) ([] : List Sym) (Objt.syms o)) = (symsB (Objt.sects o) (List.take (Int.toNat x_13) (Objt.syms o)) (List.drop (Int.toNat x_13) (Objt.syms o))))))) →
 (((List.length (Objt.syms o)) ≤ 9223372036854775807) →
 ((((decide (x_13 < (LN (Objt.syms o)))) = true) →
 (((0 ≤ x_13) ∧
 (x_13 < (LN (Objt.syms o)))) ∧
 (∀ (x_15 : Sym), ((@Eq (Option Sym) ((Objt.syms o))[(Int.toNat x_13)]? (some x_15)) →
 ((Ok (Ty.st SN.sym) x_15) →
 ((((Bool.not (symB x_15 (Objt.sects o))) = true) →
 ((false = (objB o)) ∧
 True)) ∧
 (((Bool.not (symB x_15 (Objt.sects o))) = false) →
 (∃ (x_16 : Int), (∃ (x_17 : Int), ((x_13 = x_16) ∧
 ((0 = x_17) ∧
 ((@Eq (List Sect) (Objt.sects o) (Objt.sects o)) ∧
 ((@Eq (List Sym) (Objt.syms o) (Objt.syms o)) ∧
 ((((@List.all Sect (Objt.sects o) (fun (s_18 : Sect) => (secB s_18 (LN (Objt.syms o))))) = true) ∧
 ((0 ≤ x_16) ∧
 ((x_16 < (LN (Objt.syms o))) ∧
 ((0 ≤ x_17) ∧
 ((x_17 ≤ x_16) ∧
 (((symsB (Objt.sects o) ([] : List Sym) (Objt.syms o)) = (symsB (Objt.sects o) (List.take (Int.toNat x_16) (Objt.syms o)) (List.drop (Int.toNat x_16) (Objt.syms o)))) ∧
 (∀ (s_19 : Sym), ((@Eq (Option Sym) ((Objt.syms o))[(Int.toNat x_16)]? (some s_19)) →
 (((symB s_19 (Objt.sects o)) = true) ∧
 ((newSym s_19 (List.take (Int.toNat x_17) (Objt.syms o))) = true)))))))))) ∧
 (∀ (x_20 : Int), (∀ (x_21 : Int), ((((@List.all Sect (Objt.sects o) (fun (s_22 : Sect) => (secB s_22 (LN (Objt.syms o))))) = true) ∧
 ((0 ≤ x_20) ∧
 ((x_20 < (LN (Objt.syms o))) ∧
 ((0 ≤ x_21) ∧
 ((x_21 ≤ x_20) ∧
 (((symsB (Objt.sects o) ([] : List Sym) (Objt.syms o)) = (symsB (Objt.sects o) (List.take (Int.toNat x_20) (Objt.syms o)) (List.drop (Int.toNat x_20) (Objt.syms o)))) ∧
 (∀ (s_23 : Sym), ((@Eq (Option Sym) ((Objt.syms o))[(Int.toNat x_20)]? (some s_23)) →
 (((symB s_23 (Objt.sects o)) = true) ∧
 ((newSym s_23 (List.take (Int.toNat x_21) (Objt.syms o))) = true)))))))))) →
 ((((((List.length (Objt.syms o)) - (Int.toNat x_20)) * ((List.length (Objt.syms o)) + 1)) + (Int.toNat (x_20 - x_21))) ≤ ((((List.length (Objt.syms o)) - (Int.toNat x_16)) * ((List.length (Objt.syms o)) + 1)) + (Int.toNat (x_16 - x_17)))) →
 ((((decide (x_21 < x_20)) = true) →
 (((0 ≤ x_21) ∧
 (x_21 < (LN (Objt.syms o)))) ∧
 (∀ (x_24 : Sym), ((@Eq (Option Sym) ((Objt.syms o))[(Int.toNat x_21)]? (some x_24)) →
 ((Ok (Ty.st SN.sym) x_24) →
 (((0 ≤ x_20) ∧
 (x_20 < (LN (Objt.syms o)))) ∧
 (∀ (x_25 : Sym), ((@Eq (Option Sym) ((Objt.syms o))[(Int.toNat x_20)]? (some x_25)) →
 ((Ok (Ty.st SN.sym) x_25) →
 ((((decide (@Eq ByteArray (Sym.name x_24) (Sym.name x_25))) = true) →
 (((0 ≤ x_21) ∧
 (x_21 < (LN (Objt.syms o)))) ∧
 (∀ (x_26 : Sym), ((@Eq (Option Sym) ((Objt.syms o))[(Int.toNat x_21)]? (some x_26)) →
 ((Ok (Ty.st SN.sym) x_26) →
 ((((decide ((Sym.bind x_26) ≠ 0)) = true) →
 (((0 ≤ x_20) ∧
 (x_20 < (LN (Objt.syms o)))) ∧
 (∀ (x_27 : Sym), ((@Eq (Option Sym) ((Objt.syms o))[(Int.toNat x_20)]? (some x_27)) →
 ((Ok (Ty.st SN.sym) x_27) →
 ((((decide ((Sym.bind x_27) ≠ 0)) = true) →
 ((false = (objB o)) ∧
 True)) ∧
 (((decide ((Sym.bind x_27) ≠ 0)) = false) →
 ((i64 (x_21 + (1 : Int))) ∧
 (∃ (x_28 : Int), (∃ (x_29 : Int), ((x_20 = x_28) ∧
 (((x_21 + (1 : Int)) = x_29) ∧
 ((@Eq (List Sect) (Objt.sects o) (Objt.sects o)) ∧
 ((@Eq (List Sym) (Objt.syms o) (Objt.syms o)) ∧
 ((((@List.all Sect (Objt.sects o) (fun (s_30 : Sect) => (secB s_30 (LN (Objt.syms o))))) = true) ∧
 ((0 ≤ x_28) ∧
 ((x_28 < (LN (Objt.syms o))) ∧
 ((0 ≤ x_29) ∧
 ((x_29 ≤ x_28) ∧
 (((symsB (Objt.sects o) ([] : List Sym) (Objt.syms o)) = (symsB (Objt.sects o) (List.take (Int.toNat x_28) (Objt.syms o)) (List.drop (Int.toNat x_28) (Objt.syms o)))) ∧
 (∀ (s_31 : Sym), ((@Eq (Option Sym) ((Objt.syms o))[(Int.toNat x_28)]? (some s_31)) →
 (((symB s_31 (Objt.sects o)) = true) ∧
 ((newSym s_31 (List.take (Int.toNat x_29) (Objt.syms o))) = true)))))))))) ∧
 (((((List.length (Objt.syms o)) - (Int.toNat x_28)) * ((List.length (Objt.syms o)) + 1)) + (Int.toNat (x_28 - x_29))) < ((((List.length (Objt.syms o)) - (Int.toNat x_20)) * ((List.length (Objt.syms o)) + 1)) + (Int.toNat (x_20 - x_21))))))))))))))))))) ∧
 (((decide ((Sym.bind x_26) ≠ 0)) = false) →
 ((i64 (x_21 + (1 : Int))) ∧
 (∃ (x_32 : Int), (∃ (x_33 : Int), ((x_20 = x_32) ∧
 (((x_21 + (1 : Int)) = x_33) ∧
 ((@Eq (List Sect) (Objt.sects o) (Objt.sects o)) ∧
 ((@Eq (List Sym) (Objt.syms o) (Objt.syms o)) ∧
 ((((@List.all Sect (Objt.sects o) (fun (s_34 : Sect) => (secB s_34 (LN (Objt.syms o))))) = true) ∧
 ((0 ≤ x_32) ∧
 ((x_32 < (LN (Objt.syms o))) ∧
 ((0 ≤ x_33) ∧
 ((x_33 ≤ x_32) ∧
 (((symsB (Objt.sects o) ([] : List Sym) (Objt.syms o)) = (symsB (Objt.sects o) (List.take (Int.toNat x_32) (Objt.syms o)) (List.drop (Int.toNat x_32) (Objt.syms o)))) ∧
 (∀ (s_35 : Sym), ((@Eq (Option Sym) ((Objt.syms o))[(Int.toNat x_32)]? (some s_35)) →
 (((symB s_35 (Objt.sects o)) = true) ∧
 ((newSym s_35 (List.take (Int.toNat x_33) (Objt.syms o))) = true)))))))))) ∧
 (((((List.length (Objt.syms o)) - (Int.toNat x_32)) * ((List.length (Objt.syms o)) + 1)) + (Int.toNat (x_32 - x_33))) < ((((List.length (Objt.syms o)) - (Int.toNat x_20)) * ((List.length (Objt.syms o)) + 1)) + (Int.toNat (x_20 - x_21))))))))))))))))))) ∧
 (((decide (@Eq ByteArray (Sym.name x_24) (Sym.name x_25))) = false) →
 ((i64 (x_21 + (1 : Int))) ∧
 (∃ (x_36 : Int), (∃ (x_37 : Int), ((x_20 = x_36) ∧
 (((x_21 + (1 : Int)) = x_37) ∧
 ((@Eq (List Sect) (Objt.sects o) (Objt.sects o)) ∧
 ((@Eq (List Sym) (Objt.syms o) (Objt.syms o)) ∧
 ((((@List.all Sect (Objt.sects o) (fun (s_38 : Sect) => (secB s_38 (LN (Objt.syms o))))) = true) ∧
 ((0 ≤ x_36) ∧
 ((x_36 < (LN (Objt.syms o))) ∧
 ((0 ≤ x_37) ∧
 ((x_37 ≤ x_36) ∧
 (((symsB (Objt.sects o) ([] : List Sym) (Objt.syms o)) = (symsB (Objt.sects o) (List.take (Int.toNat x_36) (Objt.syms o)) (List.drop (Int.toNat x_36) (Objt.syms o)))) ∧
 (∀ (s_39 : Sym), ((@Eq (Option Sym) ((Objt.syms o))[(Int.toNat x_36)]? (some s_39)) →
 (((symB s_39 (Objt.sects o)) = true) ∧
 ((newSym s_39 (List.take (Int.toNat x_37) (Objt.syms o))) = true)))))))))) ∧
 (((((List.length (Objt.syms o)) - (Int.toNat x_36)) * ((List.length (Objt.syms o)) + 1)) + (Int.toNat (x_36 - x_37))) < ((((List.length (Objt.syms o)) - (Int.toNat x_20)) * ((List.length (Objt.syms o)) + 1)) + (Int.toNat (x_20 - x_21))))))))))))))))))))))) ∧
 (((decide (x_21 < x_20)) = false) →
 ((i64 (x_20 + (1 : Int))) ∧
 (∃ (x_40 : Int), (((x_20 + (1 : Int)) = x_40) ∧
 ((@Eq (List Sect) (Objt.sects o) (Objt.sects o)) ∧
 ((@Eq (List Sym) (Objt.syms o) (Objt.syms o)) ∧
 ((((@List.all Sect (Objt.sects o) (fun (s_41 : Sect) => (secB s_41 (LN (Objt.syms o))))) = true) ∧
 ((0 ≤ x_40) ∧
 ((x_40 ≤ (LN (Objt.syms o))) ∧
 ((symsB (Objt.sects o) ([] : List Sym) (Objt.syms o)) = (symsB (Objt.sects o) (List.take (Int.toNat x_40) (Objt.syms o)) (List.drop (Int.toNat x_40) (Objt.syms o))))))) ∧
 (((List.length (Objt.syms o)) - (Int.toNat x_40)) < ((List.length (Objt.syms o)) - (Int.toNat x_13))))))))))))))))))))))))))))) ∧
 (((decide (x_13 < (LN (Objt.syms o)))) = false) →
 (((List.length (Objt.sects o)) ≤ 9223372036854775807) →
 ((((decide ((LN (Objt.sects o)) ≤ 8)) = true) →
 (((List.length (Objt.syms o)) ≤ 9223372036854775807) →
 (((decide ((LN (Objt.syms o)) ≤ 12)) = (objB o)) ∧
 True))) ∧
 (((decide ((LN (Objt.sects o)) ≤ 8)) = false) →
 ((false = (objB o)) ∧
 True))))))))))))))))) := by kernel_rfl
theorem det_spec_ObjectValid : C_spec_ObjectValid.det = true → ∀ x, (C_spec_ObjectValid.out x).Det := fun _ _ => Det.vc'
set_option maxRecDepth 200000 in
set_option maxHeartbeats 4000000 in
theorem ok_spec_ObjectValid : ConOK Try.prog 39 C_spec_ObjectValid := by
  refine con_mk (wr := false) (ty := tyL tys_) (l := L_spec_ObjectValid) ⟨⟨ok_spec_SectionValid, det_spec_SectionValid⟩, ⟨⟨ok_spec_SymbolValid, det_spec_SymbolValid⟩, trivial⟩⟩ Try.checked.mixed (fn := Try.f39) (body := Try.f39.body.getD .skip) Try.func39 rfl (by decide) (by kernel_rfl) rfl an_spec_ObjectValid fun x ho hx => ?_
  obtain ⟨o, ⟨⟩⟩ := x
  refine Keeps.of (vc_spec_ObjectValid o) ?_
  revert o ho hx
  show ∀ (o : Objt), _
  intro o ho hx
  dsimp only [C_spec_ObjectValid, okPTL, okPT, Ok, Ty.cells, SN.cells, OkL, OkC, okI, ci, cb, cs, cl] at ho
  dsimp only [C_spec_ObjectValid, vc, v1, decB, SR.pre] at hx
  have hl : ∀ (i i0 j : Int), 0 ≤ i → i < o.syms.length → 0 ≤ i0 → i0 < o.syms.length → (o.syms.length - i.toNat) * (o.syms.length + 1) + (i - j).toNat ≤ (o.syms.length - i0.toNat) * (o.syms.length + 1) + (i0 - 0).toNat → o.syms.length - (i + 1).toNat < o.syms.length - i0.toNat := fun i i0 j h1 h2 h3 h4 h => by
    have := lex_le h (by omega)
    omega
  (try delta i64 LN); simp only [VBt]; (repeat' first | intro _ | apply And.intro); all_goals (try omega)
  all_goals (try grind [objB, symsB_at, symsB_end, all_at, all_end, newSym_next, newSym_bad, newSym_zero])
def C_impl_allValid_1 : Con := { ps := [.ro (.st .obj)], out := fun x => let o : Objt := x.1; vc .bool (!objB o), det := true }
abbrev L_impl_allValid_1 : List (Nat × Con) := [(36, C_impl_ObjectValid)]
def G_impl_allValid_1 : Cfg := mkG (tyL tys_) L_impl_allValid_1 false
def an_impl_allValid_1 : PTL C_impl_allValid_1.ps → Nat → Option Ann := fun _ _ => none
set_option maxRecDepth 200000 in
theorem vc_impl_allValid_1 (o : Objt) : (keeps Try.prog G_impl_allValid_1 (an_impl_allValid_1 (o, ())) (Try.f108.body.getD .skip) Try.f108.results.toList C_impl_allValid_1 (o, ())) = ((((Bool.not (objB o)) = (Bool.not (objB o))) ∧
 True)) := by kernel_rfl
theorem det_impl_allValid_1 : C_impl_allValid_1.det = true → ∀ x, (C_impl_allValid_1.out x).Det := fun _ _ => Det.vc'
set_option maxRecDepth 200000 in
set_option maxHeartbeats 4000000 in
theorem ok_impl_allValid_1 : ConOK Try.prog 108 C_impl_allValid_1 := by
  refine con_mk (wr := false) (ty := tyL tys_) (l := L_impl_allValid_1) ⟨⟨ok_impl_ObjectValid, det_impl_ObjectValid⟩, trivial⟩ Try.checked.mixed (fn := Try.f108) (body := Try.f108.body.getD .skip) Try.func108 rfl (by decide) (by kernel_rfl) rfl an_impl_allValid_1 fun x ho hx => ?_
  obtain ⟨o, ⟨⟩⟩ := x
  refine Keeps.of (vc_impl_allValid_1 o) ?_
  revert o ho hx
  show ∀ (o : Objt), _
  intro o ho hx
  dsimp only [C_impl_allValid_1, okPTL, okPT, Ok, Ty.cells, SN.cells, OkL, OkC, okI, ci, cb, cs, cl] at ho
  dsimp only [C_impl_allValid_1, vc, v1, decB, SR.pre] at hx
  (try delta i64 LN); simp only [VBt]; (repeat' first | intro _ | apply And.intro); all_goals (try omega)
def C_slices_IndexFunc_impl_Object_impl_Object : Con := { ps := [.ro (.list (.st .obj)), .fn 108 []], out := fun x => let l : List (Objt) := x.1; let f : (Unit) := x.2.1; vc .i (ixF (fun o => !objB o) l 0), det := true }
abbrev L_slices_IndexFunc_impl_Object_impl_Object : List (Nat × Con) := [(108, C_impl_allValid_1)]
def G_slices_IndexFunc_impl_Object_impl_Object : Cfg := mkG (tyL tys_) L_slices_IndexFunc_impl_Object_impl_Object false
def an_slices_IndexFunc_impl_Object_impl_Object : PTL C_slices_IndexFunc_impl_Object_impl_Object.ps → Nat → Option Ann := fun x kk_ => let l : List (Objt) := x.1; let f : (Unit) := x.2.1; if kk_ = 2 then some (.all (Int) fun i => .giv (0 ≤ i ∧ i ≤ l.length ∧ ixF (fun o => !objB o) l 0 = ixF (fun o => !objB o) (l.drop i.toNat) i) (.mk [(1, .one (.fn 108 [])), (8, ai i), (0, al (.st .obj) l), (7, ai (List.length l))] [] ((l.length - i.toNat)))) else none
set_option maxRecDepth 200000 in
theorem vc_slices_IndexFunc_impl_Object_impl_Object (l : List (Objt)) (f : (Unit)) : (keeps Try.prog G_slices_IndexFunc_impl_Object_impl_Object (an_slices_IndexFunc_impl_Object_impl_Object (l, f, ())) (Try.f121.body.getD .skip) Try.f121.results.toList C_slices_IndexFunc_impl_Object_impl_Object (l, f, ())) = ((((List.length l) ≤ 9223372036854775807) →
 ((∃ (x_1 : Int), ((0 = x_1) ∧
 ((@Eq (List Objt) l l) ∧
 (((LN l) = (LN l)) ∧
 (((0 ≤ x_1) ∧
 ((x_1 ≤ (LN l)) ∧
 ((@ixF Objt (fun (o_2 : Objt) => (Bool.not (objB o_2))) l (0 : Int)) = (@ixF Objt (fun (o_3 : Objt) => (Bool.not (objB o_3))) (List.drop (Int.toNat x_1) l) x_1)))) ∧
 True))))) ∧
 (∀ (x_4 : Int), (((0 ≤ x_4) ∧
 ((x_4 ≤ (LN l)) ∧
 ((@ixF Objt (fun (o_5 : Objt) => (Bool.not (objB o_5))) l (0 : Int)) = (@ixF Objt (fun (o_6 : Objt) => (Bool.not (objB o_6))) (List.drop (Int.toNat x_4) l) x_4)))) →
 ((((decide (x_4 < (LN l))) = true) →
 (((0 ≤ x_4) ∧
 (x_4 < (LN l))) ∧
 (∀ (x_7 : Objt), ((@Eq (Option Objt) (l)[(Int.toNat x_4)]? (some x_7)) →
 ((Ok (Ty.st SN.obj) x_7) →
 ((((Bool.not (objB x_7)) = true) →
 ((x_4 = (@ixF Objt (fun (o_8 : Objt) => (Bool.not (objB o_8))) l (0 : Int))) ∧
 True)) ∧
 (((Bool.not (objB x_7)) = false) →
 ((i64 (x_4 + (1 : Int))) ∧
 (∃ (x_9 : Int), (((x_4 + (1 : Int)) = x_9) ∧
 ((@Eq (List Objt) l l) ∧
 (((LN l) = (LN l)) ∧
 (((0 ≤ x_9) ∧
 ((x_9 ≤ (LN l)) ∧
 ((@ixF Objt (fun (o_10 : Objt) => (Bool.not (objB o_10))) l (0 : Int)) = (@ixF Objt (fun (o_11 : Objt) => (Bool.not (objB o_11))) (List.drop (Int.toNat x_9) l) x_9)))) ∧
 (((List.length l) - (Int.toNat x_9)) < ((List.length l) - (Int.toNat x_4)))))))))))))))) ∧
 (((decide (x_4 < (LN l))) = false) →
 (((- (1 : Int)) = (@ixF Objt (fun (o_12 : Objt) => (Bool.not (objB o_12))) l (0 : Int))) ∧
 True)))))))) := by kernel_rfl
theorem det_slices_IndexFunc_impl_Object_impl_Object : C_slices_IndexFunc_impl_Object_impl_Object.det = true → ∀ x, (C_slices_IndexFunc_impl_Object_impl_Object.out x).Det := fun _ _ => Det.vc'
set_option maxRecDepth 200000 in
set_option maxHeartbeats 4000000 in
theorem ok_slices_IndexFunc_impl_Object_impl_Object : ConOK Try.prog 121 C_slices_IndexFunc_impl_Object_impl_Object := by
  refine con_mk (wr := false) (ty := tyL tys_) (l := L_slices_IndexFunc_impl_Object_impl_Object) ⟨⟨ok_impl_allValid_1, det_impl_allValid_1⟩, trivial⟩ Try.checked.mixed (fn := Try.f121) (body := Try.f121.body.getD .skip) Try.func121 rfl (by decide) (by kernel_rfl) rfl an_slices_IndexFunc_impl_Object_impl_Object fun x ho hx => ?_
  obtain ⟨l, f, ⟨⟩⟩ := x
  refine Keeps.of (vc_slices_IndexFunc_impl_Object_impl_Object l f) ?_
  revert l f ho hx
  show ∀ (l : List (Objt)) (f : (Unit)), _
  intro l f ho hx
  dsimp only [C_slices_IndexFunc_impl_Object_impl_Object, okPTL, okPT, Ok, Ty.cells, SN.cells, OkL, OkC, okI, ci, cb, cs, cl] at ho
  dsimp only [C_slices_IndexFunc_impl_Object_impl_Object, vc, v1, decB, SR.pre] at hx
  (try delta i64 LN); simp only [VBt]; (repeat' first | intro _ | apply And.intro); all_goals (try omega); all_goals (try have hdr := drop_get' (l := l) (by assumption) (by assumption)); all_goals grind [ixF, drop_end]
def C_slices_ContainsFunc_impl_Object_impl_Object : Con := { ps := [.ro (.list (.st .obj)), .fn 108 []], out := fun x => let l : List (Objt) := x.1; let f : (Unit) := x.2.1; vc .bool (!l.all objB), det := true }
abbrev L_slices_ContainsFunc_impl_Object_impl_Object : List (Nat × Con) := [(121, C_slices_IndexFunc_impl_Object_impl_Object)]
def G_slices_ContainsFunc_impl_Object_impl_Object : Cfg := mkG (tyL tys_) L_slices_ContainsFunc_impl_Object_impl_Object false
def an_slices_ContainsFunc_impl_Object_impl_Object : PTL C_slices_ContainsFunc_impl_Object_impl_Object.ps → Nat → Option Ann := fun _ _ => none
set_option maxRecDepth 200000 in
theorem vc_slices_ContainsFunc_impl_Object_impl_Object (l : List (Objt)) (f : (Unit)) : (keeps Try.prog G_slices_ContainsFunc_impl_Object_impl_Object (an_slices_ContainsFunc_impl_Object_impl_Object (l, f, ())) (Try.f107.body.getD .skip) Try.f107.results.toList C_slices_ContainsFunc_impl_Object_impl_Object (l, f, ())) = ((((decide (0 ≤ (@ixF Objt (fun (o_1 : Objt) => (Bool.not (objB o_1))) l (0 : Int)))) = (Bool.not (@List.all Objt l objB))) ∧
 True)) := by kernel_rfl
theorem det_slices_ContainsFunc_impl_Object_impl_Object : C_slices_ContainsFunc_impl_Object_impl_Object.det = true → ∀ x, (C_slices_ContainsFunc_impl_Object_impl_Object.out x).Det := fun _ _ => Det.vc'
set_option maxRecDepth 200000 in
set_option maxHeartbeats 4000000 in
theorem ok_slices_ContainsFunc_impl_Object_impl_Object : ConOK Try.prog 107 C_slices_ContainsFunc_impl_Object_impl_Object := by
  refine con_mk (wr := false) (ty := tyL tys_) (l := L_slices_ContainsFunc_impl_Object_impl_Object) ⟨⟨ok_slices_IndexFunc_impl_Object_impl_Object, det_slices_IndexFunc_impl_Object_impl_Object⟩, trivial⟩ Try.checked.mixed (fn := Try.f107) (body := Try.f107.body.getD .skip) Try.func107 rfl (by decide) (by kernel_rfl) rfl an_slices_ContainsFunc_impl_Object_impl_Object fun x ho hx => ?_
  obtain ⟨l, f, ⟨⟩⟩ := x
  refine Keeps.of (vc_slices_ContainsFunc_impl_Object_impl_Object l f) ?_
  revert l f ho hx
  show ∀ (l : List (Objt)) (f : (Unit)), _
  intro l f ho hx
  dsimp only [C_slices_ContainsFunc_impl_Object_impl_Object, okPTL, okPT, Ok, Ty.cells, SN.cells, OkL, OkC, okI, ci, cb, cs, cl] at ho
  dsimp only [C_slices_ContainsFunc_impl_Object_impl_Object, vc, v1, decB, SR.pre] at hx
  have h := ixF_all (p := objB) (l := l) (k := 0) (by omega)
  (try delta i64 LN); simp only [VBt]; (repeat' first | intro _ | apply And.intro); all_goals (try omega); all_goals grind
def C_impl_allValid : Con := { ps := [.ro (.list (.st .obj))], out := fun x => let l : List (Objt) := x.1; vc .bool (l.all objB), det := true }
abbrev L_impl_allValid : List (Nat × Con) := [(107, C_slices_ContainsFunc_impl_Object_impl_Object)]
def G_impl_allValid : Cfg := mkG (tyL tys_) L_impl_allValid false
def an_impl_allValid : PTL C_impl_allValid.ps → Nat → Option Ann := fun _ _ => none
set_option maxRecDepth 200000 in
theorem vc_impl_allValid (l : List (Objt)) : (keeps Try.prog G_impl_allValid (an_impl_allValid (l, ())) (Try.f71.body.getD .skip) Try.f71.results.toList C_impl_allValid (l, ())) = ((((Bool.not (Bool.not (@List.all Objt l objB))) = (@List.all Objt l objB)) ∧
 True)) := by kernel_rfl
theorem det_impl_allValid : C_impl_allValid.det = true → ∀ x, (C_impl_allValid.out x).Det := fun _ _ => Det.vc'
set_option maxRecDepth 200000 in
set_option maxHeartbeats 4000000 in
theorem ok_impl_allValid : ConOK Try.prog 71 C_impl_allValid := by
  refine con_mk (wr := false) (ty := tyL tys_) (l := L_impl_allValid) ⟨⟨ok_slices_ContainsFunc_impl_Object_impl_Object, det_slices_ContainsFunc_impl_Object_impl_Object⟩, trivial⟩ Try.checked.mixed (fn := Try.f71) (body := Try.f71.body.getD .skip) Try.func71 rfl (by decide) (by kernel_rfl) rfl an_impl_allValid fun x ho hx => ?_
  obtain ⟨l, ⟨⟩⟩ := x
  refine Keeps.of (vc_impl_allValid l) ?_
  revert l ho hx
  show ∀ (l : List (Objt)), _
  intro l ho hx
  dsimp only [C_impl_allValid, okPTL, okPT, Ok, Ty.cells, SN.cells, OkL, OkC, okI, ci, cb, cs, cl] at ho
  dsimp only [C_impl_allValid, vc, v1, decB, SR.pre] at hx
  (try delta i64 LN); simp only [VBt]; (repeat' first | intro _ | apply And.intro); all_goals (try omega); all_goals grind
def C_impl_ObjectsValid : Con := { ps := [.ro (.list (.st .obj))], out := fun x => let l : List (Objt) := x.1; vc .bool (objsB l), det := true }
abbrev L_impl_ObjectsValid : List (Nat × Con) := [(71, C_impl_allValid)]
def G_impl_ObjectsValid : Cfg := mkG (tyL tys_) L_impl_ObjectsValid false
def an_impl_ObjectsValid : PTL C_impl_ObjectsValid.ps → Nat → Option Ann := fun _ _ => none
set_option maxRecDepth 200000 in
theorem vc_impl_ObjectsValid (l : List (Objt)) : (keeps Try.prog G_impl_ObjectsValid (an_impl_ObjectsValid (l, ())) (Try.f41.body.getD .skip) Try.f41.results.toList C_impl_ObjectsValid (l, ())) = ((((List.length l) ≤ 9223372036854775807) →
 ((((decide ((LN l) ≤ 4)) = true) →
 (((@List.all Objt l objB) = (objsB l)) ∧
 True)) ∧
 (((decide ((LN l) ≤ 4)) = false) →
 ((false = (objsB l)) ∧
 True))))) := by kernel_rfl
theorem det_impl_ObjectsValid : C_impl_ObjectsValid.det = true → ∀ x, (C_impl_ObjectsValid.out x).Det := fun _ _ => Det.vc'
set_option maxRecDepth 200000 in
set_option maxHeartbeats 4000000 in
theorem ok_impl_ObjectsValid : ConOK Try.prog 41 C_impl_ObjectsValid := by
  refine con_mk (wr := false) (ty := tyL tys_) (l := L_impl_ObjectsValid) ⟨⟨ok_impl_allValid, det_impl_allValid⟩, trivial⟩ Try.checked.mixed (fn := Try.f41) (body := Try.f41.body.getD .skip) Try.func41 rfl (by decide) (by kernel_rfl) rfl an_impl_ObjectsValid fun x ho hx => ?_
  obtain ⟨l, ⟨⟩⟩ := x
  refine Keeps.of (vc_impl_ObjectsValid l) ?_
  revert l ho hx
  show ∀ (l : List (Objt)), _
  intro l ho hx
  dsimp only [C_impl_ObjectsValid, okPTL, okPT, Ok, Ty.cells, SN.cells, OkL, OkC, okI, ci, cb, cs, cl] at ho
  dsimp only [C_impl_ObjectsValid, vc, v1, decB, SR.pre] at hx
  (try delta i64 LN); simp only [VBt]; (repeat' first | intro _ | apply And.intro); all_goals (try omega); all_goals grind [objsB]
def C_spec_ObjectsValid : Con := { ps := [.ro (.list (.st .obj))], out := fun x => let l : List (Objt) := x.1; vc .bool (objsB l), det := true }
abbrev L_spec_ObjectsValid : List (Nat × Con) := [(39, C_spec_ObjectValid)]
def G_spec_ObjectsValid : Cfg := mkG (tyL tys_) L_spec_ObjectsValid false
def an_spec_ObjectsValid : PTL C_spec_ObjectsValid.ps → Nat → Option Ann := fun x kk_ => let l : List (Objt) := x.1; if kk_ = 2 then some (.all (Int) fun i => .giv (0 ≤ i ∧ i ≤ l.length ∧ l.all objB = (l.drop i.toNat).all objB) (.mk [(3, ai i), (0, al (.st .obj) l)] [] ((l.length - i.toNat)))) else none
set_option maxRecDepth 200000 in
theorem vc_spec_ObjectsValid (l : List (Objt)) : (keeps Try.prog G_spec_ObjectsValid (an_spec_ObjectsValid (l, ())) (Try.f46.body.getD .skip) Try.f46.results.toList C_spec_ObjectsValid (l, ())) = (((∃ (x_1 : Int), ((0 = x_1) ∧
 ((@Eq (List Objt) l l) ∧
 (((0 ≤ x_1) ∧
 ((x_1 ≤ (LN l)) ∧
 ((@List.all Objt l objB) = (@List.all Objt (List.drop (Int.toNat x_1) l) objB)))) ∧
 True)))) ∧
 (∀ (x_2 : Int), (((0 ≤ x_2) ∧
 ((x_2 ≤ (LN l)) ∧
 ((@List.all Objt l objB) = (@List.all Objt (List.drop (Int.toNat x_2) l) objB)))) →
 (((List.length l) ≤ 9223372036854775807) →
 ((((decide (x_2 < (LN l))) = true) →
 (((0 ≤ x_2) ∧
 (x_2 < (LN l))) ∧
 (∀ (x_3 : Objt), ((@Eq (Option Objt) (l)[(Int.toNat x_2)]? (some x_3)) →
 ((Ok (Ty.st SN.obj) x_3) →
 ((((Bool.not (objB x_3)) = true) →
 ((false = (objsB l)) ∧
 True)) ∧
 (((Bool.not (objB x_3)) = false) →
 ((i64 (x_2 + (1 : Int))) ∧
 (∃ (x_4 : Int), (((x_2 + (1 : Int)) = x_4) ∧
 ((@Eq (List Objt) l l) ∧
 (((0 ≤ x_4) ∧
 ((x_4 ≤ (LN l)) ∧
 ((@List.all Objt l objB) = (@List.all Objt (List.drop (Int.toNat x_4) l) objB)))) ∧
 (((List.length l) - (Int.toNat x_4)) < ((List.length l) - (Int.toNat x_2))))))))))))))) ∧
 (((decide (x_2 < (LN l))) = false) →
 (((List.length l) ≤ 9223372036854775807) →
 (((decide ((LN l) ≤ 4)) = (objsB l)) ∧
 True))))))))) := by kernel_rfl
theorem det_spec_ObjectsValid : C_spec_ObjectsValid.det = true → ∀ x, (C_spec_ObjectsValid.out x).Det := fun _ _ => Det.vc'
set_option maxRecDepth 200000 in
set_option maxHeartbeats 4000000 in
theorem ok_spec_ObjectsValid : ConOK Try.prog 46 C_spec_ObjectsValid := by
  refine con_mk (wr := false) (ty := tyL tys_) (l := L_spec_ObjectsValid) ⟨⟨ok_spec_ObjectValid, det_spec_ObjectValid⟩, trivial⟩ Try.checked.mixed (fn := Try.f46) (body := Try.f46.body.getD .skip) Try.func46 rfl (by decide) (by kernel_rfl) rfl an_spec_ObjectsValid fun x ho hx => ?_
  obtain ⟨l, ⟨⟩⟩ := x
  refine Keeps.of (vc_spec_ObjectsValid l) ?_
  revert l ho hx
  show ∀ (l : List (Objt)), _
  intro l ho hx
  dsimp only [C_spec_ObjectsValid, okPTL, okPT, Ok, Ty.cells, SN.cells, OkL, OkC, okI, ci, cb, cs, cl] at ho
  dsimp only [C_spec_ObjectsValid, vc, v1, decB, SR.pre] at hx
  (try delta i64 LN); simp only [VBt]; (repeat' first | intro _ | apply And.intro); all_goals (try omega); all_goals (try have hdr := drop_get' (l := l) (by assumption) (by assumption)); all_goals grind [objsB, drop_end]
end Go.Proofs.Ythkefakjihafeaa
