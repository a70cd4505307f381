/- What is valid: sections, symbols, objects; both packages keep the same contracts. -/
import Derived.Test.YtpgglbnagphgoaaGreatNamVQ
import Derived.Test.YtpgglbnagphgoaaGreatFixDQ
set_option linter.unusedVariables false
set_option linter.unusedSimpArgs false
set_option maxRecDepth 200000
set_option maxHeartbeats 4000000
namespace Go.Proofs.YtpgglbnagphgoaaGreat
open Go Go.RowKit


theorem len0 {α : Type} {l : List α} : ((l.length : Int) = 0) ↔ (l = []) := by cases l <;> simp; omega
theorem secB_blank {q : Sect} {m : Int} (h : q.kind = 3) (h1 : nameB q.name = true) (h2 : q.align = 1 ∨ q.align = 2 ∨ q.align = 4 ∨ q.align = 8) (h3 : 0 ≤ q.size) (h4 : q.size ≤ 48) (h5 : (q.bytes.length : Int) = 0) : decide ((q.fixups.length : Int) = 0) = secB q m := by
 rw [len0] at h5
 have e : decide ((q.fixups.length : Int) = 0) = decide (q.fixups = []) := decide_eq_decide.2 len0
 rw [e]
 unfold secB
 simp [h, h1, h2, h3, h4, h5]
def C_impl_SectionSize : Con := { ps := [.ro (.st .sect)], out := fun x => let q : Sect := x.1; vc .i (secSize q), det := true }
abbrev L_impl_SectionSize : List (Nat × Con) := []
def G_impl_SectionSize : Cfg := GK L_impl_SectionSize
def an_impl_SectionSize : PTL C_impl_SectionSize.ps → Nat → Option Ann := fun _ _ => none
theorem vc_impl_SectionSize (q : Sect) : (KP Tryz.f81 G_impl_SectionSize C_impl_SectionSize an_impl_SectionSize (q, ())) = ((decide (q.kind = 3) = true →
 q.size = secSize q ∧ True) ∧ (decide (q.kind = 3) = false →
 q.bytes.length ≤ 9223372036854775807 →
 LN q.bytes = secSize q ∧ True)) := by kernel_rfl
theorem det_impl_SectionSize : C_impl_SectionSize.det = true → ∀ x, (C_impl_SectionSize.out x).Det := fun _ _ => Det.vc'
theorem ok_impl_SectionSize : ConOK Tryz.prog 81 C_impl_SectionSize := by
 refine con_q (l := L_impl_SectionSize) trivial Tryz.func81 rfl (by decide) (by kernel_rfl) rfl an_impl_SectionSize fun x ho hx => ?_
 obtain ⟨q, ⟨⟩⟩ := x
 refine Keeps.of (vc_impl_SectionSize q) ?_
 revert q ho hx
 show ∀ (q : Sect), _
 intro q ho hx
 dsimp only [C_impl_SectionSize, okPTL, okPT, Ok, Ty.cells, SN.cells, OkL, OkC, okI, ci, cb, cs, cl] at ho
 dsimp only [C_impl_SectionSize, vc, v1, decB, SR.pre] at hx
 (try delta i64 LN); simp only [VBt]; (repeat' first | intro _ | apply And.intro); all_goals (try omega); all_goals grind [secSize]
def C_spec_SectionSize : Con := { ps := [.ro (.st .sect)], out := fun x => let q : Sect := x.1; vc .i (secSize q), det := true }
abbrev L_spec_SectionSize : List (Nat × Con) := []
def G_spec_SectionSize : Cfg := GK L_spec_SectionSize
def an_spec_SectionSize : PTL C_spec_SectionSize.ps → Nat → Option Ann := fun _ _ => none
theorem vc_spec_SectionSize (q : Sect) : (KP Tryz.f104 G_spec_SectionSize C_spec_SectionSize an_spec_SectionSize (q, ())) = ((decide (q.kind = 3) = true →
 q.size = secSize q ∧ True) ∧ (decide (q.kind = 3) = false →
 q.bytes.length ≤ 9223372036854775807 →
 LN q.bytes = secSize q ∧ True)) := by kernel_rfl
theorem det_spec_SectionSize : C_spec_SectionSize.det = true → ∀ x, (C_spec_SectionSize.out x).Det := fun _ _ => Det.vc'
theorem ok_spec_SectionSize : ConOK Tryz.prog 104 C_spec_SectionSize := by
 refine con_q (l := L_spec_SectionSize) trivial Tryz.func104 rfl (by decide) (by kernel_rfl) rfl an_spec_SectionSize fun x ho hx => ?_
 obtain ⟨q, ⟨⟩⟩ := x
 refine Keeps.of (vc_spec_SectionSize q) ?_
 revert q ho hx
 show ∀ (q : Sect), _
 intro q ho hx
 dsimp only [C_spec_SectionSize, okPTL, okPT, Ok, Ty.cells, SN.cells, OkL, OkC, okI, ci, cb, cs, cl] at ho
 dsimp only [C_spec_SectionSize, vc, v1, decB, SR.pre] at hx
 (try delta i64 LN); simp only [VBt]; (repeat' first | intro _ | apply And.intro); all_goals (try omega); all_goals grind [secSize]
def C_impl_SectionValid : Con := { ps := [.ro (.st .sect), .ro .i], out := fun x => let q : Sect := x.1; let many : Int := x.2.1; vc .bool (secB q many), det := true }
abbrev L_impl_SectionValid : List (Nat × Con) := [(88, C_impl_NameValid), (78, C_impl_within), (77, C_impl_isAlign), (83, C_impl_FixupWide), (89, C_impl_isAdd)]
def G_impl_SectionValid : Cfg := GK L_impl_SectionValid
def an_impl_SectionValid : PTL C_impl_SectionValid.ps → Nat → Option Ann := fun x kk_ => let q : Sect := x.1; let many : Int := x.2.1; if kk_ = 9 then some (.all (Int) fun i => .all (Int) fun e => .giv (nameB q.name = true ∧ 1 ≤ q.kind ∧ q.kind ≤ 3 ∧ q.kind ≠ 3 ∧ (q.align = 1 ∨ q.align = 2 ∨ q.align = 4 ∨ q.align = 8) ∧ q.size = 0 ∧ (q.bytes.length : Int) ≤ 48 ∧ (q.fixups.length : Int) ≤ 6 ∧ 0 ≤ i ∧ i ≤ q.fixups.length ∧ 0 ≤ e ∧ e ≤ 100 ∧ fixB many q.bytes.length 0 q.fixups = fixB many q.bytes.length e (q.fixups.drop i.toNat)) (.mk [(5, ai e), (61, ai i), (59, al (.st .fixup) q.fixups), (60, ai q.fixups.length), (1, ai many), (2, aref 62)] [(62, bx (ast .sect q))] ((q.fixups.length - i.toNat)))) else none
theorem vc_impl_SectionValid (q : Sect) (many : Int) : (KP Tryz.f49 G_impl_SectionValid C_impl_SectionValid an_impl_SectionValid (q, many, ())) = ((Bool.not (nameB q.name) = true →
 false = secB q many ∧ True) ∧ (Bool.not (nameB q.name) = false →
 (Bool.not (decide (1 ≤ q.kind ∧ q.kind ≤ 3)) = true →
 false = secB q many ∧ True) ∧ (Bool.not (decide (1 ≤ q.kind ∧ q.kind ≤ 3)) = false →
 (Bool.not (decide (q.align = 1 ∨ q.align = 2 ∨ q.align = 4 ∨ q.align = 8)) = true →
 false = secB q many ∧ True) ∧ (Bool.not (decide (q.align = 1 ∨ q.align = 2 ∨ q.align = 4 ∨ q.align = 8)) = false →
 (decide (q.kind = 3) = true →
 (decide (0 ≤ q.size ∧ q.size ≤ 48) = true →
 q.bytes.length ≤ 9223372036854775807 →
 (decide (LN q.bytes = 0) = true →
 q.fixups.length ≤ 9223372036854775807 →
 decide (LN q.fixups = 0) = secB q many ∧ True) ∧ (decide (LN q.bytes = 0) = false →
 false = secB q many ∧ True)) ∧ (decide (0 ≤ q.size ∧ q.size ≤ 48) = false →
 false = secB q many ∧ True)) ∧ (decide (q.kind = 3) = false →
 (decide (q.size ≠ 0) = true →
 false = secB q many ∧ True) ∧ (decide (q.size ≠ 0) = false →
 q.bytes.length ≤ 9223372036854775807 →
 (decide (48 < LN q.bytes) = true →
 false = secB q many ∧ True) ∧ (decide (48 < LN q.bytes) = false →
 q.fixups.length ≤ 9223372036854775807 →
 (decide (6 < LN q.fixups) = true →
 false = secB q many ∧ True) ∧ (decide (6 < LN q.fixups) = false →
 q.fixups.length ≤ 9223372036854775807 →
 (∃ (a : Int), (∃ (b : Int), 0 = b ∧ 0 = a ∧ q.fixups = q.fixups ∧ LN q.fixups = LN q.fixups ∧ many = many ∧ q.name = q.name ∧ q.kind = q.kind ∧ q.align = q.align ∧ q.bytes = q.bytes ∧ q.size = q.size ∧ q.fixups = q.fixups ∧ (nameB q.name = true ∧ 1 ≤ q.kind ∧ q.kind ≤ 3 ∧ q.kind ≠ 3 ∧ (q.align = 1 ∨ q.align = 2 ∨ q.align = 4 ∨ q.align = 8) ∧ q.size = 0 ∧ LN q.bytes ≤ 48 ∧ LN q.fixups ≤ 6 ∧ 0 ≤ a ∧ a ≤ LN q.fixups ∧ 0 ≤ b ∧ b ≤ 100 ∧ fixB many (LN q.bytes) 0 q.fixups = fixB many (LN q.bytes) b (q.fixups.drop a.toNat)) ∧ True)) ∧ (∀ (c : Int), (∀ (d : Int), nameB q.name = true ∧ 1 ≤ q.kind ∧ q.kind ≤ 3 ∧ q.kind ≠ 3 ∧ (q.align = 1 ∨ q.align = 2 ∨ q.align = 4 ∨ q.align = 8) ∧ q.size = 0 ∧ LN q.bytes ≤ 48 ∧ LN q.fixups ≤ 6 ∧ 0 ≤ c ∧ c ≤ LN q.fixups ∧ 0 ≤ d ∧ d ≤ 100 ∧ fixB many (LN q.bytes) 0 q.fixups = fixB many (LN q.bytes) d (q.fixups.drop c.toNat) →
 (decide (c < LN q.fixups) = true →
 (0 ≤ c ∧ c < LN q.fixups) ∧ (∀ (e : Fixup), q.fixups[c.toNat]? = some e →
 Ok (Ty.st SN.fixup) e →
 (decide (fixWide e.kind = 0) = true →
 false = secB q many ∧ True) ∧ (decide (fixWide e.kind = 0) = false →
 (decide (e.to < 0) = true →
 false = secB q many ∧ True) ∧ (decide (e.to < 0) = false →
 (decide (many ≤ e.to) = true →
 false = secB q many ∧ True) ∧ (decide (many ≤ e.to) = false →
 (Bool.not (decide ((- (1000 : Int)) ≤ e.add ∧ e.add ≤ 1000)) = true →
 false = secB q many ∧ True) ∧ (Bool.not (decide ((- (1000 : Int)) ≤ e.add ∧ e.add ≤ 1000)) = false →
 q.bytes.length ≤ 9223372036854775807 →
 i64 (LN q.bytes - fixWide e.kind) ∧ (Bool.not (decide (d ≤ e.at_ ∧ e.at_ ≤ LN q.bytes - fixWide e.kind)) = true →
 false = secB q many ∧ True) ∧ (Bool.not (decide (d ≤ e.at_ ∧ e.at_ ≤ LN q.bytes - fixWide e.kind)) = false →
 i64 (e.at_ + fixWide e.kind) ∧ i64 (c + 1) ∧ (∃ (f : Int), (∃ (g : Int), e.at_ + fixWide e.kind = g ∧ c + 1 = f ∧ q.fixups = q.fixups ∧ LN q.fixups = LN q.fixups ∧ many = many ∧ q.name = q.name ∧ q.kind = q.kind ∧ q.align = q.align ∧ q.bytes = q.bytes ∧ q.size = q.size ∧ q.fixups = q.fixups ∧ (nameB q.name = true ∧ 1 ≤ q.kind ∧ q.kind ≤ 3 ∧ q.kind ≠ 3 ∧ (q.align = 1 ∨ q.align = 2 ∨ q.align = 4 ∨ q.align = 8) ∧ q.size = 0 ∧ LN q.bytes ≤ 48 ∧ LN q.fixups ≤ 6 ∧ 0 ≤ f ∧ f ≤ LN q.fixups ∧ 0 ≤ g ∧ g ≤ 100 ∧ fixB many (LN q.bytes) 0 q.fixups = fixB many (LN q.bytes) g (q.fixups.drop f.toNat)) ∧ q.fixups.length - f.toNat < q.fixups.length - c.toNat))))))))) ∧ (decide (c < LN q.fixups) = false →
 true = secB q many ∧ True))))))))))) := by kernel_rfl
theorem det_impl_SectionValid : C_impl_SectionValid.det = true → ∀ x, (C_impl_SectionValid.out x).Det := fun _ _ => Det.vc'
theorem ok_impl_SectionValid : ConOK Tryz.prog 49 C_impl_SectionValid := by
 refine con_q (l := L_impl_SectionValid) ⟨⟨ok_impl_NameValid, det_impl_NameValid⟩, ⟨⟨ok_impl_within, det_impl_within⟩, ⟨⟨ok_impl_isAlign, det_impl_isAlign⟩, ⟨⟨ok_impl_FixupWide, det_impl_FixupWide⟩, ⟨⟨ok_impl_isAdd, det_impl_isAdd⟩, trivial⟩⟩⟩⟩⟩ Tryz.func49 rfl (by decide) (by kernel_rfl) rfl an_impl_SectionValid fun x ho hx => ?_
 obtain ⟨q, many, ⟨⟩⟩ := x
 refine Keeps.of (vc_impl_SectionValid q many) ?_
 revert q many ho hx
 show ∀ (q : Sect) (many : Int), _
 intro q many ho hx
 dsimp only [C_impl_SectionValid, okPTL, okPT, Ok, Ty.cells, SN.cells, OkL, OkC, okI, ci, cb, cs, cl] at ho
 dsimp only [C_impl_SectionValid, vc, v1, decB, SR.pre] at hx
 have hw := fixWide_le
 (try delta i64 LN); simp only [VBt]; (repeat' first | intro _ | apply And.intro); all_goals (try omega); all_goals (try have hdr := drop_get' (l := q.fixups) (by assumption) (by assumption)); all_goals (try (first | exact secB_blank (by assumption) (by assumption) (by assumption) (by assumption) (by assumption) (by assumption) | grind [secB, fixB, drop_end]))
def C_spec_SectionValid : Con := { ps := [.ro (.st .sect), .ro .i], out := fun x => let q : Sect := x.1; let many : Int := x.2.1; vc .bool (secB q many), det := true }
abbrev L_spec_SectionValid : List (Nat × Con) := [(109, C_spec_NameValid), (110, C_spec_l1In), (111, C_spec_AlignUp), (103, C_spec_FixupWide)]
def G_spec_SectionValid : Cfg := GK L_spec_SectionValid
def an_spec_SectionValid : PTL C_spec_SectionValid.ps → Nat → Option Ann := fun x kk_ => let q : Sect := x.1; let many : Int := x.2.1; if kk_ = 7 then some (.all (Int) fun i => .all (Int) fun e => .giv (nameB q.name = true ∧ 1 ≤ q.kind ∧ q.kind ≤ 3 ∧ q.kind ≠ 3 ∧ (q.align = 1 ∨ q.align = 2 ∨ q.align = 4 ∨ q.align = 8) ∧ (q.bytes.length : Int) ≤ 48 ∧ (q.fixups.length : Int) ≤ 6 ∧ 0 ≤ i ∧ i ≤ q.fixups.length ∧ 0 ≤ e ∧ e ≤ 100 ∧ fixB many q.bytes.length 0 q.fixups = fixB many q.bytes.length e (q.fixups.drop i.toNat)) (.mk [(5, ai e), (6, ai i), (1, ai many), (2, aref 62)] [(62, bx (ast .sect q))] ((q.fixups.length - i.toNat)))) else none
theorem vc_spec_SectionValid (q : Sect) (many : Int) : (KP Tryz.f73 G_spec_SectionValid C_spec_SectionValid an_spec_SectionValid (q, many, ())) = ((Bool.not (nameB q.name) = true →
 false = secB q many ∧ True) ∧ (Bool.not (nameB q.name) = false →
 (Bool.not (decide (1 ≤ q.kind ∧ q.kind ≤ 3)) = true →
 false = secB q many ∧ True) ∧ (Bool.not (decide (1 ≤ q.kind ∧ q.kind ≤ 3)) = false →
 (decide (alignUp 0 q.align < 0) = true →
 false = secB q many ∧ True) ∧ (decide (alignUp 0 q.align < 0) = false →
 q.bytes.length ≤ 9223372036854775807 →
 (decide (48 < LN q.bytes) = true →
 false = secB q many ∧ True) ∧ (decide (48 < LN q.bytes) = false →
 q.fixups.length ≤ 9223372036854775807 →
 (decide (6 < LN q.fixups) = true →
 false = secB q many ∧ True) ∧ (decide (6 < LN q.fixups) = false →
 (Bool.not (decide (0 ≤ q.size ∧ q.size ≤ 48)) = true →
 false = secB q many ∧ True) ∧ (Bool.not (decide (0 ≤ q.size ∧ q.size ≤ 48)) = false →
 (decide (q.kind = 3) = true →
 q.bytes.length ≤ 9223372036854775807 →
 (decide (LN q.bytes = 0) = true →
 q.fixups.length ≤ 9223372036854775807 →
 decide (LN q.fixups = 0) = secB q many ∧ True) ∧ (decide (LN q.bytes = 0) = false →
 false = secB q many ∧ True)) ∧ (decide (q.kind = 3) = false →
 (∃ (a : Int), (∃ (b : Int), 0 = b ∧ 0 = a ∧ many = many ∧ q.name = q.name ∧ q.kind = q.kind ∧ q.align = q.align ∧ q.bytes = q.bytes ∧ q.size = q.size ∧ q.fixups = q.fixups ∧ (nameB q.name = true ∧ 1 ≤ q.kind ∧ q.kind ≤ 3 ∧ q.kind ≠ 3 ∧ (q.align = 1 ∨ q.align = 2 ∨ q.align = 4 ∨ q.align = 8) ∧ LN q.bytes ≤ 48 ∧ LN q.fixups ≤ 6 ∧ 0 ≤ a ∧ a ≤ LN q.fixups ∧ 0 ≤ b ∧ b ≤ 100 ∧ fixB many (LN q.bytes) 0 q.fixups = fixB many (LN q.bytes) b (q.fixups.drop a.toNat)) ∧ True)) ∧ (∀ (c : Int), (∀ (d : Int), nameB q.name = true ∧ 1 ≤ q.kind ∧ q.kind ≤ 3 ∧ q.kind ≠ 3 ∧ (q.align = 1 ∨ q.align = 2 ∨ q.align = 4 ∨ q.align = 8) ∧ LN q.bytes ≤ 48 ∧ LN q.fixups ≤ 6 ∧ 0 ≤ c ∧ c ≤ LN q.fixups ∧ 0 ≤ d ∧ d ≤ 100 ∧ fixB many (LN q.bytes) 0 q.fixups = fixB many (LN q.bytes) d (q.fixups.drop c.toNat) →
 q.fixups.length ≤ 9223372036854775807 →
 (decide (c < LN q.fixups) = true →
 (0 ≤ c ∧ c < LN q.fixups) ∧ (∀ (e : Fixup), q.fixups[c.toNat]? = some e →
 Ok (Ty.st SN.fixup) e →
 (decide (fixWide e.kind = 0) = true →
 false = secB q many ∧ True) ∧ (decide (fixWide e.kind = 0) = false →
 (decide (e.to < 0) = true →
 false = secB q many ∧ True) ∧ (decide (e.to < 0) = false →
 (decide (many ≤ e.to) = true →
 false = secB q many ∧ True) ∧ (decide (many ≤ e.to) = false →
 (Bool.not (decide ((- (1000 : Int)) ≤ e.add ∧ e.add ≤ 1000)) = true →
 false = secB q many ∧ True) ∧ (Bool.not (decide ((- (1000 : Int)) ≤ e.add ∧ e.add ≤ 1000)) = false →
 q.bytes.length ≤ 9223372036854775807 →
 i64 (LN q.bytes - fixWide e.kind) ∧ (Bool.not (decide (d ≤ e.at_ ∧ e.at_ ≤ LN q.bytes - fixWide e.kind)) = true →
 false = secB q many ∧ True) ∧ (Bool.not (decide (d ≤ e.at_ ∧ e.at_ ≤ LN q.bytes - fixWide e.kind)) = false →
 i64 (e.at_ + fixWide e.kind) ∧ i64 (c + 1) ∧ (∃ (f : Int), (∃ (g : Int), e.at_ + fixWide e.kind = g ∧ c + 1 = f ∧ many = many ∧ q.name = q.name ∧ q.kind = q.kind ∧ q.align = q.align ∧ q.bytes = q.bytes ∧ q.size = q.size ∧ q.fixups = q.fixups ∧ (nameB q.name = true ∧ 1 ≤ q.kind ∧ q.kind ≤ 3 ∧ q.kind ≠ 3 ∧ (q.align = 1 ∨ q.align = 2 ∨ q.align = 4 ∨ q.align = 8) ∧ LN q.bytes ≤ 48 ∧ LN q.fixups ≤ 6 ∧ 0 ≤ f ∧ f ≤ LN q.fixups ∧ 0 ≤ g ∧ g ≤ 100 ∧ fixB many (LN q.bytes) 0 q.fixups = fixB many (LN q.bytes) g (q.fixups.drop f.toNat)) ∧ q.fixups.length - f.toNat < q.fixups.length - c.toNat))))))))) ∧ (decide (c < LN q.fixups) = false →
 decide (q.size = 0) = secB q many ∧ True))))))))))) := by kernel_rfl
theorem det_spec_SectionValid : C_spec_SectionValid.det = true → ∀ x, (C_spec_SectionValid.out x).Det := fun _ _ => Det.vc'
theorem ok_spec_SectionValid : ConOK Tryz.prog 73 C_spec_SectionValid := by
 refine con_q (l := L_spec_SectionValid) ⟨⟨ok_spec_NameValid, det_spec_NameValid⟩, ⟨⟨ok_spec_l1In, det_spec_l1In⟩, ⟨⟨ok_spec_AlignUp, det_spec_AlignUp⟩, ⟨⟨ok_spec_FixupWide, det_spec_FixupWide⟩, trivial⟩⟩⟩⟩ Tryz.func73 rfl (by decide) (by kernel_rfl) rfl an_spec_SectionValid fun x ho hx => ?_
 obtain ⟨q, many, ⟨⟩⟩ := x
 refine Keeps.of (vc_spec_SectionValid q many) ?_
 revert q many ho hx
 show ∀ (q : Sect) (many : Int), _
 intro q many ho hx
 dsimp only [C_spec_SectionValid, okPTL, okPT, Ok, Ty.cells, SN.cells, OkL, OkC, okI, ci, cb, cs, cl] at ho
 dsimp only [C_spec_SectionValid, vc, v1, decB, SR.pre] at hx
 have hw := fixWide_le
 (try delta i64 LN); simp only [VBt]; (repeat' first | intro _ | apply And.intro); all_goals (try omega); all_goals (try have hdr := drop_get' (l := q.fixups) (by assumption) (by assumption)); all_goals (try (first | exact secB_blank (by assumption) (by assumption) (by grind [alignUp]) (by assumption) (by assumption) (by assumption) | grind [secB, fixB, drop_end, alignUp]))
def C_impl_SymbolValid : Con := { ps := [.ro (.st .sym), .ro (.list (.st .sect))], out := fun x => let s : Sym := x.1; let l : List (Sect) := x.2.1; vc .bool (symB s l), det := true }
abbrev L_impl_SymbolValid : List (Nat × Con) := [(88, C_impl_NameValid), (78, C_impl_within), (81, C_impl_SectionSize)]
def G_impl_SymbolValid : Cfg := GK L_impl_SymbolValid
def an_impl_SymbolValid : PTL C_impl_SymbolValid.ps → Nat → Option Ann := fun _ _ => none
theorem vc_impl_SymbolValid (s : Sym) (l : List (Sect)) : (KP Tryz.f50 G_impl_SymbolValid C_impl_SymbolValid an_impl_SymbolValid (s, l, ())) = ((Bool.not (nameB s.name) = true →
 false = symB s l ∧ True) ∧ (Bool.not (nameB s.name) = false →
 (Bool.not (decide (0 ≤ s.bind ∧ s.bind ≤ 2)) = true →
 false = symB s l ∧ True) ∧ (Bool.not (decide (0 ≤ s.bind ∧ s.bind ≤ 2)) = false →
 (decide (s.wher = (- (1 : Int))) = true →
 (decide (s.value = 0) = true →
 decide (s.bind ≠ 0) = symB s l ∧ True) ∧ (decide (s.value = 0) = false →
 false = symB s l ∧ True)) ∧ (decide (s.wher = (- (1 : Int))) = false →
 (decide (s.wher = (- (2 : Int))) = true →
 decide (0 ≤ s.value ∧ s.value ≤ 60000) = symB s l ∧ True) ∧ (decide (s.wher = (- (2 : Int))) = false →
 l.length ≤ 9223372036854775807 →
 i64 (LN l - 1) ∧ (decide (0 ≤ s.wher ∧ s.wher ≤ LN l - 1) = true →
 (0 ≤ s.wher ∧ s.wher < LN l) ∧ (∀ (a : Sect), l[s.wher.toNat]? = some a →
 Ok (Ty.st SN.sect) a →
 decide (0 ≤ s.value ∧ s.value ≤ secSize a) = symB s l ∧ True)) ∧ (decide (0 ≤ s.wher ∧ s.wher ≤ LN l - 1) = false →
 false = symB s l ∧ True)))))) := by kernel_rfl
theorem det_impl_SymbolValid : C_impl_SymbolValid.det = true → ∀ x, (C_impl_SymbolValid.out x).Det := fun _ _ => Det.vc'
theorem ok_impl_SymbolValid : ConOK Tryz.prog 50 C_impl_SymbolValid := by
 refine con_q (l := L_impl_SymbolValid) ⟨⟨ok_impl_NameValid, det_impl_NameValid⟩, ⟨⟨ok_impl_within, det_impl_within⟩, ⟨⟨ok_impl_SectionSize, det_impl_SectionSize⟩, trivial⟩⟩⟩ Tryz.func50 rfl (by decide) (by kernel_rfl) rfl an_impl_SymbolValid fun x ho hx => ?_
 obtain ⟨s, l, ⟨⟩⟩ := x
 refine Keeps.of (vc_impl_SymbolValid s l) ?_
 revert s l ho hx
 show ∀ (s : Sym) (l : List (Sect)), _
 intro s l ho hx
 dsimp only [C_impl_SymbolValid, okPTL, okPT, Ok, Ty.cells, SN.cells, OkL, OkC, okI, ci, cb, cs, cl] at ho
 dsimp only [C_impl_SymbolValid, vc, v1, decB, SR.pre] at hx
 (try delta i64 LN); simp only [VBt]; (repeat' first | intro _ | apply And.intro); all_goals (try omega); all_goals grind [symB]
def C_spec_SymbolValid : Con := { ps := [.ro (.st .sym), .ro (.list (.st .sect))], out := fun x => let s : Sym := x.1; let l : List (Sect) := x.2.1; vc .bool (symB s l), det := true }
abbrev L_spec_SymbolValid : List (Nat × Con) := [(109, C_spec_NameValid), (110, C_spec_l1In), (104, C_spec_SectionSize)]
def G_spec_SymbolValid : Cfg := GK L_spec_SymbolValid
def an_spec_SymbolValid : PTL C_spec_SymbolValid.ps → Nat → Option Ann := fun _ _ => none
theorem vc_spec_SymbolValid (s : Sym) (l : List (Sect)) : (KP Tryz.f74 G_spec_SymbolValid C_spec_SymbolValid an_spec_SymbolValid (s, l, ())) = ((Bool.not (nameB s.name) = true →
 false = symB s l ∧ True) ∧ (Bool.not (nameB s.name) = false →
 (Bool.not (decide (0 ≤ s.bind ∧ s.bind ≤ 2)) = true →
 false = symB s l ∧ True) ∧ (Bool.not (decide (0 ≤ s.bind ∧ s.bind ≤ 2)) = false →
 (decide (s.wher = (- (1 : Int))) = true →
 (decide (s.value = 0) = true →
 decide (s.bind ≠ 0) = symB s l ∧ True) ∧ (decide (s.value = 0) = false →
 false = symB s l ∧ True)) ∧ (decide (s.wher = (- (1 : Int))) = false →
 (decide (s.wher = (- (2 : Int))) = true →
 decide (0 ≤ s.value ∧ s.value ≤ 60000) = symB s l ∧ True) ∧ (decide (s.wher = (- (2 : Int))) = false →
 l.length ≤ 9223372036854775807 →
 i64 (LN l - 1) ∧ (decide (0 ≤ s.wher ∧ s.wher ≤ LN l - 1) = true →
 (0 ≤ s.wher ∧ s.wher < LN l) ∧ (∀ (a : Sect), l[s.wher.toNat]? = some a →
 Ok (Ty.st SN.sect) a →
 decide (0 ≤ s.value ∧ s.value ≤ secSize a) = symB s l ∧ True)) ∧ (decide (0 ≤ s.wher ∧ s.wher ≤ LN l - 1) = false →
 false = symB s l ∧ True)))))) := by kernel_rfl
theorem det_spec_SymbolValid : C_spec_SymbolValid.det = true → ∀ x, (C_spec_SymbolValid.out x).Det := fun _ _ => Det.vc'
theorem ok_spec_SymbolValid : ConOK Tryz.prog 74 C_spec_SymbolValid := by
 refine con_q (l := L_spec_SymbolValid) ⟨⟨ok_spec_NameValid, det_spec_NameValid⟩, ⟨⟨ok_spec_l1In, det_spec_l1In⟩, ⟨⟨ok_spec_SectionSize, det_spec_SectionSize⟩, trivial⟩⟩⟩ Tryz.func74 rfl (by decide) (by kernel_rfl) rfl an_spec_SymbolValid fun x ho hx => ?_
 obtain ⟨s, l, ⟨⟩⟩ := x
 refine Keeps.of (vc_spec_SymbolValid s l) ?_
 revert s l ho hx
 show ∀ (s : Sym) (l : List (Sect)), _
 intro s l ho hx
 dsimp only [C_spec_SymbolValid, okPTL, okPT, Ok, Ty.cells, SN.cells, OkL, OkC, okI, ci, cb, cs, cl] at ho
 dsimp only [C_spec_SymbolValid, vc, v1, decB, SR.pre] at hx
 (try delta i64 LN); simp only [VBt]; (repeat' first | intro _ | apply And.intro); all_goals (try omega); all_goals grind [symB]
def C_impl_globalOf_1 : Con := { ps := [.ro (.st .sym), .box (.ty .str)], out := fun x => let s : Sym := x.1; let name : ByteArray := x.2.1; vc .bool (decide (s.bind ≠ 0 ∧ s.name = name)), det := true }
abbrev L_impl_globalOf_1 : List (Nat × Con) := []
def G_impl_globalOf_1 : Cfg := GK L_impl_globalOf_1
def an_impl_globalOf_1 : PTL C_impl_globalOf_1.ps → Nat → Option Ann := fun _ _ => none
theorem vc_impl_globalOf_1 (s : Sym) (name : ByteArray) : (KP Tryz.f72 G_impl_globalOf_1 C_impl_globalOf_1 an_impl_globalOf_1 (s, name, ())) = ((decide (s.bind ≠ 0) = true →
 decide (s.name = name) = decide (s.bind ≠ 0 ∧ s.name = name) ∧ name = name ∧ True) ∧ (decide (s.bind ≠ 0) = false →
 false = decide (s.bind ≠ 0 ∧ s.name = name) ∧ name = name ∧ True)) := by kernel_rfl
theorem det_impl_globalOf_1 : C_impl_globalOf_1.det = true → ∀ x, (C_impl_globalOf_1.out x).Det := fun _ _ => Det.vc'
theorem ok_impl_globalOf_1 : ConOK Tryz.prog 72 C_impl_globalOf_1 := by
 refine con_q (l := L_impl_globalOf_1) trivial Tryz.func72 rfl (by decide) (by kernel_rfl) rfl an_impl_globalOf_1 fun x ho hx => ?_
 obtain ⟨s, name, ⟨⟩⟩ := x
 refine Keeps.of (vc_impl_globalOf_1 s name) ?_
 revert s name ho hx
 show ∀ (s : Sym) (name : ByteArray), _
 intro s name ho hx
 dsimp only [C_impl_globalOf_1, okPTL, okPT, Ok, Ty.cells, SN.cells, OkL, OkC, okI, ci, cb, cs, cl] at ho
 dsimp only [C_impl_globalOf_1, vc, v1, decB, SR.pre] at hx
 (try delta i64 LN); simp only [VBt]; (repeat' first | intro _ | apply And.intro); all_goals (try omega); all_goals grind
def C_slices_IndexFunc_impl_Symbol_impl_Symbol : Con := { ps := [.ro (.list (.st .sym)), .fn 72 [.ty .str]], out := fun x => let l : List (Sym) := x.1; let f : (ByteArray) × (Unit) := x.2.1; vc .i (globIx f.1 l 0), det := true }
abbrev L_slices_IndexFunc_impl_Symbol_impl_Symbol : List (Nat × Con) := [(72, C_impl_globalOf_1)]
def G_slices_IndexFunc_impl_Symbol_impl_Symbol : Cfg := GK L_slices_IndexFunc_impl_Symbol_impl_Symbol
def an_slices_IndexFunc_impl_Symbol_impl_Symbol : PTL C_slices_IndexFunc_impl_Symbol_impl_Symbol.ps → Nat → Option Ann := fun x kk_ => let l : List (Sym) := x.1; let f : (ByteArray) × (Unit) := x.2.1; if kk_ = 2 then some (.all (Int) fun i => .giv (0 ≤ i ∧ i ≤ l.length ∧ globIx f.1 l 0 = globIx f.1 (l.drop i.toNat) i) (.mk [(1, .one (.fn 72 [0])), (8, ai i), (0, al (.st .sym) l), (7, ai (List.length l))] [(0, lent .str f.1)] ((l.length - i.toNat)))) else none
theorem vc_slices_IndexFunc_impl_Symbol_impl_Symbol (l : List (Sym)) (f : (ByteArray) × (Unit)) : (KP Tryz.f71 G_slices_IndexFunc_impl_Symbol_impl_Symbol C_slices_IndexFunc_impl_Symbol_impl_Symbol an_slices_IndexFunc_impl_Symbol_impl_Symbol (l, f, ())) = (l.length ≤ 9223372036854775807 →
 (∃ (a : Int), 0 = a ∧ l = l ∧ LN l = LN l ∧ f.fst = f.fst ∧ (0 ≤ a ∧ a ≤ LN l ∧ globIx f.fst l 0 = globIx f.fst (l.drop a.toNat) a) ∧ True) ∧ (∀ (b : Int), 0 ≤ b ∧ b ≤ LN l ∧ globIx f.fst l 0 = globIx f.fst (l.drop b.toNat) b →
 (decide (b < LN l) = true →
 (0 ≤ b ∧ b < LN l) ∧ (∀ (c : Sym), l[b.toNat]? = some c →
 Ok (Ty.st SN.sym) c →
 (decide (c.bind ≠ 0 ∧ c.name = f.fst) = true →
 b = globIx f.fst l 0 ∧ f.fst = f.fst ∧ True) ∧ (decide (c.bind ≠ 0 ∧ c.name = f.fst) = false →
 i64 (b + 1) ∧ (∃ (d : Int), b + 1 = d ∧ l = l ∧ LN l = LN l ∧ f.fst = f.fst ∧ (0 ≤ d ∧ d ≤ LN l ∧ globIx f.fst l 0 = globIx f.fst (l.drop d.toNat) d) ∧ l.length - d.toNat < l.length - b.toNat)))) ∧ (decide (b < LN l) = false →
 (- (1 : Int)) = globIx f.fst l 0 ∧ f.fst = f.fst ∧ True))) := by kernel_rfl
theorem det_slices_IndexFunc_impl_Symbol_impl_Symbol : C_slices_IndexFunc_impl_Symbol_impl_Symbol.det = true → ∀ x, (C_slices_IndexFunc_impl_Symbol_impl_Symbol.out x).Det := fun _ _ => Det.vc'
theorem ok_slices_IndexFunc_impl_Symbol_impl_Symbol : ConOK Tryz.prog 71 C_slices_IndexFunc_impl_Symbol_impl_Symbol := by
 refine con_q (l := L_slices_IndexFunc_impl_Symbol_impl_Symbol) ⟨⟨ok_impl_globalOf_1, det_impl_globalOf_1⟩, trivial⟩ Tryz.func71 rfl (by decide) (by kernel_rfl) rfl an_slices_IndexFunc_impl_Symbol_impl_Symbol fun x ho hx => ?_
 obtain ⟨l, f, ⟨⟩⟩ := x
 refine Keeps.of (vc_slices_IndexFunc_impl_Symbol_impl_Symbol l f) ?_
 revert l f ho hx
 show ∀ (l : List (Sym)) (f : (ByteArray) × (Unit)), _
 intro l f ho hx
 dsimp only [C_slices_IndexFunc_impl_Symbol_impl_Symbol, okPTL, okPT, Ok, Ty.cells, SN.cells, OkL, OkC, okI, ci, cb, cs, cl] at ho
 dsimp only [C_slices_IndexFunc_impl_Symbol_impl_Symbol, vc, v1, decB, SR.pre] at hx
 (try delta i64 LN); simp only [VBt]; (repeat' first | intro _ | apply And.intro); all_goals (try omega); all_goals (try have hdr := drop_get' (l := l) (by assumption) (by assumption)); all_goals grind [globIx, drop_end]
def C_impl_globalOf : Con := { ps := [.ro (.list (.st .sym)), .ro .str], out := fun x => let l : List (Sym) := x.1; let name : ByteArray := x.2.1; vc .i (globIx name l 0), det := true }
abbrev L_impl_globalOf : List (Nat × Con) := [(72, C_impl_globalOf_1), (71, C_slices_IndexFunc_impl_Symbol_impl_Symbol)]
def G_impl_globalOf : Cfg := GK L_impl_globalOf
def an_impl_globalOf : PTL C_impl_globalOf.ps → Nat → Option Ann := fun _ _ => none
theorem vc_impl_globalOf (l : List (Sym)) (name : ByteArray) : (KP Tryz.f31 G_impl_globalOf C_impl_globalOf an_impl_globalOf (l, name, ())) = (globIx name l 0 = globIx name l 0 ∧ True) := by kernel_rfl
theorem det_impl_globalOf : C_impl_globalOf.det = true → ∀ x, (C_impl_globalOf.out x).Det := fun _ _ => Det.vc'
theorem ok_impl_globalOf : ConOK Tryz.prog 31 C_impl_globalOf := by
 refine con_q (l := L_impl_globalOf) ⟨⟨ok_impl_globalOf_1, det_impl_globalOf_1⟩, ⟨⟨ok_slices_IndexFunc_impl_Symbol_impl_Symbol, det_slices_IndexFunc_impl_Symbol_impl_Symbol⟩, trivial⟩⟩ Tryz.func31 rfl (by decide) (by kernel_rfl) rfl an_impl_globalOf fun x ho hx => ?_
 obtain ⟨l, name, ⟨⟩⟩ := x
 refine Keeps.of (vc_impl_globalOf l name) ?_
 revert l name ho hx
 show ∀ (l : List (Sym)) (name : ByteArray), _
 intro l name ho hx
 dsimp only [C_impl_globalOf, okPTL, okPT, Ok, Ty.cells, SN.cells, OkL, OkC, okI, ci, cb, cs, cl] at ho
 dsimp only [C_impl_globalOf, vc, v1, decB, SR.pre] at hx
 (try delta i64 LN); simp only [VBt]; (repeat' first | intro _ | apply And.intro); all_goals (try omega); all_goals grind
def C_impl_ObjectValid : Con := { ps := [.ro (.st .obj)], out := fun x => let o : Objt := x.1; vc .bool (objB o), det := true }
abbrev L_impl_ObjectValid : List (Nat × Con) := [(49, C_impl_SectionValid), (50, C_impl_SymbolValid), (31, C_impl_globalOf)]
def G_impl_ObjectValid : Cfg := GK L_impl_ObjectValid
def an_impl_ObjectValid : PTL C_impl_ObjectValid.ps → Nat → Option Ann := fun x kk_ => let o : Objt := x.1; if kk_ = 4 then some (.all (Int) fun i => .giv ((o.sects.length : Int) ≤ 8 ∧ (o.syms.length : Int) ≤ 12 ∧ 0 ≤ i ∧ i ≤ o.sects.length ∧ o.sects.all (fun s => secB s o.syms.length) = (o.sects.drop i.toNat).all (fun s => secB s o.syms.length)) (.mk [(20, ai i), (18, al (.st .sect) o.sects), (19, ai o.sects.length), (1, aref 61)] [(61, bx (ast .obj o))] ((o.sects.length - i.toNat)))) else if kk_ = 10 then some (.all (Int) fun i => .giv ((o.sects.length : Int) ≤ 8 ∧ (o.syms.length : Int) ≤ 12 ∧ o.sects.all (fun s => secB s o.syms.length) = true ∧ 0 ≤ i ∧ i ≤ o.syms.length ∧ symsB o.sects [] o.syms = symsB o.sects (o.syms.take i.toNat) (o.syms.drop i.toNat)) (.mk [(34, ai i), (32, al (.st .sym) o.syms), (33, ai o.syms.length), (1, aref 61)] [(61, bx (ast .obj o))] ((o.syms.length - i.toNat)))) else none
theorem vc_impl_ObjectValid (o : Objt) : (KP Tryz.f14 G_impl_ObjectValid C_impl_ObjectValid an_impl_ObjectValid (o, ())) = (o.sects.length ≤ 9223372036854775807 →
 (decide (8 < LN o.sects) = true →
 false = objB o ∧ True) ∧ (decide (8 < LN o.sects) = false →
 o.syms.length ≤ 9223372036854775807 →
 (decide (12 < LN o.syms) = true →
 false = objB o ∧ True) ∧ (decide (12 < LN o.syms) = false →
 o.sects.length ≤ 9223372036854775807 →
 (∃ (a : Int), 0 = a ∧ o.sects = o.sects ∧ LN o.sects = LN o.sects ∧ o.sects = o.sects ∧ o.syms = o.syms ∧ (LN o.sects ≤ 8 ∧ LN o.syms ≤ 12 ∧ 0 ≤ a ∧ a ≤ LN o.sects ∧ @List.all Sect o.sects (fun (b : Sect) => secB b (LN o.syms)) = @List.all Sect (o.sects.drop a.toNat) (fun (c : Sect) => secB c (LN o.syms))) ∧ True) ∧ (∀ (d : Int), LN o.sects ≤ 8 ∧ LN o.syms ≤ 12 ∧ 0 ≤ d ∧ d ≤ LN o.sects ∧ @List.all Sect o.sects (fun (e : Sect) => secB e (LN o.syms)) = @List.all Sect (o.sects.drop d.toNat) (fun (f : Sect) => secB f (LN o.syms)) →
 (decide (d < LN o.sects) = true →
 (0 ≤ d ∧ d < LN o.sects) ∧ (∀ (g : Sect), o.sects[d.toNat]? = some g →
 Ok (Ty.st SN.sect) g →
 o.syms.length ≤ 9223372036854775807 →
 (Bool.not (secB g (LN o.syms)) = true →
 false = objB o ∧ True) ∧ (Bool.not (secB g (LN o.syms)) = false →
 i64 (d + 1) ∧ (∃ (h : Int), d + 1 = h ∧ o.sects = o.sects ∧ LN o.sects = LN o.sects ∧ o.sects = o.sects ∧ o.syms = o.syms ∧ (LN o.sects ≤ 8 ∧ LN o.syms ≤ 12 ∧ 0 ≤ h ∧ h ≤ LN o.sects ∧ @List.all Sect o.sects (fun (i : Sect) => secB i (LN o.syms)) = @List.all Sect (o.sects.drop h.toNat) (fun (j : Sect) => secB j (LN o.syms))) ∧ o.sects.length - h.toNat < o.sects.length - d.toNat)))) ∧ (decide (d < LN o.sects) = false →
 o.syms.length ≤ 9223372036854775807 →
 (∃ (k : Int), 0 = k ∧ o.syms = o.syms ∧ LN o.syms = LN o.syms ∧ o.sects = o.sects ∧ o.syms = o.syms ∧ (LN o.sects ≤ 8 ∧ LN o.syms ≤ 12 ∧ @List.all Sect o.sects (fun (l : Sect) => secB l (LN o.syms)) = true ∧ 0 ≤ k ∧ k ≤ LN o.syms ∧ symsB o.sects ([] : List Sym) o.syms = symsB o.sects (o.syms.take k.toNat) (o.syms.drop k.toNat)) ∧ True) ∧ (∀ (m : Int), LN o.sects ≤ 8 ∧ LN o.syms ≤ 12 ∧ @List.all Sect o.sects (fun (n : Sect) => secB n (LN o.syms)) = true ∧ 0 ≤ m ∧ m ≤ LN o.syms ∧ symsB o.sects ([] : List Sym) o.syms = symsB o.sects (o.syms.take m.toNat) (o.syms.drop m.toNat) →
 (decide (m < LN o.syms) = true →
 (0 ≤ m ∧ m < LN o.syms) ∧ (∀ (p : Sym), o.syms[m.toNat]? = some p →
 Ok (Ty.st SN.sym) p →
 (Bool.not (symB p o.sects) = true →
 false = objB o ∧ True) ∧ (Bool.not (symB p o.sects) = false →
 (decide (p.bind ≠ 0) = true →
 (0 ≤ m ∧ m ≤ LN o.syms) ∧ (decide (0 ≤ globIx p.name ((o.syms.drop 0).take (m.toNat - 0)) 0) = true →
 false = objB o ∧ True) ∧ (decide (0 ≤ globIx p.name ((o.syms.drop 0).take (m.toNat - 0)) 0) = false →
 i64 (m + 1) ∧ (∃ (q : Int), m + 1 = q ∧ o.syms = o.syms ∧ LN o.syms = LN o.syms ∧ o.sects = o.sects ∧ o.syms = o.syms ∧ (LN o.sects ≤ 8 ∧ LN o.syms ≤ 12 ∧ @List.all Sect o.sects (fun (r : Sect) => secB r (LN o.syms)) = true ∧ 0 ≤ q ∧ q ≤ LN o.syms ∧ symsB o.sects ([] : List Sym) o.syms = symsB o.sects (o.syms.take q.toNat) (o.syms.drop q.toNat)) ∧ o.syms.length - q.toNat < o.syms.length - m.toNat))) ∧ (decide (p.bind ≠ 0) = false →
 i64 (m + 1) ∧ (∃ (s : Int), m + 1 = s ∧ o.syms = o.syms ∧ LN o.syms = LN o.syms ∧ o.sects = o.sects ∧ o.syms = o.syms ∧ (LN o.sects ≤ 8 ∧ LN o.syms ≤ 12 ∧ @List.all Sect o.sects (fun (t : Sect) => secB t (LN o.syms)) = true ∧ 0 ≤ s ∧ s ≤ LN o.syms ∧ symsB o.sects ([] : List Sym) o.syms = symsB o.sects (o.syms.take s.toNat) (o.syms.drop s.toNat)) ∧ o.syms.length - s.toNat < o.syms.length - m.toNat))))) ∧ (decide (m < LN o.syms) = false →
 true = objB o ∧ True))))))) := by kernel_rfl
theorem det_impl_ObjectValid : C_impl_ObjectValid.det = true → ∀ x, (C_impl_ObjectValid.out x).Det := fun _ _ => Det.vc'
theorem ok_impl_ObjectValid : ConOK Tryz.prog 14 C_impl_ObjectValid := by
 refine con_q (l := L_impl_ObjectValid) ⟨⟨ok_impl_SectionValid, det_impl_SectionValid⟩, ⟨⟨ok_impl_SymbolValid, det_impl_SymbolValid⟩, ⟨⟨ok_impl_globalOf, det_impl_globalOf⟩, trivial⟩⟩⟩ Tryz.func14 rfl (by decide) (by kernel_rfl) rfl an_impl_ObjectValid fun x ho hx => ?_
 obtain ⟨o, ⟨⟩⟩ := x
 refine Keeps.of (vc_impl_ObjectValid o) ?_
 revert o ho hx
 show ∀ (o : Objt), _
 intro o ho hx
 dsimp only [C_impl_ObjectValid, okPTL, okPT, Ok, Ty.cells, SN.cells, OkL, OkC, okI, ci, cb, cs, cl] at ho
 dsimp only [C_impl_ObjectValid, vc, v1, decB, SR.pre] at hx
 (try delta i64 LN); simp only [VBt]; (repeat' first | intro _ | apply And.intro); all_goals (try omega)
 all_goals (try grind [objB, symsB_at, symsB_end, all_at, all_end, newSym_glob])
def C_spec_ObjectValid : Con := { ps := [.ro (.st .obj)], out := fun x => let o : Objt := x.1; vc .bool (objB o), det := true }
abbrev L_spec_ObjectValid : List (Nat × Con) := [(73, C_spec_SectionValid), (74, C_spec_SymbolValid)]
def G_spec_ObjectValid : Cfg := GK L_spec_ObjectValid
def an_spec_ObjectValid : PTL C_spec_ObjectValid.ps → Nat → Option Ann := fun x kk_ => let o : Objt := x.1; if kk_ = 2 then some (.all (Int) fun i => .giv (0 ≤ i ∧ i ≤ o.sects.length ∧ o.sects.all (fun s => secB s o.syms.length) = (o.sects.drop i.toNat).all (fun s => secB s o.syms.length)) (.mk [(3, ai i), (1, aref 61)] [(61, bx (ast .obj o))] ((o.sects.length - i.toNat)))) else if kk_ = 7 then some (.all (Int) fun i => .giv (o.sects.all (fun s => secB s o.syms.length) = true ∧ 0 ≤ i ∧ i ≤ o.syms.length ∧ symsB o.sects [] o.syms = symsB o.sects (o.syms.take i.toNat) (o.syms.drop i.toNat)) (.mk [(4, ai i), (1, aref 61)] [(61, bx (ast .obj o))] ((o.syms.length - i.toNat)))) else if kk_ = 2012 then some (.all (Int) fun i => .all (Int) fun j => .giv (o.sects.all (fun s => secB s o.syms.length) = true ∧ 0 ≤ i ∧ i < o.syms.length ∧ 0 ≤ j ∧ j ≤ i ∧ symsB o.sects [] o.syms = symsB o.sects (o.syms.take i.toNat) (o.syms.drop i.toNat) ∧ (∀ s, o.syms[i.toNat]? = some s → symB s o.sects = true ∧ newSym s (o.syms.take j.toNat) = true)) (.mk [(4, ai i), (5, ai j), (1, aref 61)] [(61, bx (ast .obj o))] ((o.syms.length - i.toNat) * (o.syms.length + 1) + (i - j).toNat))) else none
theorem vc_spec_ObjectValid (o : Objt) : (KP Tryz.f33 G_spec_ObjectValid C_spec_ObjectValid an_spec_ObjectValid (o, ())) = ((∃ (a : Int), 0 = a ∧ o.sects = o.sects ∧ o.syms = o.syms ∧ (0 ≤ a ∧ a ≤ LN o.sects ∧ @List.all Sect o.sects (fun (b : Sect) => secB b (LN o.syms)) = @List.all Sect (o.sects.drop a.toNat) (fun (c : Sect) => secB c (LN o.syms))) ∧ True) ∧ (∀ (d : Int), 0 ≤ d ∧ d ≤ LN o.sects ∧ @List.all Sect o.sects (fun (e : Sect) => secB e (LN o.syms)) = @List.all Sect (o.sects.drop d.toNat) (fun (f : Sect) => secB f (LN o.syms)) →
 o.sects.length ≤ 9223372036854775807 →
 (decide (d < LN o.sects) = true →
 (0 ≤ d ∧ d < LN o.sects) ∧ (∀ (g : Sect), o.sects[d.toNat]? = some g →
 Ok (Ty.st SN.sect) g →
 o.syms.length ≤ 9223372036854775807 →
 (Bool.not (secB g (LN o.syms)) = true →
 false = objB o ∧ True) ∧ (Bool.not (secB g (LN o.syms)) = false →
 i64 (d + 1) ∧ (∃ (h : Int), d + 1 = h ∧ o.sects = o.sects ∧ o.syms = o.syms ∧ (0 ≤ h ∧ h ≤ LN o.sects ∧ @List.all Sect o.sects (fun (i : Sect) => secB i (LN o.syms)) = @List.all Sect (o.sects.drop h.toNat) (fun (j : Sect) => secB j (LN o.syms))) ∧ o.sects.length - h.toNat < o.sects.length - d.toNat)))) ∧ (decide (d < LN o.sects) = false →
 (∃ (k : Int), 0 = k ∧ o.sects = o.sects ∧ o.syms = o.syms ∧ (@List.all Sect o.sects (fun (l : Sect) => secB l (LN o.syms)) = true ∧ 0 ≤ k ∧ k ≤ LN o.syms ∧ symsB o.sects ([] : List Sym) o.syms = symsB o.sects (o.syms.take k.toNat) (o.syms.drop k.toNat)) ∧ True) ∧ (∀ (m : Int), @List.all Sect o.sects (fun (n : Sect) => secB n (LN o.syms)) = true ∧ 0 ≤ m ∧ m ≤ LN o.syms ∧ symsB o.sects ([] : List Sym) o.syms = symsB o.sects (o.syms.take m.toNat) (o.syms.drop m.toNat) →
 o.syms.length ≤ 9223372036854775807 →
 (decide (m < LN o.syms) = true →
 (0 ≤ m ∧ m < LN o.syms) ∧ (∀ (p : Sym), o.syms[m.toNat]? = some p →
 Ok (Ty.st SN.sym) p →
 (Bool.not (symB p o.sects) = true →
 false = objB o ∧ True) ∧ (Bool.not (symB p o.sects) = false →
 (∃ (q : Int), (∃ (r : Int), m = q ∧ 0 = r ∧ o.sects = o.sects ∧ o.syms = o.syms ∧ (@List.all Sect o.sects (fun (s : Sect) => secB s (LN o.syms)) = true ∧ 0 ≤ q ∧ q < LN o.syms ∧ 0 ≤ r ∧ r ≤ q ∧ symsB o.sects ([] : List Sym) o.syms = symsB o.sects (o.syms.take q.toNat) (o.syms.drop q.toNat) ∧ (∀ (t : Sym), o.syms[q.toNat]? = some t →
 symB t o.sects = true ∧ newSym t (o.syms.take r.toNat) = true)) ∧ (∀ (u : Int), (∀ (v : Int), @List.all Sect o.sects (fun (w : Sect) => secB w (LN o.syms)) = true ∧ 0 ≤ u ∧ u < LN o.syms ∧ 0 ≤ v ∧ v ≤ u ∧ symsB o.sects ([] : List Sym) o.syms = symsB o.sects (o.syms.take u.toNat) (o.syms.drop u.toNat) ∧ (∀ (x : Sym), o.syms[u.toNat]? = some x →
 symB x o.sects = true ∧ newSym x (o.syms.take v.toNat) = true) →
 (o.syms.length - u.toNat) * (o.syms.length + 1) + (u - v).toNat ≤ (o.syms.length - q.toNat) * (o.syms.length + 1) + (q - r).toNat →
 (decide (v < u) = true →
 (0 ≤ v ∧ v < LN o.syms) ∧ (∀ (y : Sym), o.syms[v.toNat]? = some y →
 Ok (Ty.st SN.sym) y →
 (0 ≤ u ∧ u < LN o.syms) ∧ (∀ (z : Sym), o.syms[u.toNat]? = some z →
 Ok (Ty.st SN.sym) z →
 (decide (y.name = z.name) = true →
 (0 ≤ v ∧ v < LN o.syms) ∧ (∀ (A : Sym), o.syms[v.toNat]? = some A →
 Ok (Ty.st SN.sym) A →
 (decide (A.bind ≠ 0) = true →
 (0 ≤ u ∧ u < LN o.syms) ∧ (∀ (B : Sym), o.syms[u.toNat]? = some B →
 Ok (Ty.st SN.sym) B →
 (decide (B.bind ≠ 0) = true →
 false = objB o ∧ True) ∧ (decide (B.bind ≠ 0) = false →
 i64 (v + 1) ∧ (∃ (C : Int), (∃ (D : Int), u = C ∧ v + 1 = D ∧ o.sects = o.sects ∧ o.syms = o.syms ∧ (@List.all Sect o.sects (fun (E : Sect) => secB E (LN o.syms)) = true ∧ 0 ≤ C ∧ C < LN o.syms ∧ 0 ≤ D ∧ D ≤ C ∧ symsB o.sects ([] : List Sym) o.syms = symsB o.sects (o.syms.take C.toNat) (o.syms.drop C.toNat) ∧ (∀ (F : Sym), o.syms[C.toNat]? = some F →
 symB F o.sects = true ∧ newSym F (o.syms.take D.toNat) = true)) ∧ (o.syms.length - C.toNat) * (o.syms.length + 1) + (C - D).toNat < (o.syms.length - u.toNat) * (o.syms.length + 1) + (u - v).toNat))))) ∧ (decide (A.bind ≠ 0) = false →
 i64 (v + 1) ∧ (∃ (G : Int), (∃ (H : Int), u = G ∧ v + 1 = H ∧ o.sects = o.sects ∧ o.syms = o.syms ∧ (@List.all Sect o.sects (fun (I : Sect) => secB I (LN o.syms)) = true ∧ 0 ≤ G ∧ G < LN o.syms ∧ 0 ≤ H ∧ H ≤ G ∧ symsB o.sects ([] : List Sym) o.syms = symsB o.sects (o.syms.take G.toNat) (o.syms.drop G.toNat) ∧ (∀ (J : Sym), o.syms[G.toNat]? = some J →
 symB J o.sects = true ∧ newSym J (o.syms.take H.toNat) = true)) ∧ (o.syms.length - G.toNat) * (o.syms.length + 1) + (G - H).toNat < (o.syms.length - u.toNat) * (o.syms.length + 1) + (u - v).toNat))))) ∧ (decide (y.name = z.name) = false →
 i64 (v + 1) ∧ (∃ (K : Int), (∃ (L : Int), u = K ∧ v + 1 = L ∧ o.sects = o.sects ∧ o.syms = o.syms ∧ (@List.all Sect o.sects (fun (M : Sect) => secB M (LN o.syms)) = true ∧ 0 ≤ K ∧ K < LN o.syms ∧ 0 ≤ L ∧ L ≤ K ∧ symsB o.sects ([] : List Sym) o.syms = symsB o.sects (o.syms.take K.toNat) (o.syms.drop K.toNat) ∧ (∀ (N : Sym), o.syms[K.toNat]? = some N →
 symB N o.sects = true ∧ newSym N (o.syms.take L.toNat) = true)) ∧ (o.syms.length - K.toNat) * (o.syms.length + 1) + (K - L).toNat < (o.syms.length - u.toNat) * (o.syms.length + 1) + (u - v).toNat)))))) ∧ (decide (v < u) = false →
 i64 (u + 1) ∧ (∃ (O : Int), u + 1 = O ∧ o.sects = o.sects ∧ o.syms = o.syms ∧ (@List.all Sect o.sects (fun (P : Sect) => secB P (LN o.syms)) = true ∧ 0 ≤ O ∧ O ≤ LN o.syms ∧ symsB o.sects ([] : List Sym) o.syms = symsB o.sects (o.syms.take O.toNat) (o.syms.drop O.toNat)) ∧ o.syms.length - O.toNat < o.syms.length - m.toNat))))))))) ∧ (decide (m < LN o.syms) = false →
 o.sects.length ≤ 9223372036854775807 →
 (decide (LN o.sects ≤ 8) = true →
 o.syms.length ≤ 9223372036854775807 →
 decide (LN o.syms ≤ 12) = objB o ∧ True) ∧ (decide (LN o.sects ≤ 8) = false →
 false = objB o ∧ True)))))) := by kernel_rfl
theorem det_spec_ObjectValid : C_spec_ObjectValid.det = true → ∀ x, (C_spec_ObjectValid.out x).Det := fun _ _ => Det.vc'
theorem ok_spec_ObjectValid : ConOK Tryz.prog 33 C_spec_ObjectValid := by
 refine con_q (l := L_spec_ObjectValid) ⟨⟨ok_spec_SectionValid, det_spec_SectionValid⟩, ⟨⟨ok_spec_SymbolValid, det_spec_SymbolValid⟩, trivial⟩⟩ Tryz.func33 rfl (by decide) (by kernel_rfl) rfl an_spec_ObjectValid fun x ho hx => ?_
 obtain ⟨o, ⟨⟩⟩ := x
 refine Keeps.of (vc_spec_ObjectValid o) ?_
 revert o ho hx
 show ∀ (o : Objt), _
 intro o ho hx
 dsimp only [C_spec_ObjectValid, okPTL, okPT, Ok, Ty.cells, SN.cells, OkL, OkC, okI, ci, cb, cs, cl] at ho
 dsimp only [C_spec_ObjectValid, vc, v1, decB, SR.pre] at hx
 have hl : ∀ (i i0 j : Int), 0 ≤ i → i < o.syms.length → 0 ≤ i0 → i0 < o.syms.length → (o.syms.length - i.toNat) * (o.syms.length + 1) + (i - j).toNat ≤ (o.syms.length - i0.toNat) * (o.syms.length + 1) + (i0 - 0).toNat → o.syms.length - (i + 1).toNat < o.syms.length - i0.toNat := fun i i0 j h1 h2 h3 h4 h => by
  have := lex_le h (by omega)
  omega
 (try delta i64 LN); simp only [VBt]; (repeat' first | intro _ | apply And.intro); all_goals (try omega)
 all_goals (try grind [objB, symsB_at, symsB_end, all_at, all_end, newSym_next, newSym_bad, newSym_zero])
def C_impl_allValid_1 : Con := { ps := [.ro (.st .obj)], out := fun x => let o : Objt := x.1; vc .bool (!objB o), det := true }
abbrev L_impl_allValid_1 : List (Nat × Con) := [(14, C_impl_ObjectValid)]
def G_impl_allValid_1 : Cfg := GK L_impl_allValid_1
def an_impl_allValid_1 : PTL C_impl_allValid_1.ps → Nat → Option Ann := fun _ _ => none
theorem vc_impl_allValid_1 (o : Objt) : (KP Tryz.f113 G_impl_allValid_1 C_impl_allValid_1 an_impl_allValid_1 (o, ())) = (Bool.not (objB o) = Bool.not (objB o) ∧ True) := by kernel_rfl
theorem det_impl_allValid_1 : C_impl_allValid_1.det = true → ∀ x, (C_impl_allValid_1.out x).Det := fun _ _ => Det.vc'
theorem ok_impl_allValid_1 : ConOK Tryz.prog 113 C_impl_allValid_1 := by
 refine con_q (l := L_impl_allValid_1) ⟨⟨ok_impl_ObjectValid, det_impl_ObjectValid⟩, trivial⟩ Tryz.func113 rfl (by decide) (by kernel_rfl) rfl an_impl_allValid_1 fun x ho hx => ?_
 obtain ⟨o, ⟨⟩⟩ := x
 refine Keeps.of (vc_impl_allValid_1 o) ?_
 revert o ho hx
 show ∀ (o : Objt), _
 intro o ho hx
 dsimp only [C_impl_allValid_1, okPTL, okPT, Ok, Ty.cells, SN.cells, OkL, OkC, okI, ci, cb, cs, cl] at ho
 dsimp only [C_impl_allValid_1, vc, v1, decB, SR.pre] at hx
 (try delta i64 LN); simp only [VBt]; (repeat' first | intro _ | apply And.intro); all_goals (try omega)
def C_slices_IndexFunc_impl_Object_impl_Object : Con := { ps := [.ro (.list (.st .obj)), .fn 113 []], out := fun x => let l : List (Objt) := x.1; let f : (Unit) := x.2.1; vc .i (ixF (fun o => !objB o) l 0), det := true }
abbrev L_slices_IndexFunc_impl_Object_impl_Object : List (Nat × Con) := [(113, C_impl_allValid_1)]
def G_slices_IndexFunc_impl_Object_impl_Object : Cfg := GK L_slices_IndexFunc_impl_Object_impl_Object
def an_slices_IndexFunc_impl_Object_impl_Object : PTL C_slices_IndexFunc_impl_Object_impl_Object.ps → Nat → Option Ann := fun x kk_ => let l : List (Objt) := x.1; let f : (Unit) := x.2.1; if kk_ = 2 then some (.all (Int) fun i => .giv (0 ≤ i ∧ i ≤ l.length ∧ ixF (fun o => !objB o) l 0 = ixF (fun o => !objB o) (l.drop i.toNat) i) (.mk [(1, .one (.fn 113 [])), (8, ai i), (0, al (.st .obj) l), (7, ai (List.length l))] [] ((l.length - i.toNat)))) else none
theorem vc_slices_IndexFunc_impl_Object_impl_Object (l : List (Objt)) (f : (Unit)) : (KP Tryz.f122 G_slices_IndexFunc_impl_Object_impl_Object C_slices_IndexFunc_impl_Object_impl_Object an_slices_IndexFunc_impl_Object_impl_Object (l, f, ())) = (l.length ≤ 9223372036854775807 →
 (∃ (a : Int), 0 = a ∧ l = l ∧ LN l = LN l ∧ (0 ≤ a ∧ a ≤ LN l ∧ @ixF Objt (fun (b : Objt) => Bool.not (objB b)) l (0 : Int) = @ixF Objt (fun (c : Objt) => Bool.not (objB c)) (l.drop a.toNat) a) ∧ True) ∧ (∀ (d : Int), 0 ≤ d ∧ d ≤ LN l ∧ @ixF Objt (fun (e : Objt) => Bool.not (objB e)) l (0 : Int) = @ixF Objt (fun (g : Objt) => Bool.not (objB g)) (l.drop d.toNat) d →
 (decide (d < LN l) = true →
 (0 ≤ d ∧ d < LN l) ∧ (∀ (h : Objt), l[d.toNat]? = some h →
 Ok (Ty.st SN.obj) h →
 (Bool.not (objB h) = true →
 d = @ixF Objt (fun (i : Objt) => Bool.not (objB i)) l (0 : Int) ∧ True) ∧ (Bool.not (objB h) = false →
 i64 (d + 1) ∧ (∃ (j : Int), d + 1 = j ∧ l = l ∧ LN l = LN l ∧ (0 ≤ j ∧ j ≤ LN l ∧ @ixF Objt (fun (k : Objt) => Bool.not (objB k)) l (0 : Int) = @ixF Objt (fun (m : Objt) => Bool.not (objB m)) (l.drop j.toNat) j) ∧ l.length - j.toNat < l.length - d.toNat)))) ∧ (decide (d < LN l) = false →
 (- (1 : Int)) = @ixF Objt (fun (n : Objt) => Bool.not (objB n)) l (0 : Int) ∧ True))) := by kernel_rfl
theorem det_slices_IndexFunc_impl_Object_impl_Object : C_slices_IndexFunc_impl_Object_impl_Object.det = true → ∀ x, (C_slices_IndexFunc_impl_Object_impl_Object.out x).Det := fun _ _ => Det.vc'
theorem ok_slices_IndexFunc_impl_Object_impl_Object : ConOK Tryz.prog 122 C_slices_IndexFunc_impl_Object_impl_Object := by
 refine con_q (l := L_slices_IndexFunc_impl_Object_impl_Object) ⟨⟨ok_impl_allValid_1, det_impl_allValid_1⟩, trivial⟩ Tryz.func122 rfl (by decide) (by kernel_rfl) rfl an_slices_IndexFunc_impl_Object_impl_Object fun x ho hx => ?_
 obtain ⟨l, f, ⟨⟩⟩ := x
 refine Keeps.of (vc_slices_IndexFunc_impl_Object_impl_Object l f) ?_
 revert l f ho hx
 show ∀ (l : List (Objt)) (f : (Unit)), _
 intro l f ho hx
 dsimp only [C_slices_IndexFunc_impl_Object_impl_Object, okPTL, okPT, Ok, Ty.cells, SN.cells, OkL, OkC, okI, ci, cb, cs, cl] at ho
 dsimp only [C_slices_IndexFunc_impl_Object_impl_Object, vc, v1, decB, SR.pre] at hx
 (try delta i64 LN); simp only [VBt]; (repeat' first | intro _ | apply And.intro); all_goals (try omega); all_goals (try have hdr := drop_get' (l := l) (by assumption) (by assumption)); all_goals grind [ixF, drop_end]
def C_slices_ContainsFunc_impl_Object_impl_Object : Con := { ps := [.ro (.list (.st .obj)), .fn 113 []], out := fun x => let l : List (Objt) := x.1; let f : (Unit) := x.2.1; vc .bool (!l.all objB), det := true }
abbrev L_slices_ContainsFunc_impl_Object_impl_Object : List (Nat × Con) := [(122, C_slices_IndexFunc_impl_Object_impl_Object)]
def G_slices_ContainsFunc_impl_Object_impl_Object : Cfg := GK L_slices_ContainsFunc_impl_Object_impl_Object
def an_slices_ContainsFunc_impl_Object_impl_Object : PTL C_slices_ContainsFunc_impl_Object_impl_Object.ps → Nat → Option Ann := fun _ _ => none
theorem vc_slices_ContainsFunc_impl_Object_impl_Object (l : List (Objt)) (f : (Unit)) : (KP Tryz.f112 G_slices_ContainsFunc_impl_Object_impl_Object C_slices_ContainsFunc_impl_Object_impl_Object an_slices_ContainsFunc_impl_Object_impl_Object (l, f, ())) = (decide (0 ≤ @ixF Objt (fun (a : Objt) => Bool.not (objB a)) l (0 : Int)) = Bool.not (@List.all Objt l objB) ∧ True) := by kernel_rfl
theorem det_slices_ContainsFunc_impl_Object_impl_Object : C_slices_ContainsFunc_impl_Object_impl_Object.det = true → ∀ x, (C_slices_ContainsFunc_impl_Object_impl_Object.out x).Det := fun _ _ => Det.vc'
theorem ok_slices_ContainsFunc_impl_Object_impl_Object : ConOK Tryz.prog 112 C_slices_ContainsFunc_impl_Object_impl_Object := by
 refine con_q (l := L_slices_ContainsFunc_impl_Object_impl_Object) ⟨⟨ok_slices_IndexFunc_impl_Object_impl_Object, det_slices_IndexFunc_impl_Object_impl_Object⟩, trivial⟩ Tryz.func112 rfl (by decide) (by kernel_rfl) rfl an_slices_ContainsFunc_impl_Object_impl_Object fun x ho hx => ?_
 obtain ⟨l, f, ⟨⟩⟩ := x
 refine Keeps.of (vc_slices_ContainsFunc_impl_Object_impl_Object l f) ?_
 revert l f ho hx
 show ∀ (l : List (Objt)) (f : (Unit)), _
 intro l f ho hx
 dsimp only [C_slices_ContainsFunc_impl_Object_impl_Object, okPTL, okPT, Ok, Ty.cells, SN.cells, OkL, OkC, okI, ci, cb, cs, cl] at ho
 dsimp only [C_slices_ContainsFunc_impl_Object_impl_Object, vc, v1, decB, SR.pre] at hx
 have h := ixF_all (p := objB) (l := l) (k := 0) (by omega)
 (try delta i64 LN); simp only [VBt]; (repeat' first | intro _ | apply And.intro); all_goals (try omega); all_goals grind
def C_impl_allValid : Con := { ps := [.ro (.list (.st .obj))], out := fun x => let l : List (Objt) := x.1; vc .bool (l.all objB), det := true }
abbrev L_impl_allValid : List (Nat × Con) := [(112, C_slices_ContainsFunc_impl_Object_impl_Object)]
def G_impl_allValid : Cfg := GK L_impl_allValid
def an_impl_allValid : PTL C_impl_allValid.ps → Nat → Option Ann := fun _ _ => none
theorem vc_impl_allValid (l : List (Objt)) : (KP Tryz.f86 G_impl_allValid C_impl_allValid an_impl_allValid (l, ())) = (Bool.not (Bool.not (@List.all Objt l objB)) = @List.all Objt l objB ∧ True) := by kernel_rfl
theorem det_impl_allValid : C_impl_allValid.det = true → ∀ x, (C_impl_allValid.out x).Det := fun _ _ => Det.vc'
theorem ok_impl_allValid : ConOK Tryz.prog 86 C_impl_allValid := by
 refine con_q (l := L_impl_allValid) ⟨⟨ok_slices_ContainsFunc_impl_Object_impl_Object, det_slices_ContainsFunc_impl_Object_impl_Object⟩, trivial⟩ Tryz.func86 rfl (by decide) (by kernel_rfl) rfl an_impl_allValid fun x ho hx => ?_
 obtain ⟨l, ⟨⟩⟩ := x
 refine Keeps.of (vc_impl_allValid l) ?_
 revert l ho hx
 show ∀ (l : List (Objt)), _
 intro l ho hx
 dsimp only [C_impl_allValid, okPTL, okPT, Ok, Ty.cells, SN.cells, OkL, OkC, okI, ci, cb, cs, cl] at ho
 dsimp only [C_impl_allValid, vc, v1, decB, SR.pre] at hx
 (try delta i64 LN); simp only [VBt]; (repeat' first | intro _ | apply And.intro); all_goals (try omega); all_goals grind
def C_impl_ObjectsValid : Con := { ps := [.ro (.list (.st .obj))], out := fun x => let l : List (Objt) := x.1; vc .bool (objsB l), det := true }
abbrev L_impl_ObjectsValid : List (Nat × Con) := [(86, C_impl_allValid)]
def G_impl_ObjectsValid : Cfg := GK L_impl_ObjectsValid
def an_impl_ObjectsValid : PTL C_impl_ObjectsValid.ps → Nat → Option Ann := fun _ _ => none
theorem vc_impl_ObjectsValid (l : List (Objt)) : (KP Tryz.f47 G_impl_ObjectsValid C_impl_ObjectsValid an_impl_ObjectsValid (l, ())) = (l.length ≤ 9223372036854775807 →
 (decide (LN l ≤ 4) = true →
 @List.all Objt l objB = objsB l ∧ True) ∧ (decide (LN l ≤ 4) = false →
 false = objsB l ∧ True)) := by kernel_rfl
theorem det_impl_ObjectsValid : C_impl_ObjectsValid.det = true → ∀ x, (C_impl_ObjectsValid.out x).Det := fun _ _ => Det.vc'
theorem ok_impl_ObjectsValid : ConOK Tryz.prog 47 C_impl_ObjectsValid := by
 refine con_q (l := L_impl_ObjectsValid) ⟨⟨ok_impl_allValid, det_impl_allValid⟩, trivial⟩ Tryz.func47 rfl (by decide) (by kernel_rfl) rfl an_impl_ObjectsValid fun x ho hx => ?_
 obtain ⟨l, ⟨⟩⟩ := x
 refine Keeps.of (vc_impl_ObjectsValid l) ?_
 revert l ho hx
 show ∀ (l : List (Objt)), _
 intro l ho hx
 dsimp only [C_impl_ObjectsValid, okPTL, okPT, Ok, Ty.cells, SN.cells, OkL, OkC, okI, ci, cb, cs, cl] at ho
 dsimp only [C_impl_ObjectsValid, vc, v1, decB, SR.pre] at hx
 (try delta i64 LN); simp only [VBt]; (repeat' first | intro _ | apply And.intro); all_goals (try omega); all_goals grind [objsB]
def C_spec_ObjectsValid : Con := { ps := [.ro (.list (.st .obj))], out := fun x => let l : List (Objt) := x.1; vc .bool (objsB l), det := true }
abbrev L_spec_ObjectsValid : List (Nat × Con) := [(33, C_spec_ObjectValid)]
def G_spec_ObjectsValid : Cfg := GK L_spec_ObjectsValid
def an_spec_ObjectsValid : PTL C_spec_ObjectsValid.ps → Nat → Option Ann := fun x kk_ => let l : List (Objt) := x.1; if kk_ = 2 then some (.all (Int) fun i => .giv (0 ≤ i ∧ i ≤ l.length ∧ l.all objB = (l.drop i.toNat).all objB) (.mk [(3, ai i), (0, al (.st .obj) l)] [] ((l.length - i.toNat)))) else none
theorem vc_spec_ObjectsValid (l : List (Objt)) : (KP Tryz.f52 G_spec_ObjectsValid C_spec_ObjectsValid an_spec_ObjectsValid (l, ())) = ((∃ (a : Int), 0 = a ∧ l = l ∧ (0 ≤ a ∧ a ≤ LN l ∧ @List.all Objt l objB = @List.all Objt (l.drop a.toNat) objB) ∧ True) ∧ (∀ (b : Int), 0 ≤ b ∧ b ≤ LN l ∧ @List.all Objt l objB = @List.all Objt (l.drop b.toNat) objB →
 l.length ≤ 9223372036854775807 →
 (decide (b < LN l) = true →
 (0 ≤ b ∧ b < LN l) ∧ (∀ (c : Objt), l[b.toNat]? = some c →
 Ok (Ty.st SN.obj) c →
 (Bool.not (objB c) = true →
 false = objsB l ∧ True) ∧ (Bool.not (objB c) = false →
 i64 (b + 1) ∧ (∃ (d : Int), b + 1 = d ∧ l = l ∧ (0 ≤ d ∧ d ≤ LN l ∧ @List.all Objt l objB = @List.all Objt (l.drop d.toNat) objB) ∧ l.length - d.toNat < l.length - b.toNat)))) ∧ (decide (b < LN l) = false →
 l.length ≤ 9223372036854775807 →
 decide (LN l ≤ 4) = objsB l ∧ True))) := by kernel_rfl
theorem det_spec_ObjectsValid : C_spec_ObjectsValid.det = true → ∀ x, (C_spec_ObjectsValid.out x).Det := fun _ _ => Det.vc'
theorem ok_spec_ObjectsValid : ConOK Tryz.prog 52 C_spec_ObjectsValid := by
 refine con_q (l := L_spec_ObjectsValid) ⟨⟨ok_spec_ObjectValid, det_spec_ObjectValid⟩, trivial⟩ Tryz.func52 rfl (by decide) (by kernel_rfl) rfl an_spec_ObjectsValid fun x ho hx => ?_
 obtain ⟨l, ⟨⟩⟩ := x
 refine Keeps.of (vc_spec_ObjectsValid l) ?_
 revert l ho hx
 show ∀ (l : List (Objt)), _
 intro l ho hx
 dsimp only [C_spec_ObjectsValid, okPTL, okPT, Ok, Ty.cells, SN.cells, OkL, OkC, okI, ci, cb, cs, cl] at ho
 dsimp only [C_spec_ObjectsValid, vc, v1, decB, SR.pre] at hx
 (try delta i64 LN); simp only [VBt]; (repeat' first | intro _ | apply And.intro); all_goals (try omega); all_goals (try have hdr := drop_get' (l := l) (by assumption) (by assumption)); all_goals grind [objsB, drop_end]
end Go.Proofs.YtpgglbnagphgoaaGreat
