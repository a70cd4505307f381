/- Images, memories, patches: both packages keep the same contracts. -/
import Derived.Test.YtdghhckdjbpfbaaLib
set_option linter.unusedVariables false
set_option linter.unusedSimpArgs false
namespace Go.Proofs.Ytdghhckdjbpfbaa
open Go Go.RowKit


def imgOk (m : Img) : Prop := isBase m.base ∧ (m.bytes.length : Int) ≤ 2000
instance (m : Img) : Decidable (imgOk m) := by unfold imgOk; infer_instance
def imgByte (m : Img) (at_ : Int) : Int := if imgOk m ∧ m.base ≤ at_ ∧ at_ < m.base + m.bytes.length then m.bytes.getD (at_ - m.base).toNat 0 else -1
def regsB (hi : Int) : Int → List Region → Bool
  | _, [] => true
  | at_, r :: l => decide (at_ ≤ r.from_ ∧ r.from_ < r.to ∧ r.to ≤ hi) && regsB hi r.to l
def memB (m : Memo) : Bool := decide (imgOk m.what ∧ (m.regions.length : Int) ≤ 3) && regsB (m.what.base + m.what.bytes.length) m.what.base m.regions
def inReg (at_ : Int) (r : Region) : Bool := decide (r.from_ ≤ at_ ∧ at_ < r.to)
def regOf (at_ : Int) : List Region → Option Region
  | [] => none
  | r :: l => if inReg at_ r then some r else regOf at_ l
def regIx (at_ : Int) : List Region → Int → Int
  | [], _ => -1
  | r :: l, k => if inReg at_ r then k else regIx at_ l (k + 1)
def memRead (m : Memo) (at_ : Int) : Int := if memB m = true ∧ (regOf at_ m.regions).isSome then imgByte m.what at_ else -1
def mayW (m : Memo) (at_ v : Int) : Bool := memB m && (match regOf at_ m.regions with | some r => r.write | none => false) && decide (0 ≤ v ∧ v ≤ 255)
def memWrite (m : Memo) (at_ v : Int) : Memo :=
  if memB m = true then (if mayW m at_ v then ⟨⟨m.what.base, m.what.bytes.set (at_ - m.what.base).toNat v⟩, m.regions⟩ else m) else ⟨⟨0, []⟩, []⟩
def patsB (hi : Int) : Int → List Patch → Bool
  | _, [] => true
  | at_, p :: l => decide ((p.bytes.length : Int) ≠ 0 ∧ at_ ≤ p.at_ ∧ p.at_ ≤ hi - p.bytes.length) && patsB hi (p.at_ + p.bytes.length + 1) l
def patB (m : Img) (l : List Patch) : Bool := decide (imgOk m ∧ (l.length : Int) ≤ 1000) && patsB (m.base + m.bytes.length) m.base l
theorem imgOk_bd {m : Img} (h : imgOk m) : 0 ≤ m.base ∧ m.base ≤ 4096 ∧ (m.bytes.length : Int) ≤ 2000 := ⟨h.1.1, h.1.2.1, h.2⟩
theorem regsB_at {hi : Int} : ∀ {l : List Region} {at_ x : Int}, regsB hi at_ l = true → (regOf x l).isSome → at_ ≤ x ∧ x < hi := by
  intro l
  induction l with
  | nil => intro at_ x _ h; simp [regOf] at h
  | cons r l ih =>
    intro at_ x h hx
    simp only [regsB, Bool.and_eq_true, decide_eq_true_eq] at h
    simp only [regOf] at hx
    split at hx
    · rename_i hr
      simp only [inReg, decide_eq_true_eq] at hr
      omega
    · have := ih h.2 hx
      omega

theorem getN_one {l : List Int} {a : Int} : getN l a 1 = if 0 ≤ a ∧ a < l.length then l.getD a.toNat 0 else -1 := by
  by_cases h : 0 ≤ a ∧ a < l.length
  · rw [if_pos h]
    have hk : a.toNat < l.length := by omega
    have : getOk l a 1 = true := by simp [getOk]; omega
    rw [getN, if_pos this]
    have e : (l.drop a.toNat).take (1 : Int).toNat = [l[a.toNat]] := by
      rw [List.drop_eq_getElem_cons hk]; rfl
    rw [e]
    simp [undigs, List.getD, List.getElem?_eq_getElem hk]
  · rw [if_neg h]
    have : ¬ getOk l a 1 = true := by simp [getOk]; omega
    rw [getN, if_neg this]
theorem wrap_id {n : Int} (h : -9223372036854775808 ≤ n) (h' : n ≤ 9223372036854775807) : IntKind.wrap .i64 n = n := by
  simp [IntKind.wrap, IntKind.signed, IntKind.bits]
  split <;> omega
theorem regIx_ge {at_ : Int} : ∀ {l : List Region} {k : Int}, 0 ≤ k → (regIx at_ l k = -1 ∧ regOf at_ l = none) ∨ (k ≤ regIx at_ l k ∧ regIx at_ l k < k + l.length ∧ regOf at_ l = l[(regIx at_ l k - k).toNat]?) := by
  intro l
  induction l with
  | nil => intro k _; left; exact ⟨rfl, rfl⟩
  | cons r l ih =>
    intro k hk
    simp only [regIx, regOf]
    split
    · right
      refine ⟨by omega, by simp; omega, ?_⟩
      simp
    · rcases ih (k := k + 1) (by omega) with ⟨h1, h2⟩ | ⟨h1, h2, h3⟩
      · left; exact ⟨h1, h2⟩
      · right
        refine ⟨by omega, by simp; omega, ?_⟩
        rw [h3, show (regIx at_ l (k + 1) - k).toNat = (regIx at_ l (k + 1) - (k + 1)).toNat + 1 by omega]
        rfl
theorem mem_in {m : Memo} {at_ : Int} (h : memB m = true) (h' : (regOf at_ m.regions).isSome = true) : (m.what.base ≤ at_ ∧ at_ < m.what.base + m.what.bytes.length) ∧ 0 ≤ m.what.base ∧ m.what.base ≤ 4096 ∧ imgOk m.what := by
  simp only [memB, Bool.and_eq_true, decide_eq_true_eq] at h
  have hb := imgOk_bd h.1.1
  exact ⟨regsB_at h.2 h', hb.1, hb.2.1, h.1.1⟩
theorem reg_wr {o : Option Region} (h : (o.getD ⟨0, 0, false, false⟩).write = true) : o.isSome = true ∧ (match o with | some r => r.write | none => false) = true := by
  cases o with
  | none => cases h
  | some r => exact ⟨rfl, h⟩
theorem reg_nw {o : Option Region} (h : (o.getD ⟨0, 0, false, false⟩).write = false) : (match o with | some r => r.write | none => false) = false := by
  cases o with
  | none => rfl
  | some r => exact h
theorem mayW_iff {m : Memo} {at_ v : Int} : mayW m at_ v = true ↔ memB m = true ∧ (match regOf at_ m.regions with | some r => r.write | none => false) = true ∧ 0 ≤ v ∧ v ≤ 255 := by
  simp [mayW, and_assoc]
theorem mayW_in {m : Memo} {at_ v : Int} (h : mayW m at_ v = true) : memB m = true ∧ (regOf at_ m.regions).isSome = true := by
  rw [mayW_iff] at h
  refine ⟨h.1, ?_⟩
  have := h.2.1
  cases hr : regOf at_ m.regions with
  | none => rw [hr] at this; cases this
  | some r => rfl
theorem write_no {m : Memo} {at_ v : Int} (h : memB m = true) (h' : mayW m at_ v = false) : memWrite m at_ v = m := by simp [memWrite, h, h']
theorem write_bad {m : Memo} {at_ v : Int} (h : memB m = false) : memWrite m at_ v = ⟨⟨0, []⟩, []⟩ ∧ mayW m at_ v = false := by simp [memWrite, mayW, h]
theorem write_yes {m : Memo} {at_ v : Int} (h : mayW m at_ v = true) : memWrite m at_ v = ⟨⟨m.what.base, m.what.bytes.set (at_ - m.what.base).toNat v⟩, m.regions⟩ := by simp [memWrite, h, (mayW_in h).1]
def C_impl_ImageValid : Con := { ps := [.ro (.st .img)], out := fun x => let m : Img := x.1; vc .bool (decide (imgOk m)), det := true }
def G_impl_ImageValid : Cfg := mkG (tyL [(3, .i), (5, .u), (4, .bool), (9, .str), (126, .int .u64), (45, .st .fixup), (24, .st .img), (91, .st .patch), (65, .st .hash), (63, .list .i), (61, .list .str), (22, .list .u), (41, .st .fixup), (33, .st .img), (72, .st .hash)]) [(107, C_impl_isBase)] false
def an_impl_ImageValid : PTL C_impl_ImageValid.ps → Nat → Option Ann := fun _ _ => none
set_option maxRecDepth 200000 in
theorem vc_impl_ImageValid (m : Img) : (keeps Try.prog G_impl_ImageValid (an_impl_ImageValid (m, ())) (Try.f67.body.getD .skip) Try.f67.results.toList C_impl_ImageValid (m, ())) = (((((decide (isBase (Img.base m))) = true) →
 (((List.length (Img.bytes m)) ≤ (9223372036854775807 : Nat)) →
 (((decide ((@Nat.cast Int _ (List.length (Img.bytes m))) ≤ (2000 : Int))) = (decide (imgOk m))) ∧
 True))) ∧
 (((decide (isBase (Img.base m))) = false) →
 ((false = (decide (imgOk m))) ∧
 True)))) := by kernel_rfl
theorem det_impl_ImageValid : C_impl_ImageValid.det = true → ∀ x, (C_impl_ImageValid.out x).Det := fun _ x => by simp only [C_impl_ImageValid]; repeat (first | exact Det.ret _ | exact Det.vc' | apply Det.req | apply Det.giv | apply Det.fork | apply Det.bif' | intro _)
set_option maxRecDepth 200000 in
set_option maxHeartbeats 1000000 in
theorem ok_impl_ImageValid : ConOK Try.prog 67 C_impl_ImageValid := by
  refine con_mk (wr := false) (ty := tyL [(3, .i), (5, .u), (4, .bool), (9, .str), (126, .int .u64), (45, .st .fixup), (24, .st .img), (91, .st .patch), (65, .st .hash), (63, .list .i), (61, .list .str), (22, .list .u), (41, .st .fixup), (33, .st .img), (72, .st .hash)]) (l := [(107, C_impl_isBase)]) ⟨⟨ok_impl_isBase, det_impl_isBase⟩, trivial⟩ Try.checked.mixed (fn := Try.f67) (body := Try.f67.body.getD .skip) Try.func67 rfl (by decide) (by kernel_rfl) rfl an_impl_ImageValid fun x ho hx => ?_
  obtain ⟨m, ⟨⟩⟩ := x
  refine Keeps.of (vc_impl_ImageValid m) ?_
  revert m ho hx
  show ∀ (m : Img), _
  intro m ho hx
  dsimp only [C_impl_ImageValid, okPTL, okPT, Ok, Ty.cells, SN.cells, OkL, OkC, okI, ci, cb, cs, cl] at ho
  dsimp only [C_impl_ImageValid, vc, v1, decB, SR.pre] at hx
  simp only [decide_eq_true_eq, decide_eq_false_iff_not, Bool.not_eq_true', Bool.not_eq_false', and_true, true_and, and_assoc, Int.toNat_natCast, exists_eq_left', exists_eq_left, exists_and_left, Int.not_lt, Int.not_le, Bool.false_eq_true, false_implies, implies_true, forall_const, List.length_append, List.length_cons, List.length_nil, Int.sub_add_cancel, Int.add_sub_cancel]
  grind [imgOk]
def C_spec_ImageValid : Con := { ps := [.ro (.st .img)], out := fun x => let m : Img := x.1; vc .bool (decide (imgOk m)), det := true }
def G_spec_ImageValid : Cfg := mkG (tyL [(3, .i), (5, .u), (4, .bool), (9, .str), (126, .int .u64), (45, .st .fixup), (24, .st .img), (91, .st .patch), (65, .st .hash), (63, .list .i), (61, .list .str), (22, .list .u), (41, .st .fixup), (33, .st .img), (72, .st .hash)]) [(74, C_spec_l1In)] false
def an_spec_ImageValid : PTL C_spec_ImageValid.ps → Nat → Option Ann := fun _ _ => none
set_option maxRecDepth 200000 in
theorem vc_spec_ImageValid (m : Img) : (keeps Try.prog G_spec_ImageValid (an_spec_ImageValid (m, ())) (Try.f69.body.getD .skip) Try.f69.results.toList C_spec_ImageValid (m, ())) = (((((decide (((0 : Int) ≤ (Img.base m)) ∧
 ((Img.base m) ≤ (4096 : Int)))) = true) →
 ((((0 : Int) ≤ (Img.base m)) ∧
 ((0 : Int) < (8 : Int))) ∧
 ((((decide (((Img.base m) % (8 : Int)) = (0 : Int))) = true) →
 (((List.length (Img.bytes m)) ≤ (9223372036854775807 : Nat)) →
 (((decide ((@Nat.cast Int _ (List.length (Img.bytes m))) ≤ (2000 : Int))) = (decide (imgOk m))) ∧
 True))) ∧
 (((decide (((Img.base m) % (8 : Int)) = (0 : Int))) = false) →
 ((false = (decide (imgOk m))) ∧
 True))))) ∧
 (((decide (((0 : Int) ≤ (Img.base m)) ∧
 ((Img.base m) ≤ (4096 : Int)))) = false) →
 ((false = (decide (imgOk m))) ∧
 True)))) := by kernel_rfl
theorem det_spec_ImageValid : C_spec_ImageValid.det = true → ∀ x, (C_spec_ImageValid.out x).Det := fun _ x => by simp only [C_spec_ImageValid]; repeat (first | exact Det.ret _ | exact Det.vc' | apply Det.req | apply Det.giv | apply Det.fork | apply Det.bif' | intro _)
set_option maxRecDepth 200000 in
set_option maxHeartbeats 1000000 in
theorem ok_spec_ImageValid : ConOK Try.prog 69 C_spec_ImageValid := by
  refine con_mk (wr := false) (ty := tyL [(3, .i), (5, .u), (4, .bool), (9, .str), (126, .int .u64), (45, .st .fixup), (24, .st .img), (91, .st .patch), (65, .st .hash), (63, .list .i), (61, .list .str), (22, .list .u), (41, .st .fixup), (33, .st .img), (72, .st .hash)]) (l := [(74, C_spec_l1In)]) ⟨⟨ok_spec_l1In, det_spec_l1In⟩, trivial⟩ Try.checked.mixed (fn := Try.f69) (body := Try.f69.body.getD .skip) Try.func69 rfl (by decide) (by kernel_rfl) rfl an_spec_ImageValid fun x ho hx => ?_
  obtain ⟨m, ⟨⟩⟩ := x
  refine Keeps.of (vc_spec_ImageValid m) ?_
  revert m ho hx
  show ∀ (m : Img), _
  intro m ho hx
  dsimp only [C_spec_ImageValid, okPTL, okPT, Ok, Ty.cells, SN.cells, OkL, OkC, okI, ci, cb, cs, cl] at ho
  dsimp only [C_spec_ImageValid, vc, v1, decB, SR.pre] at hx
  simp only [decide_eq_true_eq, decide_eq_false_iff_not, Bool.not_eq_true', Bool.not_eq_false', and_true, true_and, and_assoc, Int.toNat_natCast, exists_eq_left', exists_eq_left, exists_and_left, Int.not_lt, Int.not_le, Bool.false_eq_true, false_implies, implies_true, forall_const, List.length_append, List.length_cons, List.length_nil, Int.sub_add_cancel, Int.add_sub_cancel]
  grind [imgOk, isBase]
def C_impl_copyImage : Con := { ps := [.ro (.st .img)], out := fun x => let m : Img := x.1; .req (m.bytes.length ≤ 1048576) (newS .img m), det := true }
def G_impl_copyImage : Cfg := mkG (tyL [(3, .i), (5, .u), (4, .bool), (9, .str), (126, .int .u64), (45, .st .fixup), (24, .st .img), (91, .st .patch), (65, .st .hash), (63, .list .i), (61, .list .str), (22, .list .u), (41, .st .fixup), (33, .st .img), (72, .st .hash)]) [(77, C_slices_Clone_byte_byte)] false
def an_impl_copyImage : PTL C_impl_copyImage.ps → Nat → Option Ann := fun _ _ => none
set_option maxRecDepth 200000 in
theorem vc_impl_copyImage (m : Img) : (keeps Try.prog G_impl_copyImage (an_impl_copyImage (m, ())) (Try.f80.body.getD .skip) Try.f80.results.toList C_impl_copyImage (m, ())) = ((((List.length (Img.bytes m)) ≤ (1048576 : Nat)) ∧
 (((Img.base m) = (Img.base m)) ∧
 ((@Eq (List Int) (Img.bytes m) (Img.bytes m)) ∧
 True)))) := by kernel_rfl
theorem det_impl_copyImage : C_impl_copyImage.det = true → ∀ x, (C_impl_copyImage.out x).Det := fun _ x => by simp only [C_impl_copyImage]; repeat (first | exact Det.ret _ | exact Det.vc' | apply Det.req | apply Det.giv | apply Det.fork | apply Det.bif' | intro _)
set_option maxRecDepth 200000 in
set_option maxHeartbeats 1000000 in
theorem ok_impl_copyImage : ConOK Try.prog 80 C_impl_copyImage := by
  refine con_mk (wr := false) (ty := tyL [(3, .i), (5, .u), (4, .bool), (9, .str), (126, .int .u64), (45, .st .fixup), (24, .st .img), (91, .st .patch), (65, .st .hash), (63, .list .i), (61, .list .str), (22, .list .u), (41, .st .fixup), (33, .st .img), (72, .st .hash)]) (l := [(77, C_slices_Clone_byte_byte)]) ⟨⟨ok_slices_Clone_byte_byte, det_slices_Clone_byte_byte⟩, trivial⟩ Try.checked.mixed (fn := Try.f80) (body := Try.f80.body.getD .skip) Try.func80 rfl (by decide) (by kernel_rfl) rfl an_impl_copyImage fun x ho hx => ?_
  obtain ⟨m, ⟨⟩⟩ := x
  refine Keeps.of (vc_impl_copyImage m) ?_
  revert m ho hx
  show ∀ (m : Img), _
  intro m ho hx
  dsimp only [C_impl_copyImage, okPTL, okPT, Ok, Ty.cells, SN.cells, OkL, OkC, okI, ci, cb, cs, cl] at ho
  dsimp only [C_impl_copyImage, vc, v1, decB, SR.pre] at hx
  simp only [decide_eq_true_eq, decide_eq_false_iff_not, Bool.not_eq_true', Bool.not_eq_false', and_true, true_and, Int.toNat_natCast, exists_eq_left', exists_eq_left, exists_and_left, Int.not_lt, Int.not_le, Bool.false_eq_true, false_implies, implies_true, forall_const, List.length_append, List.length_cons, List.length_nil, Int.sub_add_cancel, Int.add_sub_cancel, and_imp, get_set_iff, forall_eq', forall_eq, List.set_set, mkd_get, mkd_len, List.length_set, Option.some.injEq]; (repeat' first | intro _ | apply And.intro); all_goals (try omega); all_goals grind
def C_spec_l1OwnImage : Con := { ps := [.ro (.st .img)], out := fun x => let m : Img := x.1; .req (m.bytes.length ≤ 1048576) (newS .img m), det := true }
def G_spec_l1OwnImage : Cfg := mkG (tyL [(3, .i), (5, .u), (4, .bool), (9, .str), (126, .int .u64), (45, .st .fixup), (24, .st .img), (91, .st .patch), (65, .st .hash), (63, .list .i), (61, .list .str), (22, .list .u), (41, .st .fixup), (33, .st .img), (72, .st .hash)]) [] false
def an_spec_l1OwnImage : PTL C_spec_l1OwnImage.ps → Nat → Option Ann := fun _ _ => none
set_option maxRecDepth 200000 in
theorem vc_spec_l1OwnImage (m : Img) : (keeps Try.prog G_spec_l1OwnImage (an_spec_l1OwnImage (m, ())) (Try.f68.body.getD .skip) Try.f68.results.toList C_spec_l1OwnImage (m, ())) = (((((((0 : Nat) + (List.length (Img.bytes m))) * (1 : Nat)) ≤ (140737488355328 : Nat)) ∧
 (((0 : Nat) + (List.length (Img.bytes m))) ≤ (1000000000000 : Nat))) ∧
 (((Img.base m) = (Img.base m)) ∧
 ((@Eq (List Int) (Img.bytes m) (Img.bytes m)) ∧
 True)))) := by kernel_rfl
theorem det_spec_l1OwnImage : C_spec_l1OwnImage.det = true → ∀ x, (C_spec_l1OwnImage.out x).Det := fun _ x => by simp only [C_spec_l1OwnImage]; repeat (first | exact Det.ret _ | exact Det.vc' | apply Det.req | apply Det.giv | apply Det.fork | apply Det.bif' | intro _)
set_option maxRecDepth 200000 in
set_option maxHeartbeats 1000000 in
theorem ok_spec_l1OwnImage : ConOK Try.prog 68 C_spec_l1OwnImage := by
  refine con_mk (wr := false) (ty := tyL [(3, .i), (5, .u), (4, .bool), (9, .str), (126, .int .u64), (45, .st .fixup), (24, .st .img), (91, .st .patch), (65, .st .hash), (63, .list .i), (61, .list .str), (22, .list .u), (41, .st .fixup), (33, .st .img), (72, .st .hash)]) (l := []) trivial Try.checked.mixed (fn := Try.f68) (body := Try.f68.body.getD .skip) Try.func68 rfl (by decide) (by kernel_rfl) rfl an_spec_l1OwnImage fun x ho hx => ?_
  obtain ⟨m, ⟨⟩⟩ := x
  refine Keeps.of (vc_spec_l1OwnImage m) ?_
  revert m ho hx
  show ∀ (m : Img), _
  intro m ho hx
  dsimp only [C_spec_l1OwnImage, okPTL, okPT, Ok, Ty.cells, SN.cells, OkL, OkC, okI, ci, cb, cs, cl] at ho
  dsimp only [C_spec_l1OwnImage, vc, v1, decB, SR.pre] at hx
  simp only [decide_eq_true_eq, decide_eq_false_iff_not, Bool.not_eq_true', Bool.not_eq_false', and_true, true_and, Int.toNat_natCast, exists_eq_left', exists_eq_left, exists_and_left, Int.not_lt, Int.not_le, Bool.false_eq_true, false_implies, implies_true, forall_const, List.length_append, List.length_cons, List.length_nil, Int.sub_add_cancel, Int.add_sub_cancel, and_imp, get_set_iff, forall_eq', forall_eq, List.set_set, mkd_get, mkd_len, List.length_set, Option.some.injEq]; (repeat' first | intro _ | apply And.intro); all_goals (try omega); all_goals grind
def C_impl_PatchesValid : Con := { ps := [.ro (.st .img), .ro (.list (.st .patch))], out := fun x => let m : Img := x.1; let l : List (Patch) := x.2.1; vc .bool (patB m l), det := true }
def G_impl_PatchesValid : Cfg := mkG (tyL [(3, .i), (5, .u), (4, .bool), (9, .str), (126, .int .u64), (45, .st .fixup), (24, .st .img), (91, .st .patch), (65, .st .hash), (63, .list .i), (61, .list .str), (22, .list .u), (41, .st .fixup), (33, .st .img), (72, .st .hash)]) [(67, C_impl_ImageValid), (78, C_impl_within)] false
def an_impl_PatchesValid : PTL C_impl_PatchesValid.ps → Nat → Option Ann := fun x kk_ => let m : Img := x.1; let l : List (Patch) := x.2.1; if kk_ = 5 then some (.all (Int) fun i => .all (Int) fun a => .giv (imgOk m ∧ (l.length : Int) ≤ 1000 ∧ 0 ≤ i ∧ i ≤ l.length ∧ 0 ≤ a ∧ patsB (m.base + m.bytes.length) m.base l = patsB (m.base + m.bytes.length) a (l.drop i.toNat)) (.mk [(5, ai a), (6, ai (m.base + m.bytes.length)), (27, ai i), (25, al (.st .patch) l), (26, ai (List.length l))] [] ((l.length - i.toNat)))) else none
set_option maxRecDepth 200000 in
theorem vc_impl_PatchesValid (m : Img) (l : List (Patch)) : (keeps Try.prog G_impl_PatchesValid (an_impl_PatchesValid (m, l, ())) (Try.f35.body.getD .skip) Try.f35.results.toList C_impl_PatchesValid (m, l, ())) = (((((Bool.not (decide (imgOk m))) = true) →
 ((false = (patB m l)) ∧
 True)) ∧
 (((Bool.not (decide (imgOk m))) = false) →
 (((List.length l) ≤ (9223372036854775807 : Nat)) →
 ((((decide ((1000 : Int) < (@Nat.cast Int _ (List.length l)))) = true) →
 ((false = (patB m l)) ∧
 True)) ∧
 (((decide ((1000 : Int) < (@Nat.cast Int _ (List.length l)))) = false) →
 (((List.length (Img.bytes m)) ≤ (9223372036854775807 : Nat)) →
 ((((- (9223372036854775808 : Int)) ≤ ((Img.base m) + (@Nat.cast Int _ (List.length (Img.bytes m))))) ∧
 (((Img.base m) + (@Nat.cast Int _ (List.length (Img.bytes m)))) ≤ (9223372036854775807 : Int))) ∧
 (((List.length l) ≤ (9223372036854775807 : Nat)) →
 ((∃ (x_1 : Int), (∃ (x_2 : Int), (((Img.base m) = x_2) ∧
 ((((Img.base m) + (@Nat.cast Int _ (List.length (Img.bytes m)))) = ((Img.base m) + (@Nat.cast Int _ (List.length (Img.bytes m))))) ∧
 (((0 : Int) = x_1) ∧
 ((@Eq (List Patch) l l) ∧
 (((@Nat.cast Int _ (List.length l)) = (@Nat.cast Int _ (List.length l))) ∧
 (((imgOk m) ∧
 (((@Nat.cast Int _ (List.length l)) ≤ (1000 : Int)) ∧
 (((0 : Int) ≤ x_1) ∧
 ((x_1 ≤ (@Nat.cast Int _ (List.length l))) ∧
 (((0 : Int) ≤ x_2) ∧
 ((patsB ((Img.base m) + (@Nat.cast Int _ (List.length (Img.bytes m)))) (Img.base m) l) = (patsB ((Img.base m) + (@Nat.cast Int _ (List.length (Img.bytes m)))) x_2 (List.drop (Int.toNat x_1) l)))))))) ∧
 True)))))))) ∧
 (∀ (x_3 : Int), (∀ (x_4 : Int), (((imgOk m) ∧
 (((@Nat.cast Int _ (List.length l)) ≤ (1000 : Int)) ∧
 (((0 : Int) ≤ x_3) ∧
 ((x_3 ≤ (@Nat.cast Int _ (List.length l))) ∧
 (((0 : Int) ≤ x_4) ∧
 ((patsB ((Img.base m) + (@Nat.cast Int _ (List.length (Img.bytes m)))) (Img.base m) l) = (patsB ((Img.base m) + (@Nat.cast Int _ (List.length (Img.bytes m)))) x_4 (List.drop (Int.toNat x_3) l)))))))) →
 ((((decide (x_3 < (@Nat.cast Int _ (List.length l)))) = true) →
 ((((0 : Int) ≤ x_3) ∧
 (x_3 < (@Nat.cast Int _ (List.length l)))) ∧
 (∀ (x_5 : Patch), ((@Eq (Option Patch) (l)[(Int.toNat x_3)]? (some x_5)) →
 ((Ok (Ty.st SN.patch) x_5) →
 (((List.length (Patch.bytes x_5)) ≤ (9223372036854775807 : Nat)) →
 ((((decide ((@Nat.cast Int _ (List.length (Patch.bytes x_5))) = (0 : Int))) = true) →
 ((false = (patB m l)) ∧
 True)) ∧
 (((decide ((@Nat.cast Int _ (List.length (Patch.bytes x_5))) = (0 : Int))) = false) →
 (((List.length (Patch.bytes x_5)) ≤ (9223372036854775807 : Nat)) →
 ((((- (9223372036854775808 : Int)) ≤ (((Img.base m) + (@Nat.cast Int _ (List.length (Img.bytes m)))) - (@Nat.cast Int _ (List.length (Patch.bytes x_5))))) ∧
 ((((Img.base m) + (@Nat.cast Int _ (List.length (Img.bytes m)))) - (@Nat.cast Int _ (List.length (Patch.bytes x_5)))) ≤ (9223372036854775807 : Int))) ∧
 ((((Bool.not (decide ((x_4 ≤ (Patch.at_ x_5)) ∧
 ((Patch.at_ x_5) ≤ (((Img.base m) + (@Nat.cast Int _ (List.length (Img.bytes m)))) - (@Nat.cast Int _ (List.length (Patch.bytes x_5)))))))) = true) →
 ((false = (patB m l)) ∧
 True)) ∧
 (((Bool.not (decide ((x_4 ≤ (Patch.at_ x_5)) ∧
 ((Patch.at_ x_5) ≤ (((Img.base m) + (@Nat.cast Int _ (List.length (Img.bytes m)))) - (@Nat.cast Int _ (List.length (Patch.bytes x_5)))))))) = false) →
 (((List.length (Patch.bytes x_5)) ≤ (9223372036854775807 : Nat)) →
 ((((- (9223372036854775808 : Int)) ≤ ((Patch.at_ x_5) + (@Nat.cast Int _ (List.length (Patch.bytes x_5))))) ∧
 (((Patch.at_ x_5) + (@Nat.cast Int _ (List.length (Patch.bytes x_5)))) ≤ (9223372036854775807 : Int))) ∧
 ((((- (9223372036854775808 : Int)) ≤ (((Patch.at_ x_5) + (@Nat.cast Int _ (List.length (Patch.bytes x_5)))) + (1 : Int))) ∧
 ((((Patch.at_ x_5) + (@Nat.cast Int _ (List.length (Patch.bytes x_5)))) + (1 : Int)) ≤ (9223372036854775807 : Int))) ∧
 ((((- (9223372036854775808 : Int)) ≤ (x_3 + (1 : Int))) ∧
 ((x_3 + (1 : Int)) ≤ (9223372036854775807 : Int))) ∧
 (∃ (x_6 : Int), (∃ (x_7 : Int), (((((Patch.at_ x_5) + (@Nat.cast Int _ (List.length (Patch.bytes x_5)))) + (1 : Int)) = x_7) ∧
 ((((Img.base m) + (@Nat.cast Int _ (List.length (Img.bytes m)))) = ((Img.base m) + (@Nat.cast Int _ (List.length (Img.bytes m))))) ∧
 (((x_3 + (1 : Int)) = x_6) ∧
 ((@Eq (List Patch) l l) ∧
 (((@Nat.cast Int _ (List.length l)) = (@Nat.cast Int _ (List.length l))) ∧
 (((imgOk m) ∧
 (((@Nat.cast Int _ (List.length l)) ≤ (1000 : Int)) ∧
 (((0 : Int) ≤ x_6) ∧
 ((x_6 ≤ (@Nat.cast Int _ (List.length l))) ∧
 (((0 : Int) ≤ x_7) ∧
 ((patsB ((Img.base m) + (@Nat.cast Int _ (List.length (Img.bytes m)))) (Img.base m) l) = (patsB ((Img.base m) + (@Nat.cast Int _ (List.length (Img.bytes m)))) x_7 (List.drop (Int.toNat x_6) l)))))))) ∧
 (((List.length l) - (Int.toNat x_6)) < ((List.length l) - (Int.toNat x_3))))))))))))))))))))))))))) ∧
 (((decide (x_3 < (@Nat.cast Int _ (List.length l)))) = false) →
 ((true = (patB m l)) ∧
 True)))))))))))))))) := by kernel_rfl
theorem det_impl_PatchesValid : C_impl_PatchesValid.det = true → ∀ x, (C_impl_PatchesValid.out x).Det := fun _ x => by simp only [C_impl_PatchesValid]; repeat (first | exact Det.ret _ | exact Det.vc' | apply Det.req | apply Det.giv | apply Det.fork | apply Det.bif' | intro _)
set_option maxRecDepth 200000 in
set_option maxHeartbeats 1000000 in
theorem ok_impl_PatchesValid : ConOK Try.prog 35 C_impl_PatchesValid := by
  refine con_mk (wr := false) (ty := tyL [(3, .i), (5, .u), (4, .bool), (9, .str), (126, .int .u64), (45, .st .fixup), (24, .st .img), (91, .st .patch), (65, .st .hash), (63, .list .i), (61, .list .str), (22, .list .u), (41, .st .fixup), (33, .st .img), (72, .st .hash)]) (l := [(67, C_impl_ImageValid), (78, C_impl_within)]) ⟨⟨ok_impl_ImageValid, det_impl_ImageValid⟩, ⟨⟨ok_impl_within, det_impl_within⟩, trivial⟩⟩ Try.checked.mixed (fn := Try.f35) (body := Try.f35.body.getD .skip) Try.func35 rfl (by decide) (by kernel_rfl) rfl an_impl_PatchesValid fun x ho hx => ?_
  obtain ⟨m, l, ⟨⟩⟩ := x
  refine Keeps.of (vc_impl_PatchesValid m l) ?_
  revert m l ho hx
  show ∀ (m : Img) (l : List (Patch)), _
  intro m l ho hx
  dsimp only [C_impl_PatchesValid, okPTL, okPT, Ok, Ty.cells, SN.cells, OkL, OkC, okI, ci, cb, cs, cl] at ho
  dsimp only [C_impl_PatchesValid, vc, v1, decB, SR.pre] at hx
  simp only [decide_eq_true_eq, decide_eq_false_iff_not, Bool.not_eq_true', Bool.not_eq_false', and_true, true_and, Int.toNat_natCast, exists_eq_left', exists_eq_left, exists_and_left, Int.not_lt, Int.not_le, Bool.false_eq_true, false_implies, implies_true, forall_const, List.length_append, List.length_cons, List.length_nil, Int.sub_add_cancel, Int.add_sub_cancel, and_imp, get_set_iff, forall_eq', forall_eq, List.set_set, mkd_get, mkd_len, List.length_set, Option.some.injEq]; (repeat' first | intro _ | apply And.intro); all_goals (try omega); all_goals (try have hdr := drop_get' (l := l) (by assumption) (by assumption)); all_goals grind [patB, patsB, drop_end, imgOk, isBase]
def C_spec_PatchesValid : Con := { ps := [.ro (.st .img), .ro (.list (.st .patch))], out := fun x => let m : Img := x.1; let l : List (Patch) := x.2.1; vc .bool (patB m l), det := true }
def G_spec_PatchesValid : Cfg := mkG (tyL [(3, .i), (5, .u), (4, .bool), (9, .str), (126, .int .u64), (45, .st .fixup), (24, .st .img), (91, .st .patch), (65, .st .hash), (63, .list .i), (61, .list .str), (22, .list .u), (41, .st .fixup), (33, .st .img), (72, .st .hash)]) [(69, C_spec_ImageValid)] true
def an_spec_PatchesValid : PTL C_spec_PatchesValid.ps → Nat → Option Ann := fun x kk_ => let m : Img := x.1; let l : List (Patch) := x.2.1; if kk_ = 3 then some (.all (Int) fun i => .all (Int) fun a => .giv (0 ≤ i ∧ i ≤ l.length ∧ (imgOk m → 0 ≤ a ∧ patsB (m.base + m.bytes.length) m.base l = patsB (m.base + m.bytes.length) a (l.drop i.toNat))) (.mk [(5, ai a), (6, ai i), (1, al (.st .patch) l), (2, aref 62)] [(62, bx (ast .img m))] ((l.length - i.toNat)))) else none
set_option maxRecDepth 200000 in
theorem vc_spec_PatchesValid (m : Img) (l : List (Patch)) : (keeps Try.prog G_spec_PatchesValid (an_spec_PatchesValid (m, l, ())) (Try.f83.body.getD .skip) Try.f83.results.toList C_spec_PatchesValid (m, l, ())) = (((∃ (x_1 : Int), (∃ (x_2 : Int), (((Img.base m) = x_2) ∧
 (((0 : Int) = x_1) ∧
 ((@Eq (List Patch) l l) ∧
 (((Img.base m) = (Img.base m)) ∧
 ((@Eq (List Int) (Img.bytes m) (Img.bytes m)) ∧
 ((((0 : Int) ≤ x_1) ∧
 ((x_1 ≤ (@Nat.cast Int _ (List.length l))) ∧
 ((imgOk m) →
 (((0 : Int) ≤ x_2) ∧
 ((patsB ((Img.base m) + (@Nat.cast Int _ (List.length (Img.bytes m)))) (Img.base m) l) = (patsB ((Img.base m) + (@Nat.cast Int _ (List.length (Img.bytes m)))) x_2 (List.drop (Int.toNat x_1) l))))))) ∧
 True)))))))) ∧
 (∀ (x_3 : Int), (∀ (x_4 : Int), ((((0 : Int) ≤ x_3) ∧
 ((x_3 ≤ (@Nat.cast Int _ (List.length l))) ∧
 ((imgOk m) →
 (((0 : Int) ≤ x_4) ∧
 ((patsB ((Img.base m) + (@Nat.cast Int _ (List.length (Img.bytes m)))) (Img.base m) l) = (patsB ((Img.base m) + (@Nat.cast Int _ (List.length (Img.bytes m)))) x_4 (List.drop (Int.toNat x_3) l))))))) →
 (((List.length l) ≤ (9223372036854775807 : Nat)) →
 ((((decide (x_3 < (@Nat.cast Int _ (List.length l)))) = true) →
 ((((0 : Int) ≤ x_3) ∧
 (x_3 < (@Nat.cast Int _ (List.length l)))) ∧
 (∀ (x_5 : Patch), ((@Eq (Option Patch) (l)[(Int.toNat x_3)]? (some x_5)) →
 ((Ok (Ty.st SN.patch) x_5) →
 ((((decide ((Patch.at_ x_5) < x_4)) = true) →
 ((false = (patB m l)) ∧
 True)) ∧
 (((decide ((Patch.at_ x_5) < x_4)) = false) →
 (((List.length (Patch.bytes x_5)) ≤ (9223372036854775807 : Nat)) →
 ((((decide ((@Nat.cast Int _ (List.length (Patch.bytes x_5))) = (0 : Int))) = true) →
 ((false = (patB m l)) ∧
 True)) ∧
 (((decide ((@Nat.cast Int _ (List.length (Patch.bytes x_5))) = (0 : Int))) = false) →
 (((List.length (Img.bytes m)) ≤ (9223372036854775807 : Nat)) →
 (((List.length (Patch.bytes x_5)) ≤ (9223372036854775807 : Nat)) →
 ((((decide ((IntKind.wrap IntKind.i64 ((IntKind.wrap IntKind.i64 ((Img.base m) + (@Nat.cast Int _ (List.length (Img.bytes m))))) - (@Nat.cast Int _ (List.length (Patch.bytes x_5))))) < (Patch.at_ x_5))) = true) →
 ((false = (patB m l)) ∧
 True)) ∧
 (((decide ((IntKind.wrap IntKind.i64 ((IntKind.wrap IntKind.i64 ((Img.base m) + (@Nat.cast Int _ (List.length (Img.bytes m))))) - (@Nat.cast Int _ (List.length (Patch.bytes x_5))))) < (Patch.at_ x_5))) = false) →
 (((List.length (Patch.bytes x_5)) ≤ (9223372036854775807 : Nat)) →
 (∃ (x_6 : Int), (∃ (x_7 : Int), (((IntKind.wrap IntKind.i64 ((IntKind.wrap IntKind.i64 ((Patch.at_ x_5) + (@Nat.cast Int _ (List.length (Patch.bytes x_5))))) + (1 : Int))) = x_7) ∧
 (((IntKind.wrap IntKind.i64 (x_3 + (1 : Int))) = x_6) ∧
 ((@Eq (List Patch) l l) ∧
 (((Img.base m) = (Img.base m)) ∧
 ((@Eq (List Int) (Img.bytes m) (Img.bytes m)) ∧
 ((((0 : Int) ≤ x_6) ∧
 ((x_6 ≤ (@Nat.cast Int _ (List.length l))) ∧
 ((imgOk m) →
 (((0 : Int) ≤ x_7) ∧
 ((patsB ((Img.base m) + (@Nat.cast Int _ (List.length (Img.bytes m)))) (Img.base m) l) = (patsB ((Img.base m) + (@Nat.cast Int _ (List.length (Img.bytes m)))) x_7 (List.drop (Int.toNat x_6) l))))))) ∧
 (((List.length l) - (Int.toNat x_6)) < ((List.length l) - (Int.toNat x_3)))))))))))))))))))))))))) ∧
 (((decide (x_3 < (@Nat.cast Int _ (List.length l)))) = false) →
 ((((decide (imgOk m)) = true) →
 (((List.length l) ≤ (9223372036854775807 : Nat)) →
 (((decide ((@Nat.cast Int _ (List.length l)) ≤ (1000 : Int))) = (patB m l)) ∧
 True))) ∧
 (((decide (imgOk m)) = false) →
 ((false = (patB m l)) ∧
 True))))))))))) := by kernel_rfl
theorem det_spec_PatchesValid : C_spec_PatchesValid.det = true → ∀ x, (C_spec_PatchesValid.out x).Det := fun _ x => by simp only [C_spec_PatchesValid]; repeat (first | exact Det.ret _ | exact Det.vc' | apply Det.req | apply Det.giv | apply Det.fork | apply Det.bif' | intro _)
set_option maxRecDepth 200000 in
set_option maxHeartbeats 1000000 in
theorem ok_spec_PatchesValid : ConOK Try.prog 83 C_spec_PatchesValid := by
  refine con_mk (wr := true) (ty := tyL [(3, .i), (5, .u), (4, .bool), (9, .str), (126, .int .u64), (45, .st .fixup), (24, .st .img), (91, .st .patch), (65, .st .hash), (63, .list .i), (61, .list .str), (22, .list .u), (41, .st .fixup), (33, .st .img), (72, .st .hash)]) (l := [(69, C_spec_ImageValid)]) ⟨⟨ok_spec_ImageValid, det_spec_ImageValid⟩, trivial⟩ Try.checked.mixed (fn := Try.f83) (body := Try.f83.body.getD .skip) Try.func83 rfl (by decide) (by kernel_rfl) rfl an_spec_PatchesValid fun x ho hx => ?_
  obtain ⟨m, l, ⟨⟩⟩ := x
  refine Keeps.of (vc_spec_PatchesValid m l) ?_
  revert m l ho hx
  show ∀ (m : Img) (l : List (Patch)), _
  intro m l ho hx
  dsimp only [C_spec_PatchesValid, okPTL, okPT, Ok, Ty.cells, SN.cells, OkL, OkC, okI, ci, cb, cs, cl] at ho
  dsimp only [C_spec_PatchesValid, vc, v1, decB, SR.pre] at hx
  simp only [decide_eq_true_eq, decide_eq_false_iff_not, Bool.not_eq_true', Bool.not_eq_false', and_true, true_and, Int.toNat_natCast, exists_eq_left', exists_eq_left, exists_and_left, Int.not_lt, Int.not_le, Bool.false_eq_true, false_implies, implies_true, forall_const, List.length_append, List.length_cons, List.length_nil, Int.sub_add_cancel, Int.add_sub_cancel, and_imp, get_set_iff, forall_eq', forall_eq, List.set_set, mkd_get, mkd_len, List.length_set, Option.some.injEq]; (repeat' first | intro _ | apply And.intro); all_goals (try omega); all_goals (try have hdr := drop_get' (l := l) (by assumption) (by assumption)); all_goals grind [patB, patsB, drop_end, imgOk, isBase, wrap_id]
end Go.Proofs.Ytdghhckdjbpfbaa
