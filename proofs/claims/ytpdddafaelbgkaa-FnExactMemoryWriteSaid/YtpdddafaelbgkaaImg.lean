/- Images, memories, patches: both packages keep the same contracts. -/
import Derived.Test.YtpdddafaelbgkaaLib
set_option linter.unusedVariables false
set_option linter.unusedSimpArgs false
namespace Go.Proofs.Ytpdddafaelbgkaa
open Go Go.RowKit


def imgOk (m : Img) : Prop := isBase m.base ∧ (m.bytes.length : Int) ≤ 2000
instance (m : Img) : Decidable (imgOk m) := by unfold imgOk; infer_instance
def imgByte (m : Img) (at_ : Int) : Int := if imgOk m ∧ m.base ≤ at_ ∧ at_ < m.base + m.bytes.length then m.bytes.getD (at_ - m.base).toNat 0 else -1
def regsB (hi : Int) : Int → List Region → Bool
  | _, [] => true
  | at_, r :: l => decide (at_ ≤ r.from_ ∧ r.from_ < r.to ∧ r.to ≤ hi) && regsB hi r.to l
def memB (m : Memo) : Bool := decide (imgOk m.what ∧ (m.regions.length : Int) ≤ 3) && regsB (m.what.base + m.what.bytes.length) m.what.base m.regions
def inReg (at_ : Int) (r : Region) : Bool := decide (r.from_ ≤ at_ ∧ at_ < r.to)
def regOf (at_ : Int) : List Region → Option Region
  | [] => none
  | r :: l => if inReg at_ r then some r else regOf at_ l
def regIx (at_ : Int) : List Region → Int → Int
  | [], _ => -1
  | r :: l, k => if inReg at_ r then k else regIx at_ l (k + 1)
def memRead (m : Memo) (at_ : Int) : Int := if memB m = true ∧ (regOf at_ m.regions).isSome then imgByte m.what at_ else -1
def mayW (m : Memo) (at_ v : Int) : Bool := memB m && (match regOf at_ m.regions with | some r => r.write | none => false) && decide (0 ≤ v ∧ v ≤ 255)
def memWrite (m : Memo) (at_ v : Int) : Memo :=
  if memB m = true then (if mayW m at_ v then ⟨⟨m.what.base, m.what.bytes.set (at_ - m.what.base).toNat v⟩, m.regions⟩ else m) else ⟨⟨0, []⟩, []⟩
def patsB (hi : Int) : Int → List Patch → Bool
  | _, [] => true
  | at_, p :: l => decide ((p.bytes.length : Int) ≠ 0 ∧ at_ ≤ p.at_ ∧ p.at_ ≤ hi - p.bytes.length) && patsB hi (p.at_ + p.bytes.length + 1) l
def patB (m : Img) (l : List Patch) : Bool := decide (imgOk m ∧ (l.length : Int) ≤ 1000) && patsB (m.base + m.bytes.length) m.base l
theorem imgOk_bd {m : Img} (h : imgOk m) : 0 ≤ m.base ∧ m.base ≤ 4096 ∧ (m.bytes.length : Int) ≤ 2000 := ⟨h.1.1, h.1.2.1, h.2⟩
theorem regsB_at {hi : Int} : ∀ {l : List Region} {at_ x : Int}, regsB hi at_ l = true → (regOf x l).isSome → at_ ≤ x ∧ x < hi := by
  intro l
  induction l with
  | nil => intro at_ x _ h; simp [regOf] at h
  | cons r l ih =>
    intro at_ x h hx
    simp only [regsB, Bool.and_eq_true, decide_eq_true_eq] at h
    simp only [regOf] at hx
    split at hx
    · rename_i hr
      simp only [inReg, decide_eq_true_eq] at hr
      omega
    · have := ih h.2 hx
      omega

theorem getN_one {l : List Int} {a : Int} : getN l a 1 = if 0 ≤ a ∧ a < l.length then l.getD a.toNat 0 else -1 := by
  by_cases h : 0 ≤ a ∧ a < l.length
  · rw [if_pos h]
    have hk : a.toNat < l.length := by omega
    have : getOk l a 1 = true := by simp [getOk]; omega
    rw [getN, if_pos this]
    have e : (l.drop a.toNat).take (1 : Int).toNat = [l[a.toNat]] := by
      rw [List.drop_eq_getElem_cons hk]; rfl
    rw [e]
    simp [undigs, List.getD, List.getElem?_eq_getElem hk]
  · rw [if_neg h]
    have : ¬ getOk l a 1 = true := by simp [getOk]; omega
    rw [getN, if_neg this]
theorem wrap_id {n : Int} (h : -9223372036854775808 ≤ n) (h' : n ≤ 9223372036854775807) : IntKind.wrap .i64 n = n := by
  simp [IntKind.wrap, IntKind.signed, IntKind.bits]
  split <;> omega
theorem regIx_ge {at_ : Int} : ∀ {l : List Region} {k : Int}, 0 ≤ k → (regIx at_ l k = -1 ∧ regOf at_ l = none) ∨ (k ≤ regIx at_ l k ∧ regIx at_ l k < k + l.length ∧ regOf at_ l = l[(regIx at_ l k - k).toNat]?) := by
  intro l
  induction l with
  | nil => intro k _; left; exact ⟨rfl, rfl⟩
  | cons r l ih =>
    intro k hk
    simp only [regIx, regOf]
    split
    · right
      refine ⟨by omega, by simp; omega, ?_⟩
      simp
    · rcases ih (k := k + 1) (by omega) with ⟨h1, h2⟩ | ⟨h1, h2, h3⟩
      · left; exact ⟨h1, h2⟩
      · right
        refine ⟨by omega, by simp; omega, ?_⟩
        rw [h3, show (regIx at_ l (k + 1) - k).toNat = (regIx at_ l (k + 1) - (k + 1)).toNat + 1 by omega]
        rfl
theorem mem_in {m : Memo} {at_ : Int} (h : memB m = true) (h' : (regOf at_ m.regions).isSome = true) : (m.what.base ≤ at_ ∧ at_ < m.what.base + m.what.bytes.length) ∧ 0 ≤ m.what.base ∧ m.what.base ≤ 4096 ∧ imgOk m.what := by
  simp only [memB, Bool.and_eq_true, decide_eq_true_eq] at h
  have hb := imgOk_bd h.1.1
  exact ⟨regsB_at h.2 h', hb.1, hb.2.1, h.1.1⟩
theorem reg_wr {o : Option Region} (h : (o.getD ⟨0, 0, false, false⟩).write = true) : o.isSome = true ∧ (match o with | some r => r.write | none => false) = true := by
  cases o with
  | none => cases h
  | some r => exact ⟨rfl, h⟩
theorem reg_nw {o : Option Region} (h : (o.getD ⟨0, 0, false, false⟩).write = false) : (match o with | some r => r.write | none => false) = false := by
  cases o with
  | none => rfl
  | some r => exact h
theorem mayW_iff {m : Memo} {at_ v : Int} : mayW m at_ v = true ↔ memB m = true ∧ (match regOf at_ m.regions with | some r => r.write | none => false) = true ∧ 0 ≤ v ∧ v ≤ 255 := by
  simp [mayW, and_assoc]
theorem mayW_in {m : Memo} {at_ v : Int} (h : mayW m at_ v = true) : memB m = true ∧ (regOf at_ m.regions).isSome = true := by
  rw [mayW_iff] at h
  refine ⟨h.1, ?_⟩
  have := h.2.1
  cases hr : regOf at_ m.regions with
  | none => rw [hr] at this; cases this
  | some r => rfl
theorem write_no {m : Memo} {at_ v : Int} (h : memB m = true) (h' : mayW m at_ v = false) : memWrite m at_ v = m := by simp [memWrite, h, h']
theorem write_bad {m : Memo} {at_ v : Int} (h : memB m = false) : memWrite m at_ v = ⟨⟨0, []⟩, []⟩ ∧ mayW m at_ v = false := by simp [memWrite, mayW, h]
theorem write_yes {m : Memo} {at_ v : Int} (h : mayW m at_ v = true) : memWrite m at_ v = ⟨⟨m.what.base, m.what.bytes.set (at_ - m.what.base).toNat v⟩, m.regions⟩ := by simp [memWrite, h, (mayW_in h).1]
def C_impl_ImageValid : Con := { ps := [.ro (.st .img)], out := fun x => let m : Img := x.1; vc .bool (decide (imgOk m)), det := true }
def G_impl_ImageValid : Cfg := mkG (tyL [(3, .i), (5, .u), (4, .bool), (9, .str), (163, .int .u64), (71, .st .fixup), (24, .st .img), (39, .st .region), (35, .st .mem), (30, .st .patch), (94, .st .hash), (92, .list .i), (90, .list .str), (22, .list .u), (67, .st .fixup), (52, .st .img), (149, .st .region), (55, .st .mem), (101, .st .hash)]) [(147, C_impl_isBase)] false
def an_impl_ImageValid : PTL C_impl_ImageValid.ps → Nat → Option Ann := fun _ _ => none
set_option maxRecDepth 200000 in
theorem vc_impl_ImageValid (m : Img) : (keeps Try.prog G_impl_ImageValid (an_impl_ImageValid (m, ())) (Try.f97.body.getD .skip) Try.f97.results.toList C_impl_ImageValid (m, ())) = (((((decide (Go.Proofs.Ytpdddafaelbgkaa.isBase (Go.Proofs.Ytpdddafaelbgkaa.Img.base m))) = true) →
 (((List.length (Go.Proofs.Ytpdddafaelbgkaa.Img.bytes m)) ≤ (9223372036854775807 : Nat)) →
 (((decide ((@Nat.cast Int _ (List.length (Go.Proofs.Ytpdddafaelbgkaa.Img.bytes m))) ≤ (2000 : Int))) = (decide (Go.Proofs.Ytpdddafaelbgkaa.imgOk m))) ∧
 True))) ∧
 (((decide (Go.Proofs.Ytpdddafaelbgkaa.isBase (Go.Proofs.Ytpdddafaelbgkaa.Img.base m))) = false) →
 ((false = (decide (Go.Proofs.Ytpdddafaelbgkaa.imgOk m))) ∧
 True)))) := by kernel_rfl
theorem det_impl_ImageValid : C_impl_ImageValid.det = true → ∀ x, (C_impl_ImageValid.out x).Det := fun _ x => by simp only [C_impl_ImageValid]; repeat (first | exact Det.ret _ | exact Det.vc' | apply Det.req | apply Det.giv | apply Det.fork | apply Det.bif' | intro _)
set_option maxRecDepth 200000 in
set_option maxHeartbeats 1000000 in
theorem ok_impl_ImageValid : ConOK Try.prog 97 C_impl_ImageValid := by
  refine con_mk (wr := false) (ty := tyL [(3, .i), (5, .u), (4, .bool), (9, .str), (163, .int .u64), (71, .st .fixup), (24, .st .img), (39, .st .region), (35, .st .mem), (30, .st .patch), (94, .st .hash), (92, .list .i), (90, .list .str), (22, .list .u), (67, .st .fixup), (52, .st .img), (149, .st .region), (55, .st .mem), (101, .st .hash)]) (l := [(147, C_impl_isBase)]) ⟨⟨ok_impl_isBase, det_impl_isBase⟩, trivial⟩ Try.checked.mixed (fn := Try.f97) (body := Try.f97.body.getD .skip) Try.func97 rfl (by decide) (by kernel_rfl) rfl an_impl_ImageValid fun x ho hx => ?_
  obtain ⟨m, ⟨⟩⟩ := x
  refine Keeps.of (vc_impl_ImageValid m) ?_
  revert m ho hx
  show ∀ (m : Img), _
  intro m ho hx
  dsimp only [C_impl_ImageValid, okPTL, okPT, Ok, Ty.cells, SN.cells, OkL, OkC, okI, ci, cb, cs, cl] at ho
  dsimp only [C_impl_ImageValid, vc, v1, decB, SR.pre] at hx
  simp only [decide_eq_true_eq, decide_eq_false_iff_not, Bool.not_eq_true', Bool.not_eq_false', and_true, true_and, and_assoc, Int.toNat_natCast, exists_eq_left', exists_eq_left, exists_and_left, Int.not_lt, Int.not_le, Bool.false_eq_true, false_implies, implies_true, forall_const, List.length_append, List.length_cons, List.length_nil, Int.sub_add_cancel, Int.add_sub_cancel]
  grind [imgOk]
def C_spec_ImageValid : Con := { ps := [.ro (.st .img)], out := fun x => let m : Img := x.1; vc .bool (decide (imgOk m)), det := true }
def G_spec_ImageValid : Cfg := mkG (tyL [(3, .i), (5, .u), (4, .bool), (9, .str), (163, .int .u64), (71, .st .fixup), (24, .st .img), (39, .st .region), (35, .st .mem), (30, .st .patch), (94, .st .hash), (92, .list .i), (90, .list .str), (22, .list .u), (67, .st .fixup), (52, .st .img), (149, .st .region), (55, .st .mem), (101, .st .hash)]) [(105, C_spec_l1In)] false
def an_spec_ImageValid : PTL C_spec_ImageValid.ps → Nat → Option Ann := fun _ _ => none
set_option maxRecDepth 200000 in
theorem vc_spec_ImageValid (m : Img) : (keeps Try.prog G_spec_ImageValid (an_spec_ImageValid (m, ())) (Try.f99.body.getD .skip) Try.f99.results.toList C_spec_ImageValid (m, ())) = (((((decide (((0 : Int) ≤ (Go.Proofs.Ytpdddafaelbgkaa.Img.base m)) ∧
 ((Go.Proofs.Ytpdddafaelbgkaa.Img.base m) ≤ (4096 : Int)))) = true) →
 ((((0 : Int) ≤ (Go.Proofs.Ytpdddafaelbgkaa.Img.base m)) ∧
 ((0 : Int) < (8 : Int))) ∧
 ((((decide (((Go.Proofs.Ytpdddafaelbgkaa.Img.base m) % (8 : Int)) = (0 : Int))) = true) →
 (((List.length (Go.Proofs.Ytpdddafaelbgkaa.Img.bytes m)) ≤ (9223372036854775807 : Nat)) →
 (((decide ((@Nat.cast Int _ (List.length (Go.Proofs.Ytpdddafaelbgkaa.Img.bytes m))) ≤ (2000 : Int))) = (decide (Go.Proofs.Ytpdddafaelbgkaa.imgOk m))) ∧
 True))) ∧
 (((decide (((Go.Proofs.Ytpdddafaelbgkaa.Img.base m) % (8 : Int)) = (0 : Int))) = false) →
 ((false = (decide (Go.Proofs.Ytpdddafaelbgkaa.imgOk m))) ∧
 True))))) ∧
 (((decide (((0 : Int) ≤ (Go.Proofs.Ytpdddafaelbgkaa.Img.base m)) ∧
 ((Go.Proofs.Ytpdddafaelbgkaa.Img.base m) ≤ (4096 : Int)))) = false) →
 ((false = (decide (Go.Proofs.Ytpdddafaelbgkaa.imgOk m))) ∧
 True)))) := by kernel_rfl
theorem det_spec_ImageValid : C_spec_ImageValid.det = true → ∀ x, (C_spec_ImageValid.out x).Det := fun _ x => by simp only [C_spec_ImageValid]; repeat (first | exact Det.ret _ | exact Det.vc' | apply Det.req | apply Det.giv | apply Det.fork | apply Det.bif' | intro _)
set_option maxRecDepth 200000 in
set_option maxHeartbeats 1000000 in
theorem ok_spec_ImageValid : ConOK Try.prog 99 C_spec_ImageValid := by
  refine con_mk (wr := false) (ty := tyL [(3, .i), (5, .u), (4, .bool), (9, .str), (163, .int .u64), (71, .st .fixup), (24, .st .img), (39, .st .region), (35, .st .mem), (30, .st .patch), (94, .st .hash), (92, .list .i), (90, .list .str), (22, .list .u), (67, .st .fixup), (52, .st .img), (149, .st .region), (55, .st .mem), (101, .st .hash)]) (l := [(105, C_spec_l1In)]) ⟨⟨ok_spec_l1In, det_spec_l1In⟩, trivial⟩ Try.checked.mixed (fn := Try.f99) (body := Try.f99.body.getD .skip) Try.func99 rfl (by decide) (by kernel_rfl) rfl an_spec_ImageValid fun x ho hx => ?_
  obtain ⟨m, ⟨⟩⟩ := x
  refine Keeps.of (vc_spec_ImageValid m) ?_
  revert m ho hx
  show ∀ (m : Img), _
  intro m ho hx
  dsimp only [C_spec_ImageValid, okPTL, okPT, Ok, Ty.cells, SN.cells, OkL, OkC, okI, ci, cb, cs, cl] at ho
  dsimp only [C_spec_ImageValid, vc, v1, decB, SR.pre] at hx
  simp only [decide_eq_true_eq, decide_eq_false_iff_not, Bool.not_eq_true', Bool.not_eq_false', and_true, true_and, and_assoc, Int.toNat_natCast, exists_eq_left', exists_eq_left, exists_and_left, Int.not_lt, Int.not_le, Bool.false_eq_true, false_implies, implies_true, forall_const, List.length_append, List.length_cons, List.length_nil, Int.sub_add_cancel, Int.add_sub_cancel]
  grind [imgOk, isBase]
def C_impl_ImageByte : Con := { ps := [.ro (.st .img), .ro .i], out := fun x => let m : Img := x.1; let at_ : Int := x.2.1; vc .i (imgByte m at_), det := true }
def G_impl_ImageByte : Cfg := mkG (tyL [(3, .i), (5, .u), (4, .bool), (9, .str), (163, .int .u64), (71, .st .fixup), (24, .st .img), (39, .st .region), (35, .st .mem), (30, .st .patch), (94, .st .hash), (92, .list .i), (90, .list .str), (22, .list .u), (67, .st .fixup), (52, .st .img), (149, .st .region), (55, .st .mem), (101, .st .hash)]) [(97, C_impl_ImageValid), (98, C_impl_within)] false
def an_impl_ImageByte : PTL C_impl_ImageByte.ps → Nat → Option Ann := fun _ _ => none
set_option maxRecDepth 200000 in
theorem vc_impl_ImageByte (m : Img) (at_ : Int) : (keeps Try.prog G_impl_ImageByte (an_impl_ImageByte (m, at_, ())) (Try.f61.body.getD .skip) Try.f61.results.toList C_impl_ImageByte (m, at_, ())) = (((((Bool.not (decide (Go.Proofs.Ytpdddafaelbgkaa.imgOk m))) = true) →
 (((- (1 : Int)) = (Go.Proofs.Ytpdddafaelbgkaa.imgByte m at_)) ∧
 True)) ∧
 (((Bool.not (decide (Go.Proofs.Ytpdddafaelbgkaa.imgOk m))) = false) →
 (((List.length (Go.Proofs.Ytpdddafaelbgkaa.Img.bytes m)) ≤ (9223372036854775807 : Nat)) →
 ((((- (9223372036854775808 : Int)) ≤ ((Go.Proofs.Ytpdddafaelbgkaa.Img.base m) + (@Nat.cast Int _ (List.length (Go.Proofs.Ytpdddafaelbgkaa.Img.bytes m))))) ∧
 (((Go.Proofs.Ytpdddafaelbgkaa.Img.base m) + (@Nat.cast Int _ (List.length (Go.Proofs.Ytpdddafaelbgkaa.Img.bytes m)))) ≤ (9223372036854775807 : Int))) ∧
 ((((- (9223372036854775808 : Int)) ≤ (((Go.Proofs.Ytpdddafaelbgkaa.Img.base m) + (@Nat.cast Int _ (List.length (Go.Proofs.Ytpdddafaelbgkaa.Img.bytes m)))) - (1 : Int))) ∧
 ((((Go.Proofs.Ytpdddafaelbgkaa.Img.base m) + (@Nat.cast Int _ (List.length (Go.Proofs.Ytpdddafaelbgkaa.Img.bytes m)))) - (1 : Int)) ≤ (9223372036854775807 : Int))) ∧
 ((((Bool.not (decide (((Go.Proofs.Ytpdddafaelbgkaa.Img.base m) ≤ at_) ∧
 (at_ ≤ (((Go.Proofs.Ytpdddafaelbgkaa.Img.base m) + (@Nat.cast Int _ (List.length (Go.Proofs.Ytpdddafaelbgkaa.Img.bytes m)))) - (1 : Int)))))) = true) →
 (((- (1 : Int)) = (Go.Proofs.Ytpdddafaelbgkaa.imgByte m at_)) ∧
 True)) ∧
 (((Bool.not (decide (((Go.Proofs.Ytpdddafaelbgkaa.Img.base m) ≤ at_) ∧
 (at_ ≤ (((Go.Proofs.Ytpdddafaelbgkaa.Img.base m) + (@Nat.cast Int _ (List.length (Go.Proofs.Ytpdddafaelbgkaa.Img.bytes m)))) - (1 : Int)))))) = false) →
 ((((- (9223372036854775808 : Int)) ≤ (at_ - (Go.Proofs.Ytpdddafaelbgkaa.Img.base m))) ∧
 ((at_ - (Go.Proofs.Ytpdddafaelbgkaa.Img.base m)) ≤ (9223372036854775807 : Int))) ∧
 ((((0 : Int) ≤ (at_ - (Go.Proofs.Ytpdddafaelbgkaa.Img.base m))) ∧
 ((at_ - (Go.Proofs.Ytpdddafaelbgkaa.Img.base m)) < (@Nat.cast Int _ (List.length (Go.Proofs.Ytpdddafaelbgkaa.Img.bytes m))))) ∧
 (∀ (x_1 : Int), ((@Eq (Option Int) ((Go.Proofs.Ytpdddafaelbgkaa.Img.bytes m))[(Int.toNat (at_ - (Go.Proofs.Ytpdddafaelbgkaa.Img.base m)))]? (some x_1)) →
 ((Go.Proofs.Ytpdddafaelbgkaa.Ok (Go.Proofs.Ytpdddafaelbgkaa.Ty.int Go.IntKind.u8) x_1) →
 ((x_1 = (Go.Proofs.Ytpdddafaelbgkaa.imgByte m at_)) ∧
 True)))))))))))))) := by kernel_rfl
theorem det_impl_ImageByte : C_impl_ImageByte.det = true → ∀ x, (C_impl_ImageByte.out x).Det := fun _ x => by simp only [C_impl_ImageByte]; repeat (first | exact Det.ret _ | exact Det.vc' | apply Det.req | apply Det.giv | apply Det.fork | apply Det.bif' | intro _)
set_option maxRecDepth 200000 in
set_option maxHeartbeats 1000000 in
theorem ok_impl_ImageByte : ConOK Try.prog 61 C_impl_ImageByte := by
  refine con_mk (wr := false) (ty := tyL [(3, .i), (5, .u), (4, .bool), (9, .str), (163, .int .u64), (71, .st .fixup), (24, .st .img), (39, .st .region), (35, .st .mem), (30, .st .patch), (94, .st .hash), (92, .list .i), (90, .list .str), (22, .list .u), (67, .st .fixup), (52, .st .img), (149, .st .region), (55, .st .mem), (101, .st .hash)]) (l := [(97, C_impl_ImageValid), (98, C_impl_within)]) ⟨⟨ok_impl_ImageValid, det_impl_ImageValid⟩, ⟨⟨ok_impl_within, det_impl_within⟩, trivial⟩⟩ Try.checked.mixed (fn := Try.f61) (body := Try.f61.body.getD .skip) Try.func61 rfl (by decide) (by kernel_rfl) rfl an_impl_ImageByte fun x ho hx => ?_
  obtain ⟨m, at_, ⟨⟩⟩ := x
  refine Keeps.of (vc_impl_ImageByte m at_) ?_
  revert m at_ ho hx
  show ∀ (m : Img) (at_ : Int), _
  intro m at_ ho hx
  dsimp only [C_impl_ImageByte, okPTL, okPT, Ok, Ty.cells, SN.cells, OkL, OkC, okI, ci, cb, cs, cl] at ho
  dsimp only [C_impl_ImageByte, vc, v1, decB, SR.pre] at hx
  simp only [decide_eq_true_eq, decide_eq_false_iff_not, Bool.not_eq_true', Bool.not_eq_false', and_true, true_and, Int.toNat_natCast, exists_eq_left', exists_eq_left, exists_and_left, Int.not_lt, Int.not_le, Bool.false_eq_true, false_implies, implies_true, forall_const, List.length_append, List.length_cons, List.length_nil, Int.sub_add_cancel, Int.add_sub_cancel, and_imp, get_set_iff, forall_eq', forall_eq, List.set_set, mkd_get, mkd_len, List.length_set, Option.some.injEq]; (repeat' first | intro _ | apply And.intro); all_goals (try omega); all_goals grind [imgByte, imgOk, isBase, getD_some]
def C_spec_ImageByte : Con := { ps := [.ro (.st .img), .ro .i], out := fun x => let m : Img := x.1; let at_ : Int := x.2.1; vc .i (imgByte m at_), det := true }
def G_spec_ImageByte : Cfg := mkG (tyL [(3, .i), (5, .u), (4, .bool), (9, .str), (163, .int .u64), (71, .st .fixup), (24, .st .img), (39, .st .region), (35, .st .mem), (30, .st .patch), (94, .st .hash), (92, .list .i), (90, .list .str), (22, .list .u), (67, .st .fixup), (52, .st .img), (149, .st .region), (55, .st .mem), (101, .st .hash)]) [(99, C_spec_ImageValid), (153, C_spec_GetNumber)] false
def an_spec_ImageByte : PTL C_spec_ImageByte.ps → Nat → Option Ann := fun _ _ => none
set_option maxRecDepth 200000 in
theorem vc_spec_ImageByte (m : Img) (at_ : Int) : (keeps Try.prog G_spec_ImageByte (an_spec_ImageByte (m, at_, ())) (Try.f117.body.getD .skip) Try.f117.results.toList C_spec_ImageByte (m, at_, ())) = (((((Bool.not (decide (Go.Proofs.Ytpdddafaelbgkaa.imgOk m))) = true) →
 (((- (1 : Int)) = (Go.Proofs.Ytpdddafaelbgkaa.imgByte m at_)) ∧
 True)) ∧
 (((Bool.not (decide (Go.Proofs.Ytpdddafaelbgkaa.imgOk m))) = false) →
 ((((decide (at_ < (Go.Proofs.Ytpdddafaelbgkaa.Img.base m))) = true) →
 (((- (1 : Int)) = (Go.Proofs.Ytpdddafaelbgkaa.imgByte m at_)) ∧
 True)) ∧
 (((decide (at_ < (Go.Proofs.Ytpdddafaelbgkaa.Img.base m))) = false) →
 ((((- (9223372036854775808 : Int)) ≤ (at_ - (Go.Proofs.Ytpdddafaelbgkaa.Img.base m))) ∧
 ((at_ - (Go.Proofs.Ytpdddafaelbgkaa.Img.base m)) ≤ (9223372036854775807 : Int))) ∧
 (((Go.Proofs.Ytpdddafaelbgkaa.getN (Go.Proofs.Ytpdddafaelbgkaa.Img.bytes m) (at_ - (Go.Proofs.Ytpdddafaelbgkaa.Img.base m)) (1 : Int)) = (Go.Proofs.Ytpdddafaelbgkaa.imgByte m at_)) ∧
 True))))))) := by kernel_rfl
theorem det_spec_ImageByte : C_spec_ImageByte.det = true → ∀ x, (C_spec_ImageByte.out x).Det := fun _ x => by simp only [C_spec_ImageByte]; repeat (first | exact Det.ret _ | exact Det.vc' | apply Det.req | apply Det.giv | apply Det.fork | apply Det.bif' | intro _)
set_option maxRecDepth 200000 in
set_option maxHeartbeats 1000000 in
theorem ok_spec_ImageByte : ConOK Try.prog 117 C_spec_ImageByte := by
  refine con_mk (wr := false) (ty := tyL [(3, .i), (5, .u), (4, .bool), (9, .str), (163, .int .u64), (71, .st .fixup), (24, .st .img), (39, .st .region), (35, .st .mem), (30, .st .patch), (94, .st .hash), (92, .list .i), (90, .list .str), (22, .list .u), (67, .st .fixup), (52, .st .img), (149, .st .region), (55, .st .mem), (101, .st .hash)]) (l := [(99, C_spec_ImageValid), (153, C_spec_GetNumber)]) ⟨⟨ok_spec_ImageValid, det_spec_ImageValid⟩, ⟨⟨ok_spec_GetNumber, det_spec_GetNumber⟩, trivial⟩⟩ Try.checked.mixed (fn := Try.f117) (body := Try.f117.body.getD .skip) Try.func117 rfl (by decide) (by kernel_rfl) rfl an_spec_ImageByte fun x ho hx => ?_
  obtain ⟨m, at_, ⟨⟩⟩ := x
  refine Keeps.of (vc_spec_ImageByte m at_) ?_
  revert m at_ ho hx
  show ∀ (m : Img) (at_ : Int), _
  intro m at_ ho hx
  dsimp only [C_spec_ImageByte, okPTL, okPT, Ok, Ty.cells, SN.cells, OkL, OkC, okI, ci, cb, cs, cl] at ho
  dsimp only [C_spec_ImageByte, vc, v1, decB, SR.pre] at hx
  simp only [decide_eq_true_eq, decide_eq_false_iff_not, Bool.not_eq_true', Bool.not_eq_false', and_true, true_and, Int.toNat_natCast, exists_eq_left', exists_eq_left, exists_and_left, Int.not_lt, Int.not_le, Bool.false_eq_true, false_implies, implies_true, forall_const, List.length_append, List.length_cons, List.length_nil, Int.sub_add_cancel, Int.add_sub_cancel, and_imp, get_set_iff, forall_eq', forall_eq, List.set_set, mkd_get, mkd_len, List.length_set, Option.some.injEq]; (repeat' first | intro _ | apply And.intro); all_goals (try omega); all_goals (first | grind [imgByte, imgOk, isBase, getN_one] | (have := getN_one (l := m.bytes) (a := at_ - m.base); grind [imgByte, imgOk, isBase]))
def C_impl_copyImage : Con := { ps := [.ro (.st .img)], out := fun x => let m : Img := x.1; .req (m.bytes.length ≤ 1048576) (newS .img m), det := true }
def G_impl_copyImage : Cfg := mkG (tyL [(3, .i), (5, .u), (4, .bool), (9, .str), (163, .int .u64), (71, .st .fixup), (24, .st .img), (39, .st .region), (35, .st .mem), (30, .st .patch), (94, .st .hash), (92, .list .i), (90, .list .str), (22, .list .u), (67, .st .fixup), (52, .st .img), (149, .st .region), (55, .st .mem), (101, .st .hash)]) [(114, C_slices_Clone_byte_byte)] false
def an_impl_copyImage : PTL C_impl_copyImage.ps → Nat → Option Ann := fun _ _ => none
set_option maxRecDepth 200000 in
theorem vc_impl_copyImage (m : Img) : (keeps Try.prog G_impl_copyImage (an_impl_copyImage (m, ())) (Try.f118.body.getD .skip) Try.f118.results.toList C_impl_copyImage (m, ())) = ((((List.length (Go.Proofs.Ytpdddafaelbgkaa.Img.bytes m)) ≤ (1048576 : Nat)) ∧
 (((Go.Proofs.Ytpdddafaelbgkaa.Img.base m) = (Go.Proofs.Ytpdddafaelbgkaa.Img.base m)) ∧
 ((@Eq (List Int) (Go.Proofs.Ytpdddafaelbgkaa.Img.bytes m) (Go.Proofs.Ytpdddafaelbgkaa.Img.bytes m)) ∧
 True)))) := by kernel_rfl
theorem det_impl_copyImage : C_impl_copyImage.det = true → ∀ x, (C_impl_copyImage.out x).Det := fun _ x => by simp only [C_impl_copyImage]; repeat (first | exact Det.ret _ | exact Det.vc' | apply Det.req | apply Det.giv | apply Det.fork | apply Det.bif' | intro _)
set_option maxRecDepth 200000 in
set_option maxHeartbeats 1000000 in
theorem ok_impl_copyImage : ConOK Try.prog 118 C_impl_copyImage := by
  refine con_mk (wr := false) (ty := tyL [(3, .i), (5, .u), (4, .bool), (9, .str), (163, .int .u64), (71, .st .fixup), (24, .st .img), (39, .st .region), (35, .st .mem), (30, .st .patch), (94, .st .hash), (92, .list .i), (90, .list .str), (22, .list .u), (67, .st .fixup), (52, .st .img), (149, .st .region), (55, .st .mem), (101, .st .hash)]) (l := [(114, C_slices_Clone_byte_byte)]) ⟨⟨ok_slices_Clone_byte_byte, det_slices_Clone_byte_byte⟩, trivial⟩ Try.checked.mixed (fn := Try.f118) (body := Try.f118.body.getD .skip) Try.func118 rfl (by decide) (by kernel_rfl) rfl an_impl_copyImage fun x ho hx => ?_
  obtain ⟨m, ⟨⟩⟩ := x
  refine Keeps.of (vc_impl_copyImage m) ?_
  revert m ho hx
  show ∀ (m : Img), _
  intro m ho hx
  dsimp only [C_impl_copyImage, okPTL, okPT, Ok, Ty.cells, SN.cells, OkL, OkC, okI, ci, cb, cs, cl] at ho
  dsimp only [C_impl_copyImage, vc, v1, decB, SR.pre] at hx
  simp only [decide_eq_true_eq, decide_eq_false_iff_not, Bool.not_eq_true', Bool.not_eq_false', and_true, true_and, Int.toNat_natCast, exists_eq_left', exists_eq_left, exists_and_left, Int.not_lt, Int.not_le, Bool.false_eq_true, false_implies, implies_true, forall_const, List.length_append, List.length_cons, List.length_nil, Int.sub_add_cancel, Int.add_sub_cancel, and_imp, get_set_iff, forall_eq', forall_eq, List.set_set, mkd_get, mkd_len, List.length_set, Option.some.injEq]; (repeat' first | intro _ | apply And.intro); all_goals (try omega); all_goals grind
def C_spec_l1OwnImage : Con := { ps := [.ro (.st .img)], out := fun x => let m : Img := x.1; .req (m.bytes.length ≤ 1048576) (newS .img m), det := true }
def G_spec_l1OwnImage : Cfg := mkG (tyL [(3, .i), (5, .u), (4, .bool), (9, .str), (163, .int .u64), (71, .st .fixup), (24, .st .img), (39, .st .region), (35, .st .mem), (30, .st .patch), (94, .st .hash), (92, .list .i), (90, .list .str), (22, .list .u), (67, .st .fixup), (52, .st .img), (149, .st .region), (55, .st .mem), (101, .st .hash)]) [] false
def an_spec_l1OwnImage : PTL C_spec_l1OwnImage.ps → Nat → Option Ann := fun _ _ => none
set_option maxRecDepth 200000 in
theorem vc_spec_l1OwnImage (m : Img) : (keeps Try.prog G_spec_l1OwnImage (an_spec_l1OwnImage (m, ())) (Try.f107.body.getD .skip) Try.f107.results.toList C_spec_l1OwnImage (m, ())) = (((((((0 : Nat) + (List.length (Go.Proofs.Ytpdddafaelbgkaa.Img.bytes m))) * (1 : Nat)) ≤ (140737488355328 : Nat)) ∧
 (((0 : Nat) + (List.length (Go.Proofs.Ytpdddafaelbgkaa.Img.bytes m))) ≤ (1000000000000 : Nat))) ∧
 (((Go.Proofs.Ytpdddafaelbgkaa.Img.base m) = (Go.Proofs.Ytpdddafaelbgkaa.Img.base m)) ∧
 ((@Eq (List Int) (Go.Proofs.Ytpdddafaelbgkaa.Img.bytes m) (Go.Proofs.Ytpdddafaelbgkaa.Img.bytes m)) ∧
 True)))) := by kernel_rfl
theorem det_spec_l1OwnImage : C_spec_l1OwnImage.det = true → ∀ x, (C_spec_l1OwnImage.out x).Det := fun _ x => by simp only [C_spec_l1OwnImage]; repeat (first | exact Det.ret _ | exact Det.vc' | apply Det.req | apply Det.giv | apply Det.fork | apply Det.bif' | intro _)
set_option maxRecDepth 200000 in
set_option maxHeartbeats 1000000 in
theorem ok_spec_l1OwnImage : ConOK Try.prog 107 C_spec_l1OwnImage := by
  refine con_mk (wr := false) (ty := tyL [(3, .i), (5, .u), (4, .bool), (9, .str), (163, .int .u64), (71, .st .fixup), (24, .st .img), (39, .st .region), (35, .st .mem), (30, .st .patch), (94, .st .hash), (92, .list .i), (90, .list .str), (22, .list .u), (67, .st .fixup), (52, .st .img), (149, .st .region), (55, .st .mem), (101, .st .hash)]) (l := []) trivial Try.checked.mixed (fn := Try.f107) (body := Try.f107.body.getD .skip) Try.func107 rfl (by decide) (by kernel_rfl) rfl an_spec_l1OwnImage fun x ho hx => ?_
  obtain ⟨m, ⟨⟩⟩ := x
  refine Keeps.of (vc_spec_l1OwnImage m) ?_
  revert m ho hx
  show ∀ (m : Img), _
  intro m ho hx
  dsimp only [C_spec_l1OwnImage, okPTL, okPT, Ok, Ty.cells, SN.cells, OkL, OkC, okI, ci, cb, cs, cl] at ho
  dsimp only [C_spec_l1OwnImage, vc, v1, decB, SR.pre] at hx
  simp only [decide_eq_true_eq, decide_eq_false_iff_not, Bool.not_eq_true', Bool.not_eq_false', and_true, true_and, Int.toNat_natCast, exists_eq_left', exists_eq_left, exists_and_left, Int.not_lt, Int.not_le, Bool.false_eq_true, false_implies, implies_true, forall_const, List.length_append, List.length_cons, List.length_nil, Int.sub_add_cancel, Int.add_sub_cancel, and_imp, get_set_iff, forall_eq', forall_eq, List.set_set, mkd_get, mkd_len, List.length_set, Option.some.injEq]; (repeat' first | intro _ | apply And.intro); all_goals (try omega); all_goals grind
def C_spec_l1OwnMemory : Con := { ps := [.ro (.st .mem)], out := fun x => let m : Memo := x.1; .req (m.what.bytes.length ≤ 1048576 ∧ m.regions.length ≤ 1048576) (newS .mem m), det := true }
def G_spec_l1OwnMemory : Cfg := mkG (tyL [(3, .i), (5, .u), (4, .bool), (9, .str), (163, .int .u64), (71, .st .fixup), (24, .st .img), (39, .st .region), (35, .st .mem), (30, .st .patch), (94, .st .hash), (92, .list .i), (90, .list .str), (22, .list .u), (67, .st .fixup), (52, .st .img), (149, .st .region), (55, .st .mem), (101, .st .hash)]) [(107, C_spec_l1OwnImage)] false
def an_spec_l1OwnMemory : PTL C_spec_l1OwnMemory.ps → Nat → Option Ann := fun _ _ => none
set_option maxRecDepth 200000 in
theorem vc_spec_l1OwnMemory (m : Memo) : (keeps Try.prog G_spec_l1OwnMemory (an_spec_l1OwnMemory (m, ())) (Try.f122.body.getD .skip) Try.f122.results.toList C_spec_l1OwnMemory (m, ())) = ((((List.length (Go.Proofs.Ytpdddafaelbgkaa.Img.bytes (Go.Proofs.Ytpdddafaelbgkaa.Memo.what m))) ≤ (1048576 : Nat)) ∧
 ((((((0 : Nat) + (List.length (Go.Proofs.Ytpdddafaelbgkaa.Memo.regions m))) * (24 : Nat)) ≤ (140737488355328 : Nat)) ∧
 (((0 : Nat) + (List.length (Go.Proofs.Ytpdddafaelbgkaa.Memo.regions m))) ≤ (1000000000000 : Nat))) ∧
 (((Go.Proofs.Ytpdddafaelbgkaa.Img.base (Go.Proofs.Ytpdddafaelbgkaa.Memo.what m)) = (Go.Proofs.Ytpdddafaelbgkaa.Img.base (Go.Proofs.Ytpdddafaelbgkaa.Memo.what m))) ∧
 ((@Eq (List Int) (Go.Proofs.Ytpdddafaelbgkaa.Img.bytes (Go.Proofs.Ytpdddafaelbgkaa.Memo.what m)) (Go.Proofs.Ytpdddafaelbgkaa.Img.bytes (Go.Proofs.Ytpdddafaelbgkaa.Memo.what m))) ∧
 ((@Eq (List Go.Proofs.Ytpdddafaelbgkaa.Region) (Go.Proofs.Ytpdddafaelbgkaa.Memo.regions m) (Go.Proofs.Ytpdddafaelbgkaa.Memo.regions m)) ∧
 True)))))) := by kernel_rfl
theorem det_spec_l1OwnMemory : C_spec_l1OwnMemory.det = true → ∀ x, (C_spec_l1OwnMemory.out x).Det := fun _ x => by simp only [C_spec_l1OwnMemory]; repeat (first | exact Det.ret _ | exact Det.vc' | apply Det.req | apply Det.giv | apply Det.fork | apply Det.bif' | intro _)
set_option maxRecDepth 200000 in
set_option maxHeartbeats 1000000 in
theorem ok_spec_l1OwnMemory : ConOK Try.prog 122 C_spec_l1OwnMemory := by
  refine con_mk (wr := false) (ty := tyL [(3, .i), (5, .u), (4, .bool), (9, .str), (163, .int .u64), (71, .st .fixup), (24, .st .img), (39, .st .region), (35, .st .mem), (30, .st .patch), (94, .st .hash), (92, .list .i), (90, .list .str), (22, .list .u), (67, .st .fixup), (52, .st .img), (149, .st .region), (55, .st .mem), (101, .st .hash)]) (l := [(107, C_spec_l1OwnImage)]) ⟨⟨ok_spec_l1OwnImage, det_spec_l1OwnImage⟩, trivial⟩ Try.checked.mixed (fn := Try.f122) (body := Try.f122.body.getD .skip) Try.func122 rfl (by decide) (by kernel_rfl) rfl an_spec_l1OwnMemory fun x ho hx => ?_
  obtain ⟨m, ⟨⟩⟩ := x
  refine Keeps.of (vc_spec_l1OwnMemory m) ?_
  revert m ho hx
  show ∀ (m : Memo), _
  intro m ho hx
  dsimp only [C_spec_l1OwnMemory, okPTL, okPT, Ok, Ty.cells, SN.cells, OkL, OkC, okI, ci, cb, cs, cl] at ho
  dsimp only [C_spec_l1OwnMemory, vc, v1, decB, SR.pre] at hx
  simp only [decide_eq_true_eq, decide_eq_false_iff_not, Bool.not_eq_true', Bool.not_eq_false', and_true, true_and, Int.toNat_natCast, exists_eq_left', exists_eq_left, exists_and_left, Int.not_lt, Int.not_le, Bool.false_eq_true, false_implies, implies_true, forall_const, List.length_append, List.length_cons, List.length_nil, Int.sub_add_cancel, Int.add_sub_cancel, and_imp, get_set_iff, forall_eq', forall_eq, List.set_set, mkd_get, mkd_len, List.length_set, Option.some.injEq]; (repeat' first | intro _ | apply And.intro); all_goals (try omega); all_goals grind
def C_impl_MemoryValid : Con := { ps := [.ro (.st .mem)], out := fun x => let m : Memo := x.1; vc .bool (memB m), det := true }
def G_impl_MemoryValid : Cfg := mkG (tyL [(3, .i), (5, .u), (4, .bool), (9, .str), (163, .int .u64), (71, .st .fixup), (24, .st .img), (39, .st .region), (35, .st .mem), (30, .st .patch), (94, .st .hash), (92, .list .i), (90, .list .str), (22, .list .u), (67, .st .fixup), (52, .st .img), (149, .st .region), (55, .st .mem), (101, .st .hash)]) [(97, C_impl_ImageValid)] false
def an_impl_MemoryValid : PTL C_impl_MemoryValid.ps → Nat → Option Ann := fun x kk_ => let m : Memo := x.1; if kk_ = 5 then some (.all (Int) fun i => .all (Int) fun a => .giv (imgOk m.what ∧ (m.regions.length : Int) ≤ 3 ∧ 0 ≤ i ∧ i ≤ m.regions.length ∧ regsB (m.what.base + m.what.bytes.length) m.what.base m.regions = regsB (m.what.base + m.what.bytes.length) a (m.regions.drop i.toNat)) (.mk [(3, ai a), (20, al (.st .region) m.regions), (22, ai i), (1, aref 61), (21, ai (List.length m.regions))] [(61, bx (ast .mem m))] ((m.regions.length - i.toNat)))) else none
set_option maxRecDepth 200000 in
theorem vc_impl_MemoryValid (m : Memo) : (keeps Try.prog G_impl_MemoryValid (an_impl_MemoryValid (m, ())) (Try.f29.body.getD .skip) Try.f29.results.toList C_impl_MemoryValid (m, ())) = (((((Bool.not (decide (Go.Proofs.Ytpdddafaelbgkaa.imgOk (Go.Proofs.Ytpdddafaelbgkaa.Memo.what m)))) = true) →
 ((false = (Go.Proofs.Ytpdddafaelbgkaa.memB m)) ∧
 True)) ∧
 (((Bool.not (decide (Go.Proofs.Ytpdddafaelbgkaa.imgOk (Go.Proofs.Ytpdddafaelbgkaa.Memo.what m)))) = false) →
 (((List.length (Go.Proofs.Ytpdddafaelbgkaa.Memo.regions m)) ≤ (9223372036854775807 : Nat)) →
 ((((decide ((3 : Int) < (@Nat.cast Int _ (List.length (Go.Proofs.Ytpdddafaelbgkaa.Memo.regions m))))) = true) →
 ((false = (Go.Proofs.Ytpdddafaelbgkaa.memB m)) ∧
 True)) ∧
 (((decide ((3 : Int) < (@Nat.cast Int _ (List.length (Go.Proofs.Ytpdddafaelbgkaa.Memo.regions m))))) = false) →
 (((List.length (Go.Proofs.Ytpdddafaelbgkaa.Memo.regions m)) ≤ (9223372036854775807 : Nat)) →
 ((∃ (x_1 : Int), (∃ (x_2 : Int), (((Go.Proofs.Ytpdddafaelbgkaa.Img.base (Go.Proofs.Ytpdddafaelbgkaa.Memo.what m)) = x_2) ∧
 ((@Eq (List Go.Proofs.Ytpdddafaelbgkaa.Region) (Go.Proofs.Ytpdddafaelbgkaa.Memo.regions m) (Go.Proofs.Ytpdddafaelbgkaa.Memo.regions m)) ∧
 (((0 : Int) = x_1) ∧
 (((@Nat.cast Int _ (List.length (Go.Proofs.Ytpdddafaelbgkaa.Memo.regions m))) = (@Nat.cast Int _ (List.length (Go.Proofs.Ytpdddafaelbgkaa.Memo.regions m)))) ∧
 (((Go.Proofs.Ytpdddafaelbgkaa.Img.base (Go.Proofs.Ytpdddafaelbgkaa.Memo.what m)) = (Go.Proofs.Ytpdddafaelbgkaa.Img.base (Go.Proofs.Ytpdddafaelbgkaa.Memo.what m))) ∧
 ((@Eq (List Int) (Go.Proofs.Ytpdddafaelbgkaa.Img.bytes (Go.Proofs.Ytpdddafaelbgkaa.Memo.what m)) (Go.Proofs.Ytpdddafaelbgkaa.Img.bytes (Go.Proofs.Ytpdddafaelbgkaa.Memo.what m))) ∧
 ((@Eq (List Go.Proofs.Ytpdddafaelbgkaa.Region) (Go.Proofs.Ytpdddafaelbgkaa.Memo.regions m) (Go.Proofs.Ytpdddafaelbgkaa.Memo.regions m)) ∧
 (((Go.Proofs.Ytpdddafaelbgkaa.imgOk (Go.Proofs.Ytpdddafaelbgkaa.Memo.what m)) ∧
 (((@Nat.cast Int _ (List.length (Go.Proofs.Ytpdddafaelbgkaa.Memo.regions m))) ≤ (3 : Int)) ∧
 (((0 : Int) ≤ x_1) ∧
 ((x_1 ≤ (@Nat.cast Int _ (List.length (Go.Proofs.Ytpdddafaelbgkaa.Memo.regions m)))) ∧
 ((Go.Proofs.Ytpdddafaelbgkaa.regsB ((Go.Proofs.Ytpdddafaelbgkaa.Img.base (Go.Proofs.Ytpdddafaelbgkaa.Memo.what m)) + (@Nat.cast Int _ (List.length (Go.Proofs.Ytpdddafaelbgkaa.Img.bytes (Go.Proofs.Ytpdddafaelbgkaa.Memo.what m))))) (Go.Proofs.Ytpdddafaelbgkaa.Img.base (Go.Proofs.Ytpdddafaelbgkaa.Memo.what m)) (Go.Proofs.Ytpdddafaelbgkaa.Memo.regions m)) = (Go.Proofs.Ytpdddafaelbgkaa.regsB ((Go.Proofs.Ytpdddafaelbgkaa.Img.base (Go.Proofs.Ytpdddafaelbgkaa.Memo.what m)) + (@Nat.cast Int _ (List.length (Go.Proofs.Ytpdddafaelbgkaa.Img.bytes (Go.Proofs.Ytpdddafaelbgkaa.Memo.what m))))) x_2 (List.drop (Int.toNat x_1) (Go.Proofs.Ytpdddafaelbgkaa.Memo.regions m)))))))) ∧
 True)))))))))) ∧
 (∀ (x_3 : Int), (∀ (x_4 : Int), (((Go.Proofs.Ytpdddafaelbgkaa.imgOk (Go.Proofs.Ytpdddafaelbgkaa.Memo.what m)) ∧
 (((@Nat.cast Int _ (List.length (Go.Proofs.Ytpdddafaelbgkaa.Memo.regions m))) ≤ (3 : Int)) ∧
 (((0 : Int) ≤ x_3) ∧
 ((x_3 ≤ (@Nat.cast Int _ (List.length (Go.Proofs.Ytpdddafaelbgkaa.Memo.regions m)))) ∧
 ((Go.Proofs.Ytpdddafaelbgkaa.regsB ((Go.Proofs.Ytpdddafaelbgkaa.Img.base (Go.Proofs.Ytpdddafaelbgkaa.Memo.what m)) + (@Nat.cast Int _ (List.length (Go.Proofs.Ytpdddafaelbgkaa.Img.bytes (Go.Proofs.Ytpdddafaelbgkaa.Memo.what m))))) (Go.Proofs.Ytpdddafaelbgkaa.Img.base (Go.Proofs.Ytpdddafaelbgkaa.Memo.what m)) (Go.Proofs.Ytpdddafaelbgkaa.Memo.regions m)) = (Go.Proofs.Ytpdddafaelbgkaa.regsB ((Go.Proofs.Ytpdddafaelbgkaa.Img.base (Go.Proofs.Ytpdddafaelbgkaa.Memo.what m)) + (@Nat.cast Int _ (List.length (Go.Proofs.Ytpdddafaelbgkaa.Img.bytes (Go.Proofs.Ytpdddafaelbgkaa.Memo.what m))))) x_4 (List.drop (Int.toNat x_3) (Go.Proofs.Ytpdddafaelbgkaa.Memo.regions m)))))))) →
 ((((decide (x_3 < (@Nat.cast Int _ (List.length (Go.Proofs.Ytpdddafaelbgkaa.Memo.regions m))))) = true) →
 ((((0 : Int) ≤ x_3) ∧
 (x_3 < (@Nat.cast Int _ (List.length (Go.Proofs.Ytpdddafaelbgkaa.Memo.regions m))))) ∧
 (∀ (x_5 : Go.Proofs.Ytpdddafaelbgkaa.Region), ((@Eq (Option Go.Proofs.Ytpdddafaelbgkaa.Region) ((Go.Proofs.Ytpdddafaelbgkaa.Memo.regions m))[(Int.toNat x_3)]? (some x_5)) →
 ((Go.Proofs.Ytpdddafaelbgkaa.Ok (Go.Proofs.Ytpdddafaelbgkaa.Ty.st Go.Proofs.Ytpdddafaelbgkaa.SN.region) x_5) →
 ((((decide ((Go.Proofs.Ytpdddafaelbgkaa.Region.from_ x_5) < x_4)) = true) →
 ((false = (Go.Proofs.Ytpdddafaelbgkaa.memB m)) ∧
 True)) ∧
 (((decide ((Go.Proofs.Ytpdddafaelbgkaa.Region.from_ x_5) < x_4)) = false) →
 ((((decide ((Go.Proofs.Ytpdddafaelbgkaa.Region.to x_5) ≤ (Go.Proofs.Ytpdddafaelbgkaa.Region.from_ x_5))) = true) →
 ((false = (Go.Proofs.Ytpdddafaelbgkaa.memB m)) ∧
 True)) ∧
 (((decide ((Go.Proofs.Ytpdddafaelbgkaa.Region.to x_5) ≤ (Go.Proofs.Ytpdddafaelbgkaa.Region.from_ x_5))) = false) →
 (((List.length (Go.Proofs.Ytpdddafaelbgkaa.Img.bytes (Go.Proofs.Ytpdddafaelbgkaa.Memo.what m))) ≤ (9223372036854775807 : Nat)) →
 ((((- (9223372036854775808 : Int)) ≤ ((Go.Proofs.Ytpdddafaelbgkaa.Img.base (Go.Proofs.Ytpdddafaelbgkaa.Memo.what m)) + (@Nat.cast Int _ (List.length (Go.Proofs.Ytpdddafaelbgkaa.Img.bytes (Go.Proofs.Ytpdddafaelbgkaa.Memo.what m)))))) ∧
 (((Go.Proofs.Ytpdddafaelbgkaa.Img.base (Go.Proofs.Ytpdddafaelbgkaa.Memo.what m)) + (@Nat.cast Int _ (List.length (Go.Proofs.Ytpdddafaelbgkaa.Img.bytes (Go.Proofs.Ytpdddafaelbgkaa.Memo.what m))))) ≤ (9223372036854775807 : Int))) ∧
 ((((decide (((Go.Proofs.Ytpdddafaelbgkaa.Img.base (Go.Proofs.Ytpdddafaelbgkaa.Memo.what m)) + (@Nat.cast Int _ (List.length (Go.Proofs.Ytpdddafaelbgkaa.Img.bytes (Go.Proofs.Ytpdddafaelbgkaa.Memo.what m))))) < (Go.Proofs.Ytpdddafaelbgkaa.Region.to x_5))) = true) →
 ((false = (Go.Proofs.Ytpdddafaelbgkaa.memB m)) ∧
 True)) ∧
 (((decide (((Go.Proofs.Ytpdddafaelbgkaa.Img.base (Go.Proofs.Ytpdddafaelbgkaa.Memo.what m)) + (@Nat.cast Int _ (List.length (Go.Proofs.Ytpdddafaelbgkaa.Img.bytes (Go.Proofs.Ytpdddafaelbgkaa.Memo.what m))))) < (Go.Proofs.Ytpdddafaelbgkaa.Region.to x_5))) = false) →
 ((((- (9223372036854775808 : Int)) ≤ (x_3 + (1 : Int))) ∧
 ((x_3 + (1 : Int)) ≤ (9223372036854775807 : Int))) ∧
 (∃ (x_6 : Int), (∃ (x_7 : Int), (((Go.Proofs.Ytpdddafaelbgkaa.Region.to x_5) = x_7) ∧
 ((@Eq (List Go.Proofs.Ytpdddafaelbgkaa.Region) (Go.Proofs.Ytpdddafaelbgkaa.Memo.regions m) (Go.Proofs.Ytpdddafaelbgkaa.Memo.regions m)) ∧
 (((x_3 + (1 : Int)) = x_6) ∧
 (((@Nat.cast Int _ (List.length (Go.Proofs.Ytpdddafaelbgkaa.Memo.regions m))) = (@Nat.cast Int _ (List.length (Go.Proofs.Ytpdddafaelbgkaa.Memo.regions m)))) ∧
 (((Go.Proofs.Ytpdddafaelbgkaa.Img.base (Go.Proofs.Ytpdddafaelbgkaa.Memo.what m)) = (Go.Proofs.Ytpdddafaelbgkaa.Img.base (Go.Proofs.Ytpdddafaelbgkaa.Memo.what m))) ∧
 ((@Eq (List Int) (Go.Proofs.Ytpdddafaelbgkaa.Img.bytes (Go.Proofs.Ytpdddafaelbgkaa.Memo.what m)) (Go.Proofs.Ytpdddafaelbgkaa.Img.bytes (Go.Proofs.Ytpdddafaelbgkaa.Memo.what m))) ∧
 ((@Eq (List Go.Proofs.Ytpdddafaelbgkaa.Region) (Go.Proofs.Ytpdddafaelbgkaa.Memo.regions m) (Go.Proofs.Ytpdddafaelbgkaa.Memo.regions m)) ∧
 (((Go.Proofs.Ytpdddafaelbgkaa.imgOk (Go.Proofs.Ytpdddafaelbgkaa.Memo.what m)) ∧
 (((@Nat.cast Int _ (List.length (Go.Proofs.Ytpdddafaelbgkaa.Memo.regions m))) ≤ (3 : Int)) ∧
 (((0 : Int) ≤ x_6) ∧
 ((x_6 ≤ (@Nat.cast Int _ (List.length (Go.Proofs.Ytpdddafaelbgkaa.Memo.regions m)))) ∧
 ((Go.Proofs.Ytpdddafaelbgkaa.regsB ((Go.Proofs.Ytpdddafaelbgkaa.Img.base (Go.Proofs.Ytpdddafaelbgkaa.Memo.what m)) + (@Nat.cast Int _ (List.length (Go.Proofs.Ytpdddafaelbgkaa.Img.bytes (Go.Proofs.Ytpdddafaelbgkaa.Memo.what m))))) (Go.Proofs.Ytpdddafaelbgkaa.Img.base (Go.Proofs.Ytpdddafaelbgkaa.Memo.what m)) (Go.Proofs.Ytpdddafaelbgkaa.Memo.regions m)) = (Go.Proofs.Ytpdddafaelbgkaa.regsB ((Go.Proofs.Ytpdddafaelbgkaa.Img.base (Go.Proofs.Ytpdddafaelbgkaa.Memo.what m)) + (@Nat.cast Int _ (List.length (Go.Proofs.Ytpdddafaelbgkaa.Img.bytes (Go.Proofs.Ytpdddafaelbgkaa.Memo.what m))))) x_7 (List.drop (Int.toNat x_6) (Go.Proofs.Ytpdddafaelbgkaa.Memo.regions m)))))))) ∧
 (((List.length (Go.Proofs.Ytpdddafaelbgkaa.Memo.regions m)) - (Int.toNat x_6)) < ((List.length (Go.Proofs.Ytpdddafaelbgkaa.Memo.regions m)) - (Int.toNat x_3))))))))))))))))))))))))))) ∧
 (((decide (x_3 < (@Nat.cast Int _ (List.length (Go.Proofs.Ytpdddafaelbgkaa.Memo.regions m))))) = false) →
 ((true = (Go.Proofs.Ytpdddafaelbgkaa.memB m)) ∧
 True)))))))))))))) := by kernel_rfl
theorem det_impl_MemoryValid : C_impl_MemoryValid.det = true → ∀ x, (C_impl_MemoryValid.out x).Det := fun _ x => by simp only [C_impl_MemoryValid]; repeat (first | exact Det.ret _ | exact Det.vc' | apply Det.req | apply Det.giv | apply Det.fork | apply Det.bif' | intro _)
set_option maxRecDepth 200000 in
set_option maxHeartbeats 1000000 in
theorem ok_impl_MemoryValid : ConOK Try.prog 29 C_impl_MemoryValid := by
  refine con_mk (wr := false) (ty := tyL [(3, .i), (5, .u), (4, .bool), (9, .str), (163, .int .u64), (71, .st .fixup), (24, .st .img), (39, .st .region), (35, .st .mem), (30, .st .patch), (94, .st .hash), (92, .list .i), (90, .list .str), (22, .list .u), (67, .st .fixup), (52, .st .img), (149, .st .region), (55, .st .mem), (101, .st .hash)]) (l := [(97, C_impl_ImageValid)]) ⟨⟨ok_impl_ImageValid, det_impl_ImageValid⟩, trivial⟩ Try.checked.mixed (fn := Try.f29) (body := Try.f29.body.getD .skip) Try.func29 rfl (by decide) (by kernel_rfl) rfl an_impl_MemoryValid fun x ho hx => ?_
  obtain ⟨m, ⟨⟩⟩ := x
  refine Keeps.of (vc_impl_MemoryValid m) ?_
  revert m ho hx
  show ∀ (m : Memo), _
  intro m ho hx
  dsimp only [C_impl_MemoryValid, okPTL, okPT, Ok, Ty.cells, SN.cells, OkL, OkC, okI, ci, cb, cs, cl] at ho
  dsimp only [C_impl_MemoryValid, vc, v1, decB, SR.pre] at hx
  simp only [decide_eq_true_eq, decide_eq_false_iff_not, Bool.not_eq_true', Bool.not_eq_false', and_true, true_and, Int.toNat_natCast, exists_eq_left', exists_eq_left, exists_and_left, Int.not_lt, Int.not_le, Bool.false_eq_true, false_implies, implies_true, forall_const, List.length_append, List.length_cons, List.length_nil, Int.sub_add_cancel, Int.add_sub_cancel, and_imp, get_set_iff, forall_eq', forall_eq, List.set_set, mkd_get, mkd_len, List.length_set, Option.some.injEq]; (repeat' first | intro _ | apply And.intro); all_goals (try omega); all_goals (try have hdr := drop_get' (l := m.regions) (by assumption) (by assumption)); all_goals grind [memB, regsB, drop_end, imgOk, isBase]
def C_spec_MemoryValid : Con := { ps := [.ro (.st .mem)], out := fun x => let m : Memo := x.1; vc .bool (memB m), det := true }
def G_spec_MemoryValid : Cfg := mkG (tyL [(3, .i), (5, .u), (4, .bool), (9, .str), (163, .int .u64), (71, .st .fixup), (24, .st .img), (39, .st .region), (35, .st .mem), (30, .st .patch), (94, .st .hash), (92, .list .i), (90, .list .str), (22, .list .u), (67, .st .fixup), (52, .st .img), (149, .st .region), (55, .st .mem), (101, .st .hash)]) [(99, C_spec_ImageValid)] true
def an_spec_MemoryValid : PTL C_spec_MemoryValid.ps → Nat → Option Ann := fun x kk_ => let m : Memo := x.1; if kk_ = 3 then some (.all (Int) fun i => .all (Int) fun a => .giv (0 ≤ i ∧ i ≤ m.regions.length ∧ (imgOk m.what → regsB (m.what.base + m.what.bytes.length) m.what.base m.regions = regsB (m.what.base + m.what.bytes.length) a (m.regions.drop i.toNat))) (.mk [(3, ai a), (4, ai i), (1, aref 61)] [(61, bx (ast .mem m))] ((m.regions.length - i.toNat)))) else none
set_option maxRecDepth 200000 in
theorem vc_spec_MemoryValid (m : Memo) : (keeps Try.prog G_spec_MemoryValid (an_spec_MemoryValid (m, ())) (Try.f30.body.getD .skip) Try.f30.results.toList C_spec_MemoryValid (m, ())) = (((∃ (x_1 : Int), (∃ (x_2 : Int), (((Go.Proofs.Ytpdddafaelbgkaa.Img.base (Go.Proofs.Ytpdddafaelbgkaa.Memo.what m)) = x_2) ∧
 (((0 : Int) = x_1) ∧
 (((Go.Proofs.Ytpdddafaelbgkaa.Img.base (Go.Proofs.Ytpdddafaelbgkaa.Memo.what m)) = (Go.Proofs.Ytpdddafaelbgkaa.Img.base (Go.Proofs.Ytpdddafaelbgkaa.Memo.what m))) ∧
 ((@Eq (List Int) (Go.Proofs.Ytpdddafaelbgkaa.Img.bytes (Go.Proofs.Ytpdddafaelbgkaa.Memo.what m)) (Go.Proofs.Ytpdddafaelbgkaa.Img.bytes (Go.Proofs.Ytpdddafaelbgkaa.Memo.what m))) ∧
 ((@Eq (List Go.Proofs.Ytpdddafaelbgkaa.Region) (Go.Proofs.Ytpdddafaelbgkaa.Memo.regions m) (Go.Proofs.Ytpdddafaelbgkaa.Memo.regions m)) ∧
 ((((0 : Int) ≤ x_1) ∧
 ((x_1 ≤ (@Nat.cast Int _ (List.length (Go.Proofs.Ytpdddafaelbgkaa.Memo.regions m)))) ∧
 ((Go.Proofs.Ytpdddafaelbgkaa.imgOk (Go.Proofs.Ytpdddafaelbgkaa.Memo.what m)) →
 ((Go.Proofs.Ytpdddafaelbgkaa.regsB ((Go.Proofs.Ytpdddafaelbgkaa.Img.base (Go.Proofs.Ytpdddafaelbgkaa.Memo.what m)) + (@Nat.cast Int _ (List.length (Go.Proofs.Ytpdddafaelbgkaa.Img.bytes (Go.Proofs.Ytpdddafaelbgkaa.Memo.what m))))) (Go.Proofs.Ytpdddafaelbgkaa.Img.base (Go.Proofs.Ytpdddafaelbgkaa.Memo.what m)) (Go.Proofs.Ytpdddafaelbgkaa.Memo.regions m)) = (Go.Proofs.Ytpdddafaelbgkaa.regsB ((Go.Proofs.Ytpdddafaelbgkaa.Img.base (Go.Proofs.Ytpdddafaelbgkaa.Memo.what m)) + (@Nat.cast Int _ (List.length (Go.Proofs.Ytpdddafaelbgkaa.Img.bytes (Go.Proofs.Ytpdddafaelbgkaa.Memo.what m))))) x_2 (List.drop (Int.toNat x_1) (Go.Proofs.Ytpdddafaelbgkaa.Memo.regions m))))))) ∧
 True)))))))) ∧
 (∀ (x_3 : Int), (∀ (x_4 : Int), ((((0 : Int) ≤ x_3) ∧
 ((x_3 ≤ (@Nat.cast Int _ (List.length (Go.Proofs.Ytpdddafaelbgkaa.Memo.regions m)))) ∧
 ((Go.Proofs.Ytpdddafaelbgkaa.imgOk (Go.Proofs.Ytpdddafaelbgkaa.Memo.what m)) →
 ((Go.Proofs.Ytpdddafaelbgkaa.regsB ((Go.Proofs.Ytpdddafaelbgkaa.Img.base (Go.Proofs.Ytpdddafaelbgkaa.Memo.what m)) + (@Nat.cast Int _ (List.length (Go.Proofs.Ytpdddafaelbgkaa.Img.bytes (Go.Proofs.Ytpdddafaelbgkaa.Memo.what m))))) (Go.Proofs.Ytpdddafaelbgkaa.Img.base (Go.Proofs.Ytpdddafaelbgkaa.Memo.what m)) (Go.Proofs.Ytpdddafaelbgkaa.Memo.regions m)) = (Go.Proofs.Ytpdddafaelbgkaa.regsB ((Go.Proofs.Ytpdddafaelbgkaa.Img.base (Go.Proofs.Ytpdddafaelbgkaa.Memo.what m)) + (@Nat.cast Int _ (List.length (Go.Proofs.Ytpdddafaelbgkaa.Img.bytes (Go.Proofs.Ytpdddafaelbgkaa.Memo.what m))))) x_4 (List.drop (Int.toNat x_3) (Go.Proofs.Ytpdddafaelbgkaa.Memo.regions m))))))) →
 (((List.length (Go.Proofs.Ytpdddafaelbgkaa.Memo.regions m)) ≤ (9223372036854775807 : Nat)) →
 ((((decide (x_3 < (@Nat.cast Int _ (List.length (Go.Proofs.Ytpdddafaelbgkaa.Memo.regions m))))) = true) →
 ((((0 : Int) ≤ x_3) ∧
 (x_3 < (@Nat.cast Int _ (List.length (Go.Proofs.Ytpdddafaelbgkaa.Memo.regions m))))) ∧
 (∀ (x_5 : Go.Proofs.Ytpdddafaelbgkaa.Region), ((@Eq (Option Go.Proofs.Ytpdddafaelbgkaa.Region) ((Go.Proofs.Ytpdddafaelbgkaa.Memo.regions m))[(Int.toNat x_3)]? (some x_5)) →
 ((Go.Proofs.Ytpdddafaelbgkaa.Ok (Go.Proofs.Ytpdddafaelbgkaa.Ty.st Go.Proofs.Ytpdddafaelbgkaa.SN.region) x_5) →
 ((((decide ((Go.Proofs.Ytpdddafaelbgkaa.Region.from_ x_5) < x_4)) = true) →
 ((false = (Go.Proofs.Ytpdddafaelbgkaa.memB m)) ∧
 True)) ∧
 (((decide ((Go.Proofs.Ytpdddafaelbgkaa.Region.from_ x_5) < x_4)) = false) →
 ((((decide ((Go.Proofs.Ytpdddafaelbgkaa.Region.to x_5) ≤ (Go.Proofs.Ytpdddafaelbgkaa.Region.from_ x_5))) = true) →
 ((false = (Go.Proofs.Ytpdddafaelbgkaa.memB m)) ∧
 True)) ∧
 (((decide ((Go.Proofs.Ytpdddafaelbgkaa.Region.to x_5) ≤ (Go.Proofs.Ytpdddafaelbgkaa.Region.from_ x_5))) = false) →
 (((List.length (Go.Proofs.Ytpdddafaelbgkaa.Img.bytes (Go.Proofs.Ytpdddafaelbgkaa.Memo.what m))) ≤ (9223372036854775807 : Nat)) →
 ((((decide ((Go.IntKind.wrap Go.IntKind.i64 ((Go.Proofs.Ytpdddafaelbgkaa.Img.base (Go.Proofs.Ytpdddafaelbgkaa.Memo.what m)) + (@Nat.cast Int _ (List.length (Go.Proofs.Ytpdddafaelbgkaa.Img.bytes (Go.Proofs.Ytpdddafaelbgkaa.Memo.what m)))))) < (Go.Proofs.Ytpdddafaelbgkaa.Region.to x_5))) = true) →
 ((false = (Go.Proofs.Ytpdddafaelbgkaa.memB m)) ∧
 True)) ∧
 (((decide ((Go.IntKind.wrap Go.IntKind.i64 ((Go.Proofs.Ytpdddafaelbgkaa.Img.base (Go.Proofs.Ytpdddafaelbgkaa.Memo.what m)) + (@Nat.cast Int _ (List.length (Go.Proofs.Ytpdddafaelbgkaa.Img.bytes (Go.Proofs.Ytpdddafaelbgkaa.Memo.what m)))))) < (Go.Proofs.Ytpdddafaelbgkaa.Region.to x_5))) = false) →
 (∃ (x_6 : Int), (∃ (x_7 : Int), (((Go.Proofs.Ytpdddafaelbgkaa.Region.to x_5) = x_7) ∧
 (((Go.IntKind.wrap Go.IntKind.i64 (x_3 + (1 : Int))) = x_6) ∧
 (((Go.Proofs.Ytpdddafaelbgkaa.Img.base (Go.Proofs.Ytpdddafaelbgkaa.Memo.what m)) = (Go.Proofs.Ytpdddafaelbgkaa.Img.base (Go.Proofs.Ytpdddafaelbgkaa.Memo.what m))) ∧
 ((@Eq (List Int) (Go.Proofs.Ytpdddafaelbgkaa.Img.bytes (Go.Proofs.Ytpdddafaelbgkaa.Memo.what m)) (Go.Proofs.Ytpdddafaelbgkaa.Img.bytes (Go.Proofs.Ytpdddafaelbgkaa.Memo.what m))) ∧
 ((@Eq (List Go.Proofs.Ytpdddafaelbgkaa.Region) (Go.Proofs.Ytpdddafaelbgkaa.Memo.regions m) (Go.Proofs.Ytpdddafaelbgkaa.Memo.regions m)) ∧
 ((((0 : Int) ≤ x_6) ∧
 ((x_6 ≤ (@Nat.cast Int _ (List.length (Go.Proofs.Ytpdddafaelbgkaa.Memo.regions m)))) ∧
 ((Go.Proofs.Ytpdddafaelbgkaa.imgOk (Go.Proofs.Ytpdddafaelbgkaa.Memo.what m)) →
 ((Go.Proofs.Ytpdddafaelbgkaa.regsB ((Go.Proofs.Ytpdddafaelbgkaa.Img.base (Go.Proofs.Ytpdddafaelbgkaa.Memo.what m)) + (@Nat.cast Int _ (List.length (Go.Proofs.Ytpdddafaelbgkaa.Img.bytes (Go.Proofs.Ytpdddafaelbgkaa.Memo.what m))))) (Go.Proofs.Ytpdddafaelbgkaa.Img.base (Go.Proofs.Ytpdddafaelbgkaa.Memo.what m)) (Go.Proofs.Ytpdddafaelbgkaa.Memo.regions m)) = (Go.Proofs.Ytpdddafaelbgkaa.regsB ((Go.Proofs.Ytpdddafaelbgkaa.Img.base (Go.Proofs.Ytpdddafaelbgkaa.Memo.what m)) + (@Nat.cast Int _ (List.length (Go.Proofs.Ytpdddafaelbgkaa.Img.bytes (Go.Proofs.Ytpdddafaelbgkaa.Memo.what m))))) x_7 (List.drop (Int.toNat x_6) (Go.Proofs.Ytpdddafaelbgkaa.Memo.regions m))))))) ∧
 (((List.length (Go.Proofs.Ytpdddafaelbgkaa.Memo.regions m)) - (Int.toNat x_6)) < ((List.length (Go.Proofs.Ytpdddafaelbgkaa.Memo.regions m)) - (Int.toNat x_3))))))))))))))))))))))) ∧
 (((decide (x_3 < (@Nat.cast Int _ (List.length (Go.Proofs.Ytpdddafaelbgkaa.Memo.regions m))))) = false) →
 ((((decide (Go.Proofs.Ytpdddafaelbgkaa.imgOk (Go.Proofs.Ytpdddafaelbgkaa.Memo.what m))) = true) →
 (((List.length (Go.Proofs.Ytpdddafaelbgkaa.Memo.regions m)) ≤ (9223372036854775807 : Nat)) →
 (((decide ((@Nat.cast Int _ (List.length (Go.Proofs.Ytpdddafaelbgkaa.Memo.regions m))) ≤ (3 : Int))) = (Go.Proofs.Ytpdddafaelbgkaa.memB m)) ∧
 True))) ∧
 (((decide (Go.Proofs.Ytpdddafaelbgkaa.imgOk (Go.Proofs.Ytpdddafaelbgkaa.Memo.what m))) = false) →
 ((false = (Go.Proofs.Ytpdddafaelbgkaa.memB m)) ∧
 True))))))))))) := by kernel_rfl
theorem det_spec_MemoryValid : C_spec_MemoryValid.det = true → ∀ x, (C_spec_MemoryValid.out x).Det := fun _ x => by simp only [C_spec_MemoryValid]; repeat (first | exact Det.ret _ | exact Det.vc' | apply Det.req | apply Det.giv | apply Det.fork | apply Det.bif' | intro _)
set_option maxRecDepth 200000 in
set_option maxHeartbeats 1000000 in
theorem ok_spec_MemoryValid : ConOK Try.prog 30 C_spec_MemoryValid := by
  refine con_mk (wr := true) (ty := tyL [(3, .i), (5, .u), (4, .bool), (9, .str), (163, .int .u64), (71, .st .fixup), (24, .st .img), (39, .st .region), (35, .st .mem), (30, .st .patch), (94, .st .hash), (92, .list .i), (90, .list .str), (22, .list .u), (67, .st .fixup), (52, .st .img), (149, .st .region), (55, .st .mem), (101, .st .hash)]) (l := [(99, C_spec_ImageValid)]) ⟨⟨ok_spec_ImageValid, det_spec_ImageValid⟩, trivial⟩ Try.checked.mixed (fn := Try.f30) (body := Try.f30.body.getD .skip) Try.func30 rfl (by decide) (by kernel_rfl) rfl an_spec_MemoryValid fun x ho hx => ?_
  obtain ⟨m, ⟨⟩⟩ := x
  refine Keeps.of (vc_spec_MemoryValid m) ?_
  revert m ho hx
  show ∀ (m : Memo), _
  intro m ho hx
  dsimp only [C_spec_MemoryValid, okPTL, okPT, Ok, Ty.cells, SN.cells, OkL, OkC, okI, ci, cb, cs, cl] at ho
  dsimp only [C_spec_MemoryValid, vc, v1, decB, SR.pre] at hx
  simp only [decide_eq_true_eq, decide_eq_false_iff_not, Bool.not_eq_true', Bool.not_eq_false', and_true, true_and, Int.toNat_natCast, exists_eq_left', exists_eq_left, exists_and_left, Int.not_lt, Int.not_le, Bool.false_eq_true, false_implies, implies_true, forall_const, List.length_append, List.length_cons, List.length_nil, Int.sub_add_cancel, Int.add_sub_cancel, and_imp, get_set_iff, forall_eq', forall_eq, List.set_set, mkd_get, mkd_len, List.length_set, Option.some.injEq]; (repeat' first | intro _ | apply And.intro); all_goals (try omega); all_goals (try have hdr := drop_get' (l := m.regions) (by assumption) (by assumption)); all_goals grind [memB, regsB, drop_end, imgOk, isBase, wrap_id]
def C_impl_Memory_region : Con := { ps := [.ro (.st .mem), .ro .i], out := fun x => let m : Memo := x.1; let at_ : Int := x.2.1; .ret { val := .tup [(true, (SN.cells .region ((regOf at_ m.regions).getD ⟨0, 0, false, false⟩)).map .c), (false, [.c (cb (regOf at_ m.regions).isSome)])] }, det := true }
def G_impl_Memory_region : Cfg := mkG (tyL [(3, .i), (5, .u), (4, .bool), (9, .str), (163, .int .u64), (71, .st .fixup), (24, .st .img), (39, .st .region), (35, .st .mem), (30, .st .patch), (94, .st .hash), (92, .list .i), (90, .list .str), (22, .list .u), (67, .st .fixup), (52, .st .img), (149, .st .region), (55, .st .mem), (101, .st .hash)]) [] false
def an_impl_Memory_region : PTL C_impl_Memory_region.ps → Nat → Option Ann := fun x kk_ => let m : Memo := x.1; let at_ : Int := x.2.1; if kk_ = 2 then some (.all (Int) fun i => .giv (0 ≤ i ∧ i ≤ m.regions.length ∧ regOf at_ m.regions = regOf at_ (m.regions.drop i.toNat)) (.mk [(9, al (.st .region) m.regions), (11, ai i), (4, aref 30), (1, ai at_), (10, ai (List.length m.regions))] [(30, bx (ast .region (⟨0, 0, false, false⟩ : Region)))] ((m.regions.length - i.toNat)))) else none
set_option maxRecDepth 200000 in
theorem vc_impl_Memory_region (m : Memo) (at_ : Int) : (keeps Try.prog G_impl_Memory_region (an_impl_Memory_region (m, at_, ())) (Try.f115.body.getD .skip) Try.f115.results.toList C_impl_Memory_region (m, at_, ())) = ((((List.length (Go.Proofs.Ytpdddafaelbgkaa.Memo.regions m)) ≤ (9223372036854775807 : Nat)) →
 ((∃ (x_1 : Int), ((@Eq (List Go.Proofs.Ytpdddafaelbgkaa.Region) (Go.Proofs.Ytpdddafaelbgkaa.Memo.regions m) (Go.Proofs.Ytpdddafaelbgkaa.Memo.regions m)) ∧
 (((0 : Int) = x_1) ∧
 ((at_ = at_) ∧
 (((@Nat.cast Int _ (List.length (Go.Proofs.Ytpdddafaelbgkaa.Memo.regions m))) = (@Nat.cast Int _ (List.length (Go.Proofs.Ytpdddafaelbgkaa.Memo.regions m)))) ∧
 (((0 : Int) = (0 : Int)) ∧
 (((0 : Int) = (0 : Int)) ∧
 ((false = false) ∧
 ((false = false) ∧
 ((((0 : Int) ≤ x_1) ∧
 ((x_1 ≤ (@Nat.cast Int _ (List.length (Go.Proofs.Ytpdddafaelbgkaa.Memo.regions m)))) ∧
 (@Eq (Option Go.Proofs.Ytpdddafaelbgkaa.Region) (Go.Proofs.Ytpdddafaelbgkaa.regOf at_ (Go.Proofs.Ytpdddafaelbgkaa.Memo.regions m)) (Go.Proofs.Ytpdddafaelbgkaa.regOf at_ (List.drop (Int.toNat x_1) (Go.Proofs.Ytpdddafaelbgkaa.Memo.regions m)))))) ∧
 True)))))))))) ∧
 (∀ (x_2 : Int), ((((0 : Int) ≤ x_2) ∧
 ((x_2 ≤ (@Nat.cast Int _ (List.length (Go.Proofs.Ytpdddafaelbgkaa.Memo.regions m)))) ∧
 (@Eq (Option Go.Proofs.Ytpdddafaelbgkaa.Region) (Go.Proofs.Ytpdddafaelbgkaa.regOf at_ (Go.Proofs.Ytpdddafaelbgkaa.Memo.regions m)) (Go.Proofs.Ytpdddafaelbgkaa.regOf at_ (List.drop (Int.toNat x_2) (Go.Proofs.Ytpdddafaelbgkaa.Memo.regions m)))))) →
 ((((decide (x_2 < (@Nat.cast Int _ (List.length (Go.Proofs.Ytpdddafaelbgkaa.Memo.regions m))))) = true) →
 ((((0 : Int) ≤ x_2) ∧
 (x_2 < (@Nat.cast Int _ (List.length (Go.Proofs.Ytpdddafaelbgkaa.Memo.regions m))))) ∧
 (∀ (x_3 : Go.Proofs.Ytpdddafaelbgkaa.Region), ((@Eq (Option Go.Proofs.Ytpdddafaelbgkaa.Region) ((Go.Proofs.Ytpdddafaelbgkaa.Memo.regions m))[(Int.toNat x_2)]? (some x_3)) →
 ((Go.Proofs.Ytpdddafaelbgkaa.Ok (Go.Proofs.Ytpdddafaelbgkaa.Ty.st Go.Proofs.Ytpdddafaelbgkaa.SN.region) x_3) →
 ((((decide ((Go.Proofs.Ytpdddafaelbgkaa.Region.from_ x_3) ≤ at_)) = true) →
 ((((decide (at_ < (Go.Proofs.Ytpdddafaelbgkaa.Region.to x_3))) = true) →
 (((Go.Proofs.Ytpdddafaelbgkaa.Region.from_ x_3) = (Go.Proofs.Ytpdddafaelbgkaa.Region.from_ (@Option.getD Go.Proofs.Ytpdddafaelbgkaa.Region (Go.Proofs.Ytpdddafaelbgkaa.regOf at_ (Go.Proofs.Ytpdddafaelbgkaa.Memo.regions m)) (Go.Proofs.Ytpdddafaelbgkaa.Region.mk (0 : Int) (0 : Int) false false)))) ∧
 (((Go.Proofs.Ytpdddafaelbgkaa.Region.to x_3) = (Go.Proofs.Ytpdddafaelbgkaa.Region.to (@Option.getD Go.Proofs.Ytpdddafaelbgkaa.Region (Go.Proofs.Ytpdddafaelbgkaa.regOf at_ (Go.Proofs.Ytpdddafaelbgkaa.Memo.regions m)) (Go.Proofs.Ytpdddafaelbgkaa.Region.mk (0 : Int) (0 : Int) false false)))) ∧
 (((Go.Proofs.Ytpdddafaelbgkaa.Region.write x_3) = (Go.Proofs.Ytpdddafaelbgkaa.Region.write (@Option.getD Go.Proofs.Ytpdddafaelbgkaa.Region (Go.Proofs.Ytpdddafaelbgkaa.regOf at_ (Go.Proofs.Ytpdddafaelbgkaa.Memo.regions m)) (Go.Proofs.Ytpdddafaelbgkaa.Region.mk (0 : Int) (0 : Int) false false)))) ∧
 (((Go.Proofs.Ytpdddafaelbgkaa.Region.run x_3) = (Go.Proofs.Ytpdddafaelbgkaa.Region.run (@Option.getD Go.Proofs.Ytpdddafaelbgkaa.Region (Go.Proofs.Ytpdddafaelbgkaa.regOf at_ (Go.Proofs.Ytpdddafaelbgkaa.Memo.regions m)) (Go.Proofs.Ytpdddafaelbgkaa.Region.mk (0 : Int) (0 : Int) false false)))) ∧
 ((true = (@Option.isSome Go.Proofs.Ytpdddafaelbgkaa.Region (Go.Proofs.Ytpdddafaelbgkaa.regOf at_ (Go.Proofs.Ytpdddafaelbgkaa.Memo.regions m)))) ∧
 True)))))) ∧
 (((decide (at_ < (Go.Proofs.Ytpdddafaelbgkaa.Region.to x_3))) = false) →
 ((((- (9223372036854775808 : Int)) ≤ (x_2 + (1 : Int))) ∧
 ((x_2 + (1 : Int)) ≤ (9223372036854775807 : Int))) ∧
 (∃ (x_4 : Int), ((@Eq (List Go.Proofs.Ytpdddafaelbgkaa.Region) (Go.Proofs.Ytpdddafaelbgkaa.Memo.regions m) (Go.Proofs.Ytpdddafaelbgkaa.Memo.regions m)) ∧
 (((x_2 + (1 : Int)) = x_4) ∧
 ((at_ = at_) ∧
 (((@Nat.cast Int _ (List.length (Go.Proofs.Ytpdddafaelbgkaa.Memo.regions m))) = (@Nat.cast Int _ (List.length (Go.Proofs.Ytpdddafaelbgkaa.Memo.regions m)))) ∧
 (((0 : Int) = (0 : Int)) ∧
 (((0 : Int) = (0 : Int)) ∧
 ((false = false) ∧
 ((false = false) ∧
 ((((0 : Int) ≤ x_4) ∧
 ((x_4 ≤ (@Nat.cast Int _ (List.length (Go.Proofs.Ytpdddafaelbgkaa.Memo.regions m)))) ∧
 (@Eq (Option Go.Proofs.Ytpdddafaelbgkaa.Region) (Go.Proofs.Ytpdddafaelbgkaa.regOf at_ (Go.Proofs.Ytpdddafaelbgkaa.Memo.regions m)) (Go.Proofs.Ytpdddafaelbgkaa.regOf at_ (List.drop (Int.toNat x_4) (Go.Proofs.Ytpdddafaelbgkaa.Memo.regions m)))))) ∧
 (((List.length (Go.Proofs.Ytpdddafaelbgkaa.Memo.regions m)) - (Int.toNat x_4)) < ((List.length (Go.Proofs.Ytpdddafaelbgkaa.Memo.regions m)) - (Int.toNat x_2))))))))))))))))) ∧
 (((decide ((Go.Proofs.Ytpdddafaelbgkaa.Region.from_ x_3) ≤ at_)) = false) →
 ((((- (9223372036854775808 : Int)) ≤ (x_2 + (1 : Int))) ∧
 ((x_2 + (1 : Int)) ≤ (9223372036854775807 : Int))) ∧
 (∃ (x_5 : Int), ((@Eq (List Go.Proofs.Ytpdddafaelbgkaa.Region) (Go.Proofs.Ytpdddafaelbgkaa.Memo.regions m) (Go.Proofs.Ytpdddafaelbgkaa.Memo.regions m)) ∧
 (((x_2 + (1 : Int)) = x_5) ∧
 ((at_ = at_) ∧
 (((@Nat.cast Int _ (List.length (Go.Proofs.Ytpdddafaelbgkaa.Memo.regions m))) = (@Nat.cast Int _ (List.length (Go.Proofs.Ytpdddafaelbgkaa.Memo.regions m)))) ∧
 (((0 : Int) = (0 : Int)) ∧
 (((0 : Int) = (0 : Int)) ∧
 ((false = false) ∧
 ((false = false) ∧
 ((((0 : Int) ≤ x_5) ∧
 ((x_5 ≤ (@Nat.cast Int _ (List.length (Go.Proofs.Ytpdddafaelbgkaa.Memo.regions m)))) ∧
 (@Eq (Option Go.Proofs.Ytpdddafaelbgkaa.Region) (Go.Proofs.Ytpdddafaelbgkaa.regOf at_ (Go.Proofs.Ytpdddafaelbgkaa.Memo.regions m)) (Go.Proofs.Ytpdddafaelbgkaa.regOf at_ (List.drop (Int.toNat x_5) (Go.Proofs.Ytpdddafaelbgkaa.Memo.regions m)))))) ∧
 (((List.length (Go.Proofs.Ytpdddafaelbgkaa.Memo.regions m)) - (Int.toNat x_5)) < ((List.length (Go.Proofs.Ytpdddafaelbgkaa.Memo.regions m)) - (Int.toNat x_2))))))))))))))))))))) ∧
 (((decide (x_2 < (@Nat.cast Int _ (List.length (Go.Proofs.Ytpdddafaelbgkaa.Memo.regions m))))) = false) →
 (((0 : Int) = (Go.Proofs.Ytpdddafaelbgkaa.Region.from_ (@Option.getD Go.Proofs.Ytpdddafaelbgkaa.Region (Go.Proofs.Ytpdddafaelbgkaa.regOf at_ (Go.Proofs.Ytpdddafaelbgkaa.Memo.regions m)) (Go.Proofs.Ytpdddafaelbgkaa.Region.mk (0 : Int) (0 : Int) false false)))) ∧
 (((0 : Int) = (Go.Proofs.Ytpdddafaelbgkaa.Region.to (@Option.getD Go.Proofs.Ytpdddafaelbgkaa.Region (Go.Proofs.Ytpdddafaelbgkaa.regOf at_ (Go.Proofs.Ytpdddafaelbgkaa.Memo.regions m)) (Go.Proofs.Ytpdddafaelbgkaa.Region.mk (0 : Int) (0 : Int) false false)))) ∧
 ((false = (Go.Proofs.Ytpdddafaelbgkaa.Region.write (@Option.getD Go.Proofs.Ytpdddafaelbgkaa.Region (Go.Proofs.Ytpdddafaelbgkaa.regOf at_ (Go.Proofs.Ytpdddafaelbgkaa.Memo.regions m)) (Go.Proofs.Ytpdddafaelbgkaa.Region.mk (0 : Int) (0 : Int) false false)))) ∧
 ((false = (Go.Proofs.Ytpdddafaelbgkaa.Region.run (@Option.getD Go.Proofs.Ytpdddafaelbgkaa.Region (Go.Proofs.Ytpdddafaelbgkaa.regOf at_ (Go.Proofs.Ytpdddafaelbgkaa.Memo.regions m)) (Go.Proofs.Ytpdddafaelbgkaa.Region.mk (0 : Int) (0 : Int) false false)))) ∧
 ((false = (@Option.isSome Go.Proofs.Ytpdddafaelbgkaa.Region (Go.Proofs.Ytpdddafaelbgkaa.regOf at_ (Go.Proofs.Ytpdddafaelbgkaa.Memo.regions m)))) ∧
 True)))))))))))) := by kernel_rfl
theorem det_impl_Memory_region : C_impl_Memory_region.det = true → ∀ x, (C_impl_Memory_region.out x).Det := fun _ x => by simp only [C_impl_Memory_region]; repeat (first | exact Det.ret _ | exact Det.vc' | apply Det.req | apply Det.giv | apply Det.fork | apply Det.bif' | intro _)
set_option maxRecDepth 200000 in
set_option maxHeartbeats 1000000 in
theorem ok_impl_Memory_region : ConOK Try.prog 115 C_impl_Memory_region := by
  refine con_mk (wr := false) (ty := tyL [(3, .i), (5, .u), (4, .bool), (9, .str), (163, .int .u64), (71, .st .fixup), (24, .st .img), (39, .st .region), (35, .st .mem), (30, .st .patch), (94, .st .hash), (92, .list .i), (90, .list .str), (22, .list .u), (67, .st .fixup), (52, .st .img), (149, .st .region), (55, .st .mem), (101, .st .hash)]) (l := []) trivial Try.checked.mixed (fn := Try.f115) (body := Try.f115.body.getD .skip) Try.func115 rfl (by decide) (by kernel_rfl) rfl an_impl_Memory_region fun x ho hx => ?_
  obtain ⟨m, at_, ⟨⟩⟩ := x
  refine Keeps.of (vc_impl_Memory_region m at_) ?_
  revert m at_ ho hx
  show ∀ (m : Memo) (at_ : Int), _
  intro m at_ ho hx
  dsimp only [C_impl_Memory_region, okPTL, okPT, Ok, Ty.cells, SN.cells, OkL, OkC, okI, ci, cb, cs, cl] at ho
  dsimp only [C_impl_Memory_region, vc, v1, decB, SR.pre] at hx
  simp only [decide_eq_true_eq, decide_eq_false_iff_not, Bool.not_eq_true', Bool.not_eq_false', and_true, true_and, Int.toNat_natCast, exists_eq_left', exists_eq_left, exists_and_left, Int.not_lt, Int.not_le, Bool.false_eq_true, false_implies, implies_true, forall_const, List.length_append, List.length_cons, List.length_nil, Int.sub_add_cancel, Int.add_sub_cancel, and_imp, get_set_iff, forall_eq', forall_eq, List.set_set, mkd_get, mkd_len, List.length_set, Option.some.injEq]; (repeat' first | intro _ | apply And.intro); all_goals (try omega); all_goals (try have hdr := drop_get' (l := m.regions) (by assumption) (by assumption)); all_goals grind [regOf, inReg, drop_end]
def C_spec_l19Region : Con := { ps := [.ro (.st .mem), .ro .i], out := fun x => let m : Memo := x.1; let at_ : Int := x.2.1; vc .i (regIx at_ m.regions 0), det := true }
def G_spec_l19Region : Cfg := mkG (tyL [(3, .i), (5, .u), (4, .bool), (9, .str), (163, .int .u64), (71, .st .fixup), (24, .st .img), (39, .st .region), (35, .st .mem), (30, .st .patch), (94, .st .hash), (92, .list .i), (90, .list .str), (22, .list .u), (67, .st .fixup), (52, .st .img), (149, .st .region), (55, .st .mem), (101, .st .hash)]) [] false
def an_spec_l19Region : PTL C_spec_l19Region.ps → Nat → Option Ann := fun x kk_ => let m : Memo := x.1; let at_ : Int := x.2.1; if kk_ = 2 then some (.all (Int) fun i => .giv (0 ≤ i ∧ i ≤ m.regions.length ∧ regIx at_ m.regions 0 = regIx at_ (m.regions.drop i.toNat) i) (.mk [(5, ai i), (1, ai at_), (2, aref 62)] [(62, bx (ast .mem m))] ((m.regions.length - i.toNat)))) else none
set_option maxRecDepth 200000 in
theorem vc_spec_l19Region (m : Memo) (at_ : Int) : (keeps Try.prog G_spec_l19Region (an_spec_l19Region (m, at_, ())) (Try.f116.body.getD .skip) Try.f116.results.toList C_spec_l19Region (m, at_, ())) = (((∃ (x_1 : Int), (((0 : Int) = x_1) ∧
 ((at_ = at_) ∧
 (((Go.Proofs.Ytpdddafaelbgkaa.Img.base (Go.Proofs.Ytpdddafaelbgkaa.Memo.what m)) = (Go.Proofs.Ytpdddafaelbgkaa.Img.base (Go.Proofs.Ytpdddafaelbgkaa.Memo.what m))) ∧
 ((@Eq (List Int) (Go.Proofs.Ytpdddafaelbgkaa.Img.bytes (Go.Proofs.Ytpdddafaelbgkaa.Memo.what m)) (Go.Proofs.Ytpdddafaelbgkaa.Img.bytes (Go.Proofs.Ytpdddafaelbgkaa.Memo.what m))) ∧
 ((@Eq (List Go.Proofs.Ytpdddafaelbgkaa.Region) (Go.Proofs.Ytpdddafaelbgkaa.Memo.regions m) (Go.Proofs.Ytpdddafaelbgkaa.Memo.regions m)) ∧
 ((((0 : Int) ≤ x_1) ∧
 ((x_1 ≤ (@Nat.cast Int _ (List.length (Go.Proofs.Ytpdddafaelbgkaa.Memo.regions m)))) ∧
 ((Go.Proofs.Ytpdddafaelbgkaa.regIx at_ (Go.Proofs.Ytpdddafaelbgkaa.Memo.regions m) (0 : Int)) = (Go.Proofs.Ytpdddafaelbgkaa.regIx at_ (List.drop (Int.toNat x_1) (Go.Proofs.Ytpdddafaelbgkaa.Memo.regions m)) x_1)))) ∧
 True))))))) ∧
 (∀ (x_2 : Int), ((((0 : Int) ≤ x_2) ∧
 ((x_2 ≤ (@Nat.cast Int _ (List.length (Go.Proofs.Ytpdddafaelbgkaa.Memo.regions m)))) ∧
 ((Go.Proofs.Ytpdddafaelbgkaa.regIx at_ (Go.Proofs.Ytpdddafaelbgkaa.Memo.regions m) (0 : Int)) = (Go.Proofs.Ytpdddafaelbgkaa.regIx at_ (List.drop (Int.toNat x_2) (Go.Proofs.Ytpdddafaelbgkaa.Memo.regions m)) x_2)))) →
 (((List.length (Go.Proofs.Ytpdddafaelbgkaa.Memo.regions m)) ≤ (9223372036854775807 : Nat)) →
 ((((decide (x_2 < (@Nat.cast Int _ (List.length (Go.Proofs.Ytpdddafaelbgkaa.Memo.regions m))))) = true) →
 ((((0 : Int) ≤ x_2) ∧
 (x_2 < (@Nat.cast Int _ (List.length (Go.Proofs.Ytpdddafaelbgkaa.Memo.regions m))))) ∧
 (∀ (x_3 : Go.Proofs.Ytpdddafaelbgkaa.Region), ((@Eq (Option Go.Proofs.Ytpdddafaelbgkaa.Region) ((Go.Proofs.Ytpdddafaelbgkaa.Memo.regions m))[(Int.toNat x_2)]? (some x_3)) →
 ((Go.Proofs.Ytpdddafaelbgkaa.Ok (Go.Proofs.Ytpdddafaelbgkaa.Ty.st Go.Proofs.Ytpdddafaelbgkaa.SN.region) x_3) →
 ((((decide ((Go.Proofs.Ytpdddafaelbgkaa.Region.from_ x_3) ≤ at_)) = true) →
 ((((0 : Int) ≤ x_2) ∧
 (x_2 < (@Nat.cast Int _ (List.length (Go.Proofs.Ytpdddafaelbgkaa.Memo.regions m))))) ∧
 (∀ (x_4 : Go.Proofs.Ytpdddafaelbgkaa.Region), ((@Eq (Option Go.Proofs.Ytpdddafaelbgkaa.Region) ((Go.Proofs.Ytpdddafaelbgkaa.Memo.regions m))[(Int.toNat x_2)]? (some x_4)) →
 ((Go.Proofs.Ytpdddafaelbgkaa.Ok (Go.Proofs.Ytpdddafaelbgkaa.Ty.st Go.Proofs.Ytpdddafaelbgkaa.SN.region) x_4) →
 ((((decide (at_ < (Go.Proofs.Ytpdddafaelbgkaa.Region.to x_4))) = true) →
 ((x_2 = (Go.Proofs.Ytpdddafaelbgkaa.regIx at_ (Go.Proofs.Ytpdddafaelbgkaa.Memo.regions m) (0 : Int))) ∧
 True)) ∧
 (((decide (at_ < (Go.Proofs.Ytpdddafaelbgkaa.Region.to x_4))) = false) →
 ((((- (9223372036854775808 : Int)) ≤ (x_2 + (1 : Int))) ∧
 ((x_2 + (1 : Int)) ≤ (9223372036854775807 : Int))) ∧
 (∃ (x_5 : Int), (((x_2 + (1 : Int)) = x_5) ∧
 ((at_ = at_) ∧
 (((Go.Proofs.Ytpdddafaelbgkaa.Img.base (Go.Proofs.Ytpdddafaelbgkaa.Memo.what m)) = (Go.Proofs.Ytpdddafaelbgkaa.Img.base (Go.Proofs.Ytpdddafaelbgkaa.Memo.what m))) ∧
 ((@Eq (List Int) (Go.Proofs.Ytpdddafaelbgkaa.Img.bytes (Go.Proofs.Ytpdddafaelbgkaa.Memo.what m)) (Go.Proofs.Ytpdddafaelbgkaa.Img.bytes (Go.Proofs.Ytpdddafaelbgkaa.Memo.what m))) ∧
 ((@Eq (List Go.Proofs.Ytpdddafaelbgkaa.Region) (Go.Proofs.Ytpdddafaelbgkaa.Memo.regions m) (Go.Proofs.Ytpdddafaelbgkaa.Memo.regions m)) ∧
 ((((0 : Int) ≤ x_5) ∧
 ((x_5 ≤ (@Nat.cast Int _ (List.length (Go.Proofs.Ytpdddafaelbgkaa.Memo.regions m)))) ∧
 ((Go.Proofs.Ytpdddafaelbgkaa.regIx at_ (Go.Proofs.Ytpdddafaelbgkaa.Memo.regions m) (0 : Int)) = (Go.Proofs.Ytpdddafaelbgkaa.regIx at_ (List.drop (Int.toNat x_5) (Go.Proofs.Ytpdddafaelbgkaa.Memo.regions m)) x_5)))) ∧
 (((List.length (Go.Proofs.Ytpdddafaelbgkaa.Memo.regions m)) - (Int.toNat x_5)) < ((List.length (Go.Proofs.Ytpdddafaelbgkaa.Memo.regions m)) - (Int.toNat x_2)))))))))))))))))) ∧
 (((decide ((Go.Proofs.Ytpdddafaelbgkaa.Region.from_ x_3) ≤ at_)) = false) →
 ((((- (9223372036854775808 : Int)) ≤ (x_2 + (1 : Int))) ∧
 ((x_2 + (1 : Int)) ≤ (9223372036854775807 : Int))) ∧
 (∃ (x_6 : Int), (((x_2 + (1 : Int)) = x_6) ∧
 ((at_ = at_) ∧
 (((Go.Proofs.Ytpdddafaelbgkaa.Img.base (Go.Proofs.Ytpdddafaelbgkaa.Memo.what m)) = (Go.Proofs.Ytpdddafaelbgkaa.Img.base (Go.Proofs.Ytpdddafaelbgkaa.Memo.what m))) ∧
 ((@Eq (List Int) (Go.Proofs.Ytpdddafaelbgkaa.Img.bytes (Go.Proofs.Ytpdddafaelbgkaa.Memo.what m)) (Go.Proofs.Ytpdddafaelbgkaa.Img.bytes (Go.Proofs.Ytpdddafaelbgkaa.Memo.what m))) ∧
 ((@Eq (List Go.Proofs.Ytpdddafaelbgkaa.Region) (Go.Proofs.Ytpdddafaelbgkaa.Memo.regions m) (Go.Proofs.Ytpdddafaelbgkaa.Memo.regions m)) ∧
 ((((0 : Int) ≤ x_6) ∧
 ((x_6 ≤ (@Nat.cast Int _ (List.length (Go.Proofs.Ytpdddafaelbgkaa.Memo.regions m)))) ∧
 ((Go.Proofs.Ytpdddafaelbgkaa.regIx at_ (Go.Proofs.Ytpdddafaelbgkaa.Memo.regions m) (0 : Int)) = (Go.Proofs.Ytpdddafaelbgkaa.regIx at_ (List.drop (Int.toNat x_6) (Go.Proofs.Ytpdddafaelbgkaa.Memo.regions m)) x_6)))) ∧
 (((List.length (Go.Proofs.Ytpdddafaelbgkaa.Memo.regions m)) - (Int.toNat x_6)) < ((List.length (Go.Proofs.Ytpdddafaelbgkaa.Memo.regions m)) - (Int.toNat x_2)))))))))))))))))) ∧
 (((decide (x_2 < (@Nat.cast Int _ (List.length (Go.Proofs.Ytpdddafaelbgkaa.Memo.regions m))))) = false) →
 (((- (1 : Int)) = (Go.Proofs.Ytpdddafaelbgkaa.regIx at_ (Go.Proofs.Ytpdddafaelbgkaa.Memo.regions m) (0 : Int))) ∧
 True)))))))) := by kernel_rfl
theorem det_spec_l19Region : C_spec_l19Region.det = true → ∀ x, (C_spec_l19Region.out x).Det := fun _ x => by simp only [C_spec_l19Region]; repeat (first | exact Det.ret _ | exact Det.vc' | apply Det.req | apply Det.giv | apply Det.fork | apply Det.bif' | intro _)
set_option maxRecDepth 200000 in
set_option maxHeartbeats 1000000 in
theorem ok_spec_l19Region : ConOK Try.prog 116 C_spec_l19Region := by
  refine con_mk (wr := false) (ty := tyL [(3, .i), (5, .u), (4, .bool), (9, .str), (163, .int .u64), (71, .st .fixup), (24, .st .img), (39, .st .region), (35, .st .mem), (30, .st .patch), (94, .st .hash), (92, .list .i), (90, .list .str), (22, .list .u), (67, .st .fixup), (52, .st .img), (149, .st .region), (55, .st .mem), (101, .st .hash)]) (l := []) trivial Try.checked.mixed (fn := Try.f116) (body := Try.f116.body.getD .skip) Try.func116 rfl (by decide) (by kernel_rfl) rfl an_spec_l19Region fun x ho hx => ?_
  obtain ⟨m, at_, ⟨⟩⟩ := x
  refine Keeps.of (vc_spec_l19Region m at_) ?_
  revert m at_ ho hx
  show ∀ (m : Memo) (at_ : Int), _
  intro m at_ ho hx
  dsimp only [C_spec_l19Region, okPTL, okPT, Ok, Ty.cells, SN.cells, OkL, OkC, okI, ci, cb, cs, cl] at ho
  dsimp only [C_spec_l19Region, vc, v1, decB, SR.pre] at hx
  simp only [decide_eq_true_eq, decide_eq_false_iff_not, Bool.not_eq_true', Bool.not_eq_false', and_true, true_and, Int.toNat_natCast, exists_eq_left', exists_eq_left, exists_and_left, Int.not_lt, Int.not_le, Bool.false_eq_true, false_implies, implies_true, forall_const, List.length_append, List.length_cons, List.length_nil, Int.sub_add_cancel, Int.add_sub_cancel, and_imp, get_set_iff, forall_eq', forall_eq, List.set_set, mkd_get, mkd_len, List.length_set, Option.some.injEq]; (repeat' first | intro _ | apply And.intro); all_goals (try omega); all_goals (try have hdr := drop_get' (l := m.regions) (by assumption) (by assumption)); all_goals grind [regIx, inReg, drop_end]
def C_impl_MemoryRead : Con := { ps := [.ro (.st .mem), .ro .i], out := fun x => let m : Memo := x.1; let at_ : Int := x.2.1; vc .i (memRead m at_), det := true }
def G_impl_MemoryRead : Cfg := mkG (tyL [(3, .i), (5, .u), (4, .bool), (9, .str), (163, .int .u64), (71, .st .fixup), (24, .st .img), (39, .st .region), (35, .st .mem), (30, .st .patch), (94, .st .hash), (92, .list .i), (90, .list .str), (22, .list .u), (67, .st .fixup), (52, .st .img), (149, .st .region), (55, .st .mem), (101, .st .hash)]) [(29, C_impl_MemoryValid), (115, C_impl_Memory_region)] false
def an_impl_MemoryRead : PTL C_impl_MemoryRead.ps → Nat → Option Ann := fun _ _ => none
set_option maxRecDepth 200000 in
theorem vc_impl_MemoryRead (m : Memo) (at_ : Int) : (keeps Try.prog G_impl_MemoryRead (an_impl_MemoryRead (m, at_, ())) (Try.f59.body.getD .skip) Try.f59.results.toList C_impl_MemoryRead (m, at_, ())) = (((((Bool.not (Go.Proofs.Ytpdddafaelbgkaa.memB m)) = true) →
 (((- (1 : Int)) = (Go.Proofs.Ytpdddafaelbgkaa.memRead m at_)) ∧
 True)) ∧
 (((Bool.not (Go.Proofs.Ytpdddafaelbgkaa.memB m)) = false) →
 ((((Bool.not (@Option.isSome Go.Proofs.Ytpdddafaelbgkaa.Region (Go.Proofs.Ytpdddafaelbgkaa.regOf at_ (Go.Proofs.Ytpdddafaelbgkaa.Memo.regions m)))) = true) →
 (((- (1 : Int)) = (Go.Proofs.Ytpdddafaelbgkaa.memRead m at_)) ∧
 True)) ∧
 (((Bool.not (@Option.isSome Go.Proofs.Ytpdddafaelbgkaa.Region (Go.Proofs.Ytpdddafaelbgkaa.regOf at_ (Go.Proofs.Ytpdddafaelbgkaa.Memo.regions m)))) = false) →
 ((((- (9223372036854775808 : Int)) ≤ (at_ - (Go.Proofs.Ytpdddafaelbgkaa.Img.base (Go.Proofs.Ytpdddafaelbgkaa.Memo.what m)))) ∧
 ((at_ - (Go.Proofs.Ytpdddafaelbgkaa.Img.base (Go.Proofs.Ytpdddafaelbgkaa.Memo.what m))) ≤ (9223372036854775807 : Int))) ∧
 ((((0 : Int) ≤ (at_ - (Go.Proofs.Ytpdddafaelbgkaa.Img.base (Go.Proofs.Ytpdddafaelbgkaa.Memo.what m)))) ∧
 ((at_ - (Go.Proofs.Ytpdddafaelbgkaa.Img.base (Go.Proofs.Ytpdddafaelbgkaa.Memo.what m))) < (@Nat.cast Int _ (List.length (Go.Proofs.Ytpdddafaelbgkaa.Img.bytes (Go.Proofs.Ytpdddafaelbgkaa.Memo.what m)))))) ∧
 (∀ (x_1 : Int), ((@Eq (Option Int) ((Go.Proofs.Ytpdddafaelbgkaa.Img.bytes (Go.Proofs.Ytpdddafaelbgkaa.Memo.what m)))[(Int.toNat (at_ - (Go.Proofs.Ytpdddafaelbgkaa.Img.base (Go.Proofs.Ytpdddafaelbgkaa.Memo.what m))))]? (some x_1)) →
 ((Go.Proofs.Ytpdddafaelbgkaa.Ok (Go.Proofs.Ytpdddafaelbgkaa.Ty.int Go.IntKind.u8) x_1) →
 ((x_1 = (Go.Proofs.Ytpdddafaelbgkaa.memRead m at_)) ∧
 True))))))))))) := by kernel_rfl
theorem det_impl_MemoryRead : C_impl_MemoryRead.det = true → ∀ x, (C_impl_MemoryRead.out x).Det := fun _ x => by simp only [C_impl_MemoryRead]; repeat (first | exact Det.ret _ | exact Det.vc' | apply Det.req | apply Det.giv | apply Det.fork | apply Det.bif' | intro _)
set_option maxRecDepth 200000 in
set_option maxHeartbeats 1000000 in
theorem ok_impl_MemoryRead : ConOK Try.prog 59 C_impl_MemoryRead := by
  refine con_mk (wr := false) (ty := tyL [(3, .i), (5, .u), (4, .bool), (9, .str), (163, .int .u64), (71, .st .fixup), (24, .st .img), (39, .st .region), (35, .st .mem), (30, .st .patch), (94, .st .hash), (92, .list .i), (90, .list .str), (22, .list .u), (67, .st .fixup), (52, .st .img), (149, .st .region), (55, .st .mem), (101, .st .hash)]) (l := [(29, C_impl_MemoryValid), (115, C_impl_Memory_region)]) ⟨⟨ok_impl_MemoryValid, det_impl_MemoryValid⟩, ⟨⟨ok_impl_Memory_region, det_impl_Memory_region⟩, trivial⟩⟩ Try.checked.mixed (fn := Try.f59) (body := Try.f59.body.getD .skip) Try.func59 rfl (by decide) (by kernel_rfl) rfl an_impl_MemoryRead fun x ho hx => ?_
  obtain ⟨m, at_, ⟨⟩⟩ := x
  refine Keeps.of (vc_impl_MemoryRead m at_) ?_
  revert m at_ ho hx
  show ∀ (m : Memo) (at_ : Int), _
  intro m at_ ho hx
  dsimp only [C_impl_MemoryRead, okPTL, okPT, Ok, Ty.cells, SN.cells, OkL, OkC, okI, ci, cb, cs, cl] at ho
  dsimp only [C_impl_MemoryRead, vc, v1, decB, SR.pre] at hx
  have hm := @mem_in m at_
  simp only [decide_eq_true_eq, decide_eq_false_iff_not, Bool.not_eq_true', Bool.not_eq_false', and_true, true_and, Int.toNat_natCast, exists_eq_left', exists_eq_left, exists_and_left, Int.not_lt, Int.not_le, Bool.false_eq_true, false_implies, implies_true, forall_const, List.length_append, List.length_cons, List.length_nil, Int.sub_add_cancel, Int.add_sub_cancel, and_imp, get_set_iff, forall_eq', forall_eq, List.set_set, mkd_get, mkd_len, List.length_set, Option.some.injEq]; (repeat' first | intro _ | apply And.intro); all_goals (try omega); all_goals grind [memRead, imgByte, getD_some]
def C_spec_MemoryRead : Con := { ps := [.ro (.st .mem), .ro .i], out := fun x => let m : Memo := x.1; let at_ : Int := x.2.1; vc .i (memRead m at_), det := true }
def G_spec_MemoryRead : Cfg := mkG (tyL [(3, .i), (5, .u), (4, .bool), (9, .str), (163, .int .u64), (71, .st .fixup), (24, .st .img), (39, .st .region), (35, .st .mem), (30, .st .patch), (94, .st .hash), (92, .list .i), (90, .list .str), (22, .list .u), (67, .st .fixup), (52, .st .img), (149, .st .region), (55, .st .mem), (101, .st .hash)]) [(30, C_spec_MemoryValid), (116, C_spec_l19Region), (117, C_spec_ImageByte)] false
def an_spec_MemoryRead : PTL C_spec_MemoryRead.ps → Nat → Option Ann := fun _ _ => none
set_option maxRecDepth 200000 in
theorem vc_spec_MemoryRead (m : Memo) (at_ : Int) : (keeps Try.prog G_spec_MemoryRead (an_spec_MemoryRead (m, at_, ())) (Try.f60.body.getD .skip) Try.f60.results.toList C_spec_MemoryRead (m, at_, ())) = (((((Bool.not (Go.Proofs.Ytpdddafaelbgkaa.memB m)) = true) →
 (((- (1 : Int)) = (Go.Proofs.Ytpdddafaelbgkaa.memRead m at_)) ∧
 True)) ∧
 (((Bool.not (Go.Proofs.Ytpdddafaelbgkaa.memB m)) = false) →
 ((((decide ((Go.Proofs.Ytpdddafaelbgkaa.regIx at_ (Go.Proofs.Ytpdddafaelbgkaa.Memo.regions m) (0 : Int)) < (0 : Int))) = true) →
 (((- (1 : Int)) = (Go.Proofs.Ytpdddafaelbgkaa.memRead m at_)) ∧
 True)) ∧
 (((decide ((Go.Proofs.Ytpdddafaelbgkaa.regIx at_ (Go.Proofs.Ytpdddafaelbgkaa.Memo.regions m) (0 : Int)) < (0 : Int))) = false) →
 (((Go.Proofs.Ytpdddafaelbgkaa.imgByte (Go.Proofs.Ytpdddafaelbgkaa.Memo.what m) at_) = (Go.Proofs.Ytpdddafaelbgkaa.memRead m at_)) ∧
 True)))))) := by kernel_rfl
theorem det_spec_MemoryRead : C_spec_MemoryRead.det = true → ∀ x, (C_spec_MemoryRead.out x).Det := fun _ x => by simp only [C_spec_MemoryRead]; repeat (first | exact Det.ret _ | exact Det.vc' | apply Det.req | apply Det.giv | apply Det.fork | apply Det.bif' | intro _)
set_option maxRecDepth 200000 in
set_option maxHeartbeats 1000000 in
theorem ok_spec_MemoryRead : ConOK Try.prog 60 C_spec_MemoryRead := by
  refine con_mk (wr := false) (ty := tyL [(3, .i), (5, .u), (4, .bool), (9, .str), (163, .int .u64), (71, .st .fixup), (24, .st .img), (39, .st .region), (35, .st .mem), (30, .st .patch), (94, .st .hash), (92, .list .i), (90, .list .str), (22, .list .u), (67, .st .fixup), (52, .st .img), (149, .st .region), (55, .st .mem), (101, .st .hash)]) (l := [(30, C_spec_MemoryValid), (116, C_spec_l19Region), (117, C_spec_ImageByte)]) ⟨⟨ok_spec_MemoryValid, det_spec_MemoryValid⟩, ⟨⟨ok_spec_l19Region, det_spec_l19Region⟩, ⟨⟨ok_spec_ImageByte, det_spec_ImageByte⟩, trivial⟩⟩⟩ Try.checked.mixed (fn := Try.f60) (body := Try.f60.body.getD .skip) Try.func60 rfl (by decide) (by kernel_rfl) rfl an_spec_MemoryRead fun x ho hx => ?_
  obtain ⟨m, at_, ⟨⟩⟩ := x
  refine Keeps.of (vc_spec_MemoryRead m at_) ?_
  revert m at_ ho hx
  show ∀ (m : Memo) (at_ : Int), _
  intro m at_ ho hx
  dsimp only [C_spec_MemoryRead, okPTL, okPT, Ok, Ty.cells, SN.cells, OkL, OkC, okI, ci, cb, cs, cl] at ho
  dsimp only [C_spec_MemoryRead, vc, v1, decB, SR.pre] at hx
  have := regIx_ge (at_ := at_) (l := m.regions) (k := 0) (by omega)
  simp only [decide_eq_true_eq, decide_eq_false_iff_not, Bool.not_eq_true', Bool.not_eq_false', and_true, true_and, Int.toNat_natCast, exists_eq_left', exists_eq_left, exists_and_left, Int.not_lt, Int.not_le, Bool.false_eq_true, false_implies, implies_true, forall_const, List.length_append, List.length_cons, List.length_nil, Int.sub_add_cancel, Int.add_sub_cancel, and_imp, get_set_iff, forall_eq', forall_eq, List.set_set, mkd_get, mkd_len, List.length_set, Option.some.injEq]; (repeat' first | intro _ | apply And.intro); all_goals (try omega); all_goals grind [memRead]
def C_impl_MemoryWrite : Con := { ps := [.ro (.st .mem), .ro .i, .ro .i], out := fun x => let m : Memo := x.1; let at_ : Int := x.2.1; let v : Int := x.2.2.1; .req (m.what.bytes.length ≤ 1048576 ∧ m.regions.length ≤ 1048576) (newSB .mem (memWrite m at_ v) (mayW m at_ v)), det := true }
def G_impl_MemoryWrite : Cfg := mkG (tyL [(3, .i), (5, .u), (4, .bool), (9, .str), (163, .int .u64), (71, .st .fixup), (24, .st .img), (39, .st .region), (35, .st .mem), (30, .st .patch), (94, .st .hash), (92, .list .i), (90, .list .str), (22, .list .u), (67, .st .fixup), (52, .st .img), (149, .st .region), (55, .st .mem), (101, .st .hash)]) [(29, C_impl_MemoryValid), (118, C_impl_copyImage), (121, C_slices_Clone_impl_Region_impl_Region), (115, C_impl_Memory_region), (98, C_impl_within)] false
def an_impl_MemoryWrite : PTL C_impl_MemoryWrite.ps → Nat → Option Ann := fun _ _ => none
set_option maxRecDepth 200000 in
theorem vc_impl_MemoryWrite (m : Memo) (at_ : Int) (v : Int) : (keeps Try.prog G_impl_MemoryWrite (an_impl_MemoryWrite (m, at_, v, ())) (Try.f70.body.getD .skip) Try.f70.results.toList C_impl_MemoryWrite (m, at_, v, ())) = (((((Bool.not (Go.Proofs.Ytpdddafaelbgkaa.memB m)) = true) →
 (((0 : Int) = (Go.Proofs.Ytpdddafaelbgkaa.Img.base (Go.Proofs.Ytpdddafaelbgkaa.Memo.what (Go.Proofs.Ytpdddafaelbgkaa.memWrite m at_ v)))) ∧
 ((false = (Go.Proofs.Ytpdddafaelbgkaa.mayW m at_ v)) ∧
 ((@Eq (List Int) ([] : List Int) (Go.Proofs.Ytpdddafaelbgkaa.Img.bytes (Go.Proofs.Ytpdddafaelbgkaa.Memo.what (Go.Proofs.Ytpdddafaelbgkaa.memWrite m at_ v)))) ∧
 ((@Eq (List Go.Proofs.Ytpdddafaelbgkaa.Region) ([] : List Go.Proofs.Ytpdddafaelbgkaa.Region) (Go.Proofs.Ytpdddafaelbgkaa.Memo.regions (Go.Proofs.Ytpdddafaelbgkaa.memWrite m at_ v))) ∧
 True))))) ∧
 (((Bool.not (Go.Proofs.Ytpdddafaelbgkaa.memB m)) = false) →
 (((List.length (Go.Proofs.Ytpdddafaelbgkaa.Img.bytes (Go.Proofs.Ytpdddafaelbgkaa.Memo.what m))) ≤ (1048576 : Nat)) ∧
 (((List.length (Go.Proofs.Ytpdddafaelbgkaa.Memo.regions m)) ≤ (1048576 : Nat)) ∧
 ((((Bool.not (Go.Proofs.Ytpdddafaelbgkaa.Region.write (@Option.getD Go.Proofs.Ytpdddafaelbgkaa.Region (Go.Proofs.Ytpdddafaelbgkaa.regOf at_ (Go.Proofs.Ytpdddafaelbgkaa.Memo.regions m)) (Go.Proofs.Ytpdddafaelbgkaa.Region.mk (0 : Int) (0 : Int) false false)))) = true) →
 (((Go.Proofs.Ytpdddafaelbgkaa.Img.base (Go.Proofs.Ytpdddafaelbgkaa.Memo.what m)) = (Go.Proofs.Ytpdddafaelbgkaa.Img.base (Go.Proofs.Ytpdddafaelbgkaa.Memo.what (Go.Proofs.Ytpdddafaelbgkaa.memWrite m at_ v)))) ∧
 ((false = (Go.Proofs.Ytpdddafaelbgkaa.mayW m at_ v)) ∧
 ((@Eq (List Int) (Go.Proofs.Ytpdddafaelbgkaa.Img.bytes (Go.Proofs.Ytpdddafaelbgkaa.Memo.what m)) (Go.Proofs.Ytpdddafaelbgkaa.Img.bytes (Go.Proofs.Ytpdddafaelbgkaa.Memo.what (Go.Proofs.Ytpdddafaelbgkaa.memWrite m at_ v)))) ∧
 ((@Eq (List Go.Proofs.Ytpdddafaelbgkaa.Region) (Go.Proofs.Ytpdddafaelbgkaa.Memo.regions m) (Go.Proofs.Ytpdddafaelbgkaa.Memo.regions (Go.Proofs.Ytpdddafaelbgkaa.memWrite m at_ v))) ∧
 True))))) ∧
 (((Bool.not (Go.Proofs.Ytpdddafaelbgkaa.Region.write (@Option.getD Go.Proofs.Ytpdddafaelbgkaa.Region (Go.Proofs.Ytpdddafaelbgkaa.regOf at_ (Go.Proofs.Ytpdddafaelbgkaa.Memo.regions m)) (Go.Proofs.Ytpdddafaelbgkaa.Region.mk (0 : Int) (0 : Int) false false)))) = false) →
 ((((Bool.not (decide (((0 : Int) ≤ v) ∧
 (v ≤ (255 : Int))))) = true) →
 (((Go.Proofs.Ytpdddafaelbgkaa.Img.base (Go.Proofs.Ytpdddafaelbgkaa.Memo.what m)) = (Go.Proofs.Ytpdddafaelbgkaa.Img.base (Go.Proofs.Ytpdddafaelbgkaa.Memo.what (Go.Proofs.Ytpdddafaelbgkaa.memWrite m at_ v)))) ∧
 ((false = (Go.Proofs.Ytpdddafaelbgkaa.mayW m at_ v)) ∧
 ((@Eq (List Int) (Go.Proofs.Ytpdddafaelbgkaa.Img.bytes (Go.Proofs.Ytpdddafaelbgkaa.Memo.what m)) (Go.Proofs.Ytpdddafaelbgkaa.Img.bytes (Go.Proofs.Ytpdddafaelbgkaa.Memo.what (Go.Proofs.Ytpdddafaelbgkaa.memWrite m at_ v)))) ∧
 ((@Eq (List Go.Proofs.Ytpdddafaelbgkaa.Region) (Go.Proofs.Ytpdddafaelbgkaa.Memo.regions m) (Go.Proofs.Ytpdddafaelbgkaa.Memo.regions (Go.Proofs.Ytpdddafaelbgkaa.memWrite m at_ v))) ∧
 True))))) ∧
 (((Bool.not (decide (((0 : Int) ≤ v) ∧
 (v ≤ (255 : Int))))) = false) →
 ((((- (9223372036854775808 : Int)) ≤ (at_ - (Go.Proofs.Ytpdddafaelbgkaa.Img.base (Go.Proofs.Ytpdddafaelbgkaa.Memo.what m)))) ∧
 ((at_ - (Go.Proofs.Ytpdddafaelbgkaa.Img.base (Go.Proofs.Ytpdddafaelbgkaa.Memo.what m))) ≤ (9223372036854775807 : Int))) ∧
 ((((0 : Int) ≤ (at_ - (Go.Proofs.Ytpdddafaelbgkaa.Img.base (Go.Proofs.Ytpdddafaelbgkaa.Memo.what m)))) ∧
 ((at_ - (Go.Proofs.Ytpdddafaelbgkaa.Img.base (Go.Proofs.Ytpdddafaelbgkaa.Memo.what m))) < (@Nat.cast Int _ (List.length (Go.Proofs.Ytpdddafaelbgkaa.Img.bytes (Go.Proofs.Ytpdddafaelbgkaa.Memo.what m)))))) ∧
 (∀ (x_1 : Int), ((@Eq (Option Int) ((Go.Proofs.Ytpdddafaelbgkaa.Img.bytes (Go.Proofs.Ytpdddafaelbgkaa.Memo.what m)))[(Int.toNat (at_ - (Go.Proofs.Ytpdddafaelbgkaa.Img.base (Go.Proofs.Ytpdddafaelbgkaa.Memo.what m))))]? (some x_1)) →
 (((Go.Proofs.Ytpdddafaelbgkaa.Img.base (Go.Proofs.Ytpdddafaelbgkaa.Memo.what m)) = (Go.Proofs.Ytpdddafaelbgkaa.Img.base (Go.Proofs.Ytpdddafaelbgkaa.Memo.what (Go.Proofs.Ytpdddafaelbgkaa.memWrite m at_ v)))) ∧
 ((true = (Go.Proofs.Ytpdddafaelbgkaa.mayW m at_ v)) ∧
 ((@Eq (List Int) (List.set (Go.Proofs.Ytpdddafaelbgkaa.Img.bytes (Go.Proofs.Ytpdddafaelbgkaa.Memo.what m)) (Int.toNat (at_ - (Go.Proofs.Ytpdddafaelbgkaa.Img.base (Go.Proofs.Ytpdddafaelbgkaa.Memo.what m)))) (v % (256 : (Go.Proofs.Ytpdddafaelbgkaa.Ty.den Go.Proofs.Ytpdddafaelbgkaa.Ty.u)))) (Go.Proofs.Ytpdddafaelbgkaa.Img.bytes (Go.Proofs.Ytpdddafaelbgkaa.Memo.what (Go.Proofs.Ytpdddafaelbgkaa.memWrite m at_ v)))) ∧
 ((@Eq (List Go.Proofs.Ytpdddafaelbgkaa.Region) (Go.Proofs.Ytpdddafaelbgkaa.Memo.regions m) (Go.Proofs.Ytpdddafaelbgkaa.Memo.regions (Go.Proofs.Ytpdddafaelbgkaa.memWrite m at_ v))) ∧
 True))))))))))))))))) := by kernel_rfl
theorem det_impl_MemoryWrite : C_impl_MemoryWrite.det = true → ∀ x, (C_impl_MemoryWrite.out x).Det := fun _ x => by simp only [C_impl_MemoryWrite]; repeat (first | exact Det.ret _ | exact Det.vc' | apply Det.req | apply Det.giv | apply Det.fork | apply Det.bif' | intro _)
set_option maxRecDepth 200000 in
set_option maxHeartbeats 1000000 in
theorem ok_impl_MemoryWrite : ConOK Try.prog 70 C_impl_MemoryWrite := by
  refine con_mk (wr := false) (ty := tyL [(3, .i), (5, .u), (4, .bool), (9, .str), (163, .int .u64), (71, .st .fixup), (24, .st .img), (39, .st .region), (35, .st .mem), (30, .st .patch), (94, .st .hash), (92, .list .i), (90, .list .str), (22, .list .u), (67, .st .fixup), (52, .st .img), (149, .st .region), (55, .st .mem), (101, .st .hash)]) (l := [(29, C_impl_MemoryValid), (118, C_impl_copyImage), (121, C_slices_Clone_impl_Region_impl_Region), (115, C_impl_Memory_region), (98, C_impl_within)]) ⟨⟨ok_impl_MemoryValid, det_impl_MemoryValid⟩, ⟨⟨ok_impl_copyImage, det_impl_copyImage⟩, ⟨⟨ok_slices_Clone_impl_Region_impl_Region, det_slices_Clone_impl_Region_impl_Region⟩, ⟨⟨ok_impl_Memory_region, det_impl_Memory_region⟩, ⟨⟨ok_impl_within, det_impl_within⟩, trivial⟩⟩⟩⟩⟩ Try.checked.mixed (fn := Try.f70) (body := Try.f70.body.getD .skip) Try.func70 rfl (by decide) (by kernel_rfl) rfl an_impl_MemoryWrite fun x ho hx => ?_
  obtain ⟨m, at_, v, ⟨⟩⟩ := x
  refine Keeps.of (vc_impl_MemoryWrite m at_ v) ?_
  revert m at_ v ho hx
  show ∀ (m : Memo) (at_ : Int) (v : Int), _
  intro m at_ v ho hx
  dsimp only [C_impl_MemoryWrite, okPTL, okPT, Ok, Ty.cells, SN.cells, OkL, OkC, okI, ci, cb, cs, cl] at ho
  dsimp only [C_impl_MemoryWrite, vc, v1, decB, SR.pre] at hx
  have h1 := write_no (m := m) (at_ := at_) (v := v)
  have h2 := write_bad (m := m) (at_ := at_) (v := v)
  have h3 := write_yes (m := m) (at_ := at_) (v := v)
  have h4 := mayW_iff (m := m) (at_ := at_) (v := v)
  have h5 := reg_wr (o := regOf at_ m.regions)
  have h6 := reg_nw (o := regOf at_ m.regions)
  have h7 := mem_in (m := m) (at_ := at_)
  have hb : memB m = true → -9000 ≤ m.what.base ∧ m.what.base ≤ 9000 := fun h => by
    simp only [memB, Bool.and_eq_true, decide_eq_true_eq] at h
    have := imgOk_bd h.1.1
    omega
  simp only [decide_eq_true_eq, decide_eq_false_iff_not, Bool.not_eq_true', Bool.not_eq_false', and_true, true_and, Int.toNat_natCast, exists_eq_left', exists_eq_left, exists_and_left, Int.not_lt, Int.not_le, Bool.false_eq_true, false_implies, implies_true, forall_const, List.length_append, List.length_cons, List.length_nil, Int.sub_add_cancel, Int.add_sub_cancel, and_imp, get_set_iff, forall_eq', forall_eq, List.set_set, mkd_get, mkd_len, List.length_set, Option.some.injEq]; (repeat' first | intro _ | apply And.intro); all_goals (try omega); all_goals grind
def C_spec_MemoryWrite : Con := { ps := [.ro (.st .mem), .ro .i, .ro .i], out := fun x => let m : Memo := x.1; let at_ : Int := x.2.1; let v : Int := x.2.2.1; .req (m.what.bytes.length ≤ 1048576 ∧ m.regions.length ≤ 1048576) (newSB .mem (memWrite m at_ v) (mayW m at_ v)), det := true }
def G_spec_MemoryWrite : Cfg := mkG (tyL [(3, .i), (5, .u), (4, .bool), (9, .str), (163, .int .u64), (71, .st .fixup), (24, .st .img), (39, .st .region), (35, .st .mem), (30, .st .patch), (94, .st .hash), (92, .list .i), (90, .list .str), (22, .list .u), (67, .st .fixup), (52, .st .img), (149, .st .region), (55, .st .mem), (101, .st .hash)]) [(122, C_spec_l1OwnMemory), (30, C_spec_MemoryValid), (116, C_spec_l19Region), (105, C_spec_l1In)] false
def an_spec_MemoryWrite : PTL C_spec_MemoryWrite.ps → Nat → Option Ann := fun _ _ => none
set_option maxRecDepth 200000 in
theorem vc_spec_MemoryWrite (m : Memo) (at_ : Int) (v : Int) : (keeps Try.prog G_spec_MemoryWrite (an_spec_MemoryWrite (m, at_, v, ())) (Try.f71.body.getD .skip) Try.f71.results.toList C_spec_MemoryWrite (m, at_, v, ())) = (((((List.length (Go.Proofs.Ytpdddafaelbgkaa.Img.bytes (Go.Proofs.Ytpdddafaelbgkaa.Memo.what m))) ≤ (1048576 : Nat)) ∧
 ((List.length (Go.Proofs.Ytpdddafaelbgkaa.Memo.regions m)) ≤ (1048576 : Nat))) ∧
 ((((Bool.not (Go.Proofs.Ytpdddafaelbgkaa.memB m)) = true) →
 (((0 : Int) = (Go.Proofs.Ytpdddafaelbgkaa.Img.base (Go.Proofs.Ytpdddafaelbgkaa.Memo.what (Go.Proofs.Ytpdddafaelbgkaa.memWrite m at_ v)))) ∧
 ((false = (Go.Proofs.Ytpdddafaelbgkaa.mayW m at_ v)) ∧
 ((@Eq (List Int) ([] : List Int) (Go.Proofs.Ytpdddafaelbgkaa.Img.bytes (Go.Proofs.Ytpdddafaelbgkaa.Memo.what (Go.Proofs.Ytpdddafaelbgkaa.memWrite m at_ v)))) ∧
 ((@Eq (List Go.Proofs.Ytpdddafaelbgkaa.Region) ([] : List Go.Proofs.Ytpdddafaelbgkaa.Region) (Go.Proofs.Ytpdddafaelbgkaa.Memo.regions (Go.Proofs.Ytpdddafaelbgkaa.memWrite m at_ v))) ∧
 True))))) ∧
 (((Bool.not (Go.Proofs.Ytpdddafaelbgkaa.memB m)) = false) →
 ((((((0 : Nat) + (List.length (Go.Proofs.Ytpdddafaelbgkaa.Img.bytes (Go.Proofs.Ytpdddafaelbgkaa.Memo.what m)))) * (1 : Nat)) ≤ (140737488355328 : Nat)) ∧
 (((0 : Nat) + (List.length (Go.Proofs.Ytpdddafaelbgkaa.Img.bytes (Go.Proofs.Ytpdddafaelbgkaa.Memo.what m)))) ≤ (1000000000000 : Nat))) ∧
 ((((((0 : Nat) + (List.length (Go.Proofs.Ytpdddafaelbgkaa.Memo.regions m))) * (24 : Nat)) ≤ (140737488355328 : Nat)) ∧
 (((0 : Nat) + (List.length (Go.Proofs.Ytpdddafaelbgkaa.Memo.regions m))) ≤ (1000000000000 : Nat))) ∧
 ((((decide ((Go.Proofs.Ytpdddafaelbgkaa.regIx at_ (Go.Proofs.Ytpdddafaelbgkaa.Memo.regions m) (0 : Int)) < (0 : Int))) = true) →
 (((Go.Proofs.Ytpdddafaelbgkaa.Img.base (Go.Proofs.Ytpdddafaelbgkaa.Memo.what m)) = (Go.Proofs.Ytpdddafaelbgkaa.Img.base (Go.Proofs.Ytpdddafaelbgkaa.Memo.what (Go.Proofs.Ytpdddafaelbgkaa.memWrite m at_ v)))) ∧
 ((false = (Go.Proofs.Ytpdddafaelbgkaa.mayW m at_ v)) ∧
 ((@Eq (List Int) (Go.Proofs.Ytpdddafaelbgkaa.Img.bytes (Go.Proofs.Ytpdddafaelbgkaa.Memo.what m)) (Go.Proofs.Ytpdddafaelbgkaa.Img.bytes (Go.Proofs.Ytpdddafaelbgkaa.Memo.what (Go.Proofs.Ytpdddafaelbgkaa.memWrite m at_ v)))) ∧
 ((@Eq (List Go.Proofs.Ytpdddafaelbgkaa.Region) (Go.Proofs.Ytpdddafaelbgkaa.Memo.regions m) (Go.Proofs.Ytpdddafaelbgkaa.Memo.regions (Go.Proofs.Ytpdddafaelbgkaa.memWrite m at_ v))) ∧
 True))))) ∧
 (((decide ((Go.Proofs.Ytpdddafaelbgkaa.regIx at_ (Go.Proofs.Ytpdddafaelbgkaa.Memo.regions m) (0 : Int)) < (0 : Int))) = false) →
 ((((0 : Int) ≤ (Go.Proofs.Ytpdddafaelbgkaa.regIx at_ (Go.Proofs.Ytpdddafaelbgkaa.Memo.regions m) (0 : Int))) ∧
 ((Go.Proofs.Ytpdddafaelbgkaa.regIx at_ (Go.Proofs.Ytpdddafaelbgkaa.Memo.regions m) (0 : Int)) < (@Nat.cast Int _ (List.length (Go.Proofs.Ytpdddafaelbgkaa.Memo.regions m))))) ∧
 (∀ (x_1 : Go.Proofs.Ytpdddafaelbgkaa.Region), ((@Eq (Option Go.Proofs.Ytpdddafaelbgkaa.Region) ((Go.Proofs.Ytpdddafaelbgkaa.Memo.regions m))[(Int.toNat (Go.Proofs.Ytpdddafaelbgkaa.regIx at_ (Go.Proofs.Ytpdddafaelbgkaa.Memo.regions m) (0 : Int)))]? (some x_1)) →
 ((Go.Proofs.Ytpdddafaelbgkaa.Ok (Go.Proofs.Ytpdddafaelbgkaa.Ty.st Go.Proofs.Ytpdddafaelbgkaa.SN.region) x_1) →
 ((((Bool.not (Go.Proofs.Ytpdddafaelbgkaa.Region.write x_1)) = true) →
 (((Go.Proofs.Ytpdddafaelbgkaa.Img.base (Go.Proofs.Ytpdddafaelbgkaa.Memo.what m)) = (Go.Proofs.Ytpdddafaelbgkaa.Img.base (Go.Proofs.Ytpdddafaelbgkaa.Memo.what (Go.Proofs.Ytpdddafaelbgkaa.memWrite m at_ v)))) ∧
 ((false = (Go.Proofs.Ytpdddafaelbgkaa.mayW m at_ v)) ∧
 ((@Eq (List Int) (Go.Proofs.Ytpdddafaelbgkaa.Img.bytes (Go.Proofs.Ytpdddafaelbgkaa.Memo.what m)) (Go.Proofs.Ytpdddafaelbgkaa.Img.bytes (Go.Proofs.Ytpdddafaelbgkaa.Memo.what (Go.Proofs.Ytpdddafaelbgkaa.memWrite m at_ v)))) ∧
 ((@Eq (List Go.Proofs.Ytpdddafaelbgkaa.Region) (Go.Proofs.Ytpdddafaelbgkaa.Memo.regions m) (Go.Proofs.Ytpdddafaelbgkaa.Memo.regions (Go.Proofs.Ytpdddafaelbgkaa.memWrite m at_ v))) ∧
 True))))) ∧
 (((Bool.not (Go.Proofs.Ytpdddafaelbgkaa.Region.write x_1)) = false) →
 ((((Bool.not (decide (((0 : Int) ≤ v) ∧
 (v ≤ (255 : Int))))) = true) →
 (((Go.Proofs.Ytpdddafaelbgkaa.Img.base (Go.Proofs.Ytpdddafaelbgkaa.Memo.what m)) = (Go.Proofs.Ytpdddafaelbgkaa.Img.base (Go.Proofs.Ytpdddafaelbgkaa.Memo.what (Go.Proofs.Ytpdddafaelbgkaa.memWrite m at_ v)))) ∧
 ((false = (Go.Proofs.Ytpdddafaelbgkaa.mayW m at_ v)) ∧
 ((@Eq (List Int) (Go.Proofs.Ytpdddafaelbgkaa.Img.bytes (Go.Proofs.Ytpdddafaelbgkaa.Memo.what m)) (Go.Proofs.Ytpdddafaelbgkaa.Img.bytes (Go.Proofs.Ytpdddafaelbgkaa.Memo.what (Go.Proofs.Ytpdddafaelbgkaa.memWrite m at_ v)))) ∧
 ((@Eq (List Go.Proofs.Ytpdddafaelbgkaa.Region) (Go.Proofs.Ytpdddafaelbgkaa.Memo.regions m) (Go.Proofs.Ytpdddafaelbgkaa.Memo.regions (Go.Proofs.Ytpdddafaelbgkaa.memWrite m at_ v))) ∧
 True))))) ∧
 (((Bool.not (decide (((0 : Int) ≤ v) ∧
 (v ≤ (255 : Int))))) = false) →
 ((((- (9223372036854775808 : Int)) ≤ (at_ - (Go.Proofs.Ytpdddafaelbgkaa.Img.base (Go.Proofs.Ytpdddafaelbgkaa.Memo.what m)))) ∧
 ((at_ - (Go.Proofs.Ytpdddafaelbgkaa.Img.base (Go.Proofs.Ytpdddafaelbgkaa.Memo.what m))) ≤ (9223372036854775807 : Int))) ∧
 ((((0 : Int) ≤ (at_ - (Go.Proofs.Ytpdddafaelbgkaa.Img.base (Go.Proofs.Ytpdddafaelbgkaa.Memo.what m)))) ∧
 ((at_ - (Go.Proofs.Ytpdddafaelbgkaa.Img.base (Go.Proofs.Ytpdddafaelbgkaa.Memo.what m))) < (@Nat.cast Int _ (List.length (Go.Proofs.Ytpdddafaelbgkaa.Img.bytes (Go.Proofs.Ytpdddafaelbgkaa.Memo.what m)))))) ∧
 (∀ (x_2 : Int), ((@Eq (Option Int) ((Go.Proofs.Ytpdddafaelbgkaa.Img.bytes (Go.Proofs.Ytpdddafaelbgkaa.Memo.what m)))[(Int.toNat (at_ - (Go.Proofs.Ytpdddafaelbgkaa.Img.base (Go.Proofs.Ytpdddafaelbgkaa.Memo.what m))))]? (some x_2)) →
 (((Go.Proofs.Ytpdddafaelbgkaa.Img.base (Go.Proofs.Ytpdddafaelbgkaa.Memo.what m)) = (Go.Proofs.Ytpdddafaelbgkaa.Img.base (Go.Proofs.Ytpdddafaelbgkaa.Memo.what (Go.Proofs.Ytpdddafaelbgkaa.memWrite m at_ v)))) ∧
 ((true = (Go.Proofs.Ytpdddafaelbgkaa.mayW m at_ v)) ∧
 ((@Eq (List Int) (List.set (Go.Proofs.Ytpdddafaelbgkaa.Img.bytes (Go.Proofs.Ytpdddafaelbgkaa.Memo.what m)) (Int.toNat (at_ - (Go.Proofs.Ytpdddafaelbgkaa.Img.base (Go.Proofs.Ytpdddafaelbgkaa.Memo.what m)))) (v % (256 : (Go.Proofs.Ytpdddafaelbgkaa.Ty.den Go.Proofs.Ytpdddafaelbgkaa.Ty.u)))) (Go.Proofs.Ytpdddafaelbgkaa.Img.bytes (Go.Proofs.Ytpdddafaelbgkaa.Memo.what (Go.Proofs.Ytpdddafaelbgkaa.memWrite m at_ v)))) ∧
 ((@Eq (List Go.Proofs.Ytpdddafaelbgkaa.Region) (Go.Proofs.Ytpdddafaelbgkaa.Memo.regions m) (Go.Proofs.Ytpdddafaelbgkaa.Memo.regions (Go.Proofs.Ytpdddafaelbgkaa.memWrite m at_ v))) ∧
 True)))))))))))))))))))))))) := by kernel_rfl
theorem det_spec_MemoryWrite : C_spec_MemoryWrite.det = true → ∀ x, (C_spec_MemoryWrite.out x).Det := fun _ x => by simp only [C_spec_MemoryWrite]; repeat (first | exact Det.ret _ | exact Det.vc' | apply Det.req | apply Det.giv | apply Det.fork | apply Det.bif' | intro _)
set_option maxRecDepth 200000 in
set_option maxHeartbeats 1000000 in
theorem ok_spec_MemoryWrite : ConOK Try.prog 71 C_spec_MemoryWrite := by
  refine con_mk (wr := false) (ty := tyL [(3, .i), (5, .u), (4, .bool), (9, .str), (163, .int .u64), (71, .st .fixup), (24, .st .img), (39, .st .region), (35, .st .mem), (30, .st .patch), (94, .st .hash), (92, .list .i), (90, .list .str), (22, .list .u), (67, .st .fixup), (52, .st .img), (149, .st .region), (55, .st .mem), (101, .st .hash)]) (l := [(122, C_spec_l1OwnMemory), (30, C_spec_MemoryValid), (116, C_spec_l19Region), (105, C_spec_l1In)]) ⟨⟨ok_spec_l1OwnMemory, det_spec_l1OwnMemory⟩, ⟨⟨ok_spec_MemoryValid, det_spec_MemoryValid⟩, ⟨⟨ok_spec_l19Region, det_spec_l19Region⟩, ⟨⟨ok_spec_l1In, det_spec_l1In⟩, trivial⟩⟩⟩⟩ Try.checked.mixed (fn := Try.f71) (body := Try.f71.body.getD .skip) Try.func71 rfl (by decide) (by kernel_rfl) rfl an_spec_MemoryWrite fun x ho hx => ?_
  obtain ⟨m, at_, v, ⟨⟩⟩ := x
  refine Keeps.of (vc_spec_MemoryWrite m at_ v) ?_
  revert m at_ v ho hx
  show ∀ (m : Memo) (at_ : Int) (v : Int), _
  intro m at_ v ho hx
  dsimp only [C_spec_MemoryWrite, okPTL, okPT, Ok, Ty.cells, SN.cells, OkL, OkC, okI, ci, cb, cs, cl] at ho
  dsimp only [C_spec_MemoryWrite, vc, v1, decB, SR.pre] at hx
  have h1 := write_no (m := m) (at_ := at_) (v := v)
  have h2 := write_bad (m := m) (at_ := at_) (v := v)
  have h3 := write_yes (m := m) (at_ := at_) (v := v)
  have h4 := mayW_iff (m := m) (at_ := at_) (v := v)
  have h5 := regIx_ge (at_ := at_) (l := m.regions) (k := 0) (by omega)
  have h7 := mem_in (m := m) (at_ := at_)
  simp only [decide_eq_true_eq, decide_eq_false_iff_not, Bool.not_eq_true', Bool.not_eq_false', and_true, true_and, Int.toNat_natCast, exists_eq_left', exists_eq_left, exists_and_left, Int.not_lt, Int.not_le, Bool.false_eq_true, false_implies, implies_true, forall_const, List.length_append, List.length_cons, List.length_nil, Int.sub_add_cancel, Int.add_sub_cancel, and_imp, get_set_iff, forall_eq', forall_eq, List.set_set, mkd_get, mkd_len, List.length_set, Option.some.injEq]; (repeat' first | intro _ | apply And.intro); all_goals (try omega); all_goals grind
def C_impl_PatchesValid : Con := { ps := [.ro (.st .img), .ro (.list (.st .patch))], out := fun x => let m : Img := x.1; let l : List (Patch) := x.2.1; vc .bool (patB m l), det := true }
def G_impl_PatchesValid : Cfg := mkG (tyL [(3, .i), (5, .u), (4, .bool), (9, .str), (163, .int .u64), (71, .st .fixup), (24, .st .img), (39, .st .region), (35, .st .mem), (30, .st .patch), (94, .st .hash), (92, .list .i), (90, .list .str), (22, .list .u), (67, .st .fixup), (52, .st .img), (149, .st .region), (55, .st .mem), (101, .st .hash)]) [(97, C_impl_ImageValid), (98, C_impl_within)] false
def an_impl_PatchesValid : PTL C_impl_PatchesValid.ps → Nat → Option Ann := fun x kk_ => let m : Img := x.1; let l : List (Patch) := x.2.1; if kk_ = 5 then some (.all (Int) fun i => .all (Int) fun a => .giv (imgOk m ∧ (l.length : Int) ≤ 1000 ∧ 0 ≤ i ∧ i ≤ l.length ∧ 0 ≤ a ∧ patsB (m.base + m.bytes.length) m.base l = patsB (m.base + m.bytes.length) a (l.drop i.toNat)) (.mk [(5, ai a), (6, ai (m.base + m.bytes.length)), (27, ai i), (25, al (.st .patch) l), (26, ai (List.length l))] [] ((l.length - i.toNat)))) else none
set_option maxRecDepth 200000 in
theorem vc_impl_PatchesValid (m : Img) (l : List (Patch)) : (keeps Try.prog G_impl_PatchesValid (an_impl_PatchesValid (m, l, ())) (Try.f25.body.getD .skip) Try.f25.results.toList C_impl_PatchesValid (m, l, ())) = (((((Bool.not (decide (Go.Proofs.Ytpdddafaelbgkaa.imgOk m))) = true) →
 ((false = (Go.Proofs.Ytpdddafaelbgkaa.patB m l)) ∧
 True)) ∧
 (((Bool.not (decide (Go.Proofs.Ytpdddafaelbgkaa.imgOk m))) = false) →
 (((List.length l) ≤ (9223372036854775807 : Nat)) →
 ((((decide ((1000 : Int) < (@Nat.cast Int _ (List.length l)))) = true) →
 ((false = (Go.Proofs.Ytpdddafaelbgkaa.patB m l)) ∧
 True)) ∧
 (((decide ((1000 : Int) < (@Nat.cast Int _ (List.length l)))) = false) →
 (((List.length (Go.Proofs.Ytpdddafaelbgkaa.Img.bytes m)) ≤ (9223372036854775807 : Nat)) →
 ((((- (9223372036854775808 : Int)) ≤ ((Go.Proofs.Ytpdddafaelbgkaa.Img.base m) + (@Nat.cast Int _ (List.length (Go.Proofs.Ytpdddafaelbgkaa.Img.bytes m))))) ∧
 (((Go.Proofs.Ytpdddafaelbgkaa.Img.base m) + (@Nat.cast Int _ (List.length (Go.Proofs.Ytpdddafaelbgkaa.Img.bytes m)))) ≤ (9223372036854775807 : Int))) ∧
 (((List.length l) ≤ (9223372036854775807 : Nat)) →
 ((∃ (x_1 : Int), (∃ (x_2 : Int), (((Go.Proofs.Ytpdddafaelbgkaa.Img.base m) = x_2) ∧
 ((((Go.Proofs.Ytpdddafaelbgkaa.Img.base m) + (@Nat.cast Int _ (List.length (Go.Proofs.Ytpdddafaelbgkaa.Img.bytes m)))) = ((Go.Proofs.Ytpdddafaelbgkaa.Img.base m) + (@Nat.cast Int _ (List.length (Go.Proofs.Ytpdddafaelbgkaa.Img.bytes m))))) ∧
 (((0 : Int) = x_1) ∧
 ((@Eq (List Go.Proofs.Ytpdddafaelbgkaa.Patch) l l) ∧
 (((@Nat.cast Int _ (List.length l)) = (@Nat.cast Int _ (List.length l))) ∧
 (((Go.Proofs.Ytpdddafaelbgkaa.imgOk m) ∧
 (((@Nat.cast Int _ (List.length l)) ≤ (1000 : Int)) ∧
 (((0 : Int) ≤ x_1) ∧
 ((x_1 ≤ (@Nat.cast Int _ (List.length l))) ∧
 (((0 : Int) ≤ x_2) ∧
 ((Go.Proofs.Ytpdddafaelbgkaa.patsB ((Go.Proofs.Ytpdddafaelbgkaa.Img.base m) + (@Nat.cast Int _ (List.length (Go.Proofs.Ytpdddafaelbgkaa.Img.bytes m)))) (Go.Proofs.Ytpdddafaelbgkaa.Img.base m) l) = (Go.Proofs.Ytpdddafaelbgkaa.patsB ((Go.Proofs.Ytpdddafaelbgkaa.Img.base m) + (@Nat.cast Int _ (List.length (Go.Proofs.Ytpdddafaelbgkaa.Img.bytes m)))) x_2 (List.drop (Int.toNat x_1) l)))))))) ∧
 True)))))))) ∧
 (∀ (x_3 : Int), (∀ (x_4 : Int), (((Go.Proofs.Ytpdddafaelbgkaa.imgOk m) ∧
 (((@Nat.cast Int _ (List.length l)) ≤ (1000 : Int)) ∧
 (((0 : Int) ≤ x_3) ∧
 ((x_3 ≤ (@Nat.cast Int _ (List.length l))) ∧
 (((0 : Int) ≤ x_4) ∧
 ((Go.Proofs.Ytpdddafaelbgkaa.patsB ((Go.Proofs.Ytpdddafaelbgkaa.Img.base m) + (@Nat.cast Int _ (List.length (Go.Proofs.Ytpdddafaelbgkaa.Img.bytes m)))) (Go.Proofs.Ytpdddafaelbgkaa.Img.base m) l) = (Go.Proofs.Ytpdddafaelbgkaa.patsB ((Go.Proofs.Ytpdddafaelbgkaa.Img.base m) + (@Nat.cast Int _ (List.length (Go.Proofs.Ytpdddafaelbgkaa.Img.bytes m)))) x_4 (List.drop (Int.toNat x_3) l)))))))) →
 ((((decide (x_3 < (@Nat.cast Int _ (List.length l)))) = true) →
 ((((0 : Int) ≤ x_3) ∧
 (x_3 < (@Nat.cast Int _ (List.length l)))) ∧
 (∀ (x_5 : Go.Proofs.Ytpdddafaelbgkaa.Patch), ((@Eq (Option Go.Proofs.Ytpdddafaelbgkaa.Patch) (l)[(Int.toNat x_3)]? (some x_5)) →
 ((Go.Proofs.Ytpdddafaelbgkaa.Ok (Go.Proofs.Ytpdddafaelbgkaa.Ty.st Go.Proofs.Ytpdddafaelbgkaa.SN.patch) x_5) →
 (((List.length (Go.Proofs.Ytpdddafaelbgkaa.Patch.bytes x_5)) ≤ (9223372036854775807 : Nat)) →
 ((((decide ((@Nat.cast Int _ (List.length (Go.Proofs.Ytpdddafaelbgkaa.Patch.bytes x_5))) = (0 : Int))) = true) →
 ((false = (Go.Proofs.Ytpdddafaelbgkaa.patB m l)) ∧
 True)) ∧
 (((decide ((@Nat.cast Int _ (List.length (Go.Proofs.Ytpdddafaelbgkaa.Patch.bytes x_5))) = (0 : Int))) = false) →
 (((List.length (Go.Proofs.Ytpdddafaelbgkaa.Patch.bytes x_5)) ≤ (9223372036854775807 : Nat)) →
 ((((- (9223372036854775808 : Int)) ≤ (((Go.Proofs.Ytpdddafaelbgkaa.Img.base m) + (@Nat.cast Int _ (List.length (Go.Proofs.Ytpdddafaelbgkaa.Img.bytes m)))) - (@Nat.cast Int _ (List.length (Go.Proofs.Ytpdddafaelbgkaa.Patch.bytes x_5))))) ∧
 ((((Go.Proofs.Ytpdddafaelbgkaa.Img.base m) + (@Nat.cast Int _ (List.length (Go.Proofs.Ytpdddafaelbgkaa.Img.bytes m)))) - (@Nat.cast Int _ (List.length (Go.Proofs.Ytpdddafaelbgkaa.Patch.bytes x_5)))) ≤ (9223372036854775807 : Int))) ∧
 ((((Bool.not (decide ((x_4 ≤ (Go.Proofs.Ytpdddafaelbgkaa.Patch.at_ x_5)) ∧
 ((Go.Proofs.Ytpdddafaelbgkaa.Patch.at_ x_5) ≤ (((Go.Proofs.Ytpdddafaelbgkaa.Img.base m) + (@Nat.cast Int _ (List.length (Go.Proofs.Ytpdddafaelbgkaa.Img.bytes m)))) - (@Nat.cast Int _ (List.length (Go.Proofs.Ytpdddafaelbgkaa.Patch.bytes x_5)))))))) = true) →
 ((false = (Go.Proofs.Ytpdddafaelbgkaa.patB m l)) ∧
 True)) ∧
 (((Bool.not (decide ((x_4 ≤ (Go.Proofs.Ytpdddafaelbgkaa.Patch.at_ x_5)) ∧
 ((Go.Proofs.Ytpdddafaelbgkaa.Patch.at_ x_5) ≤ (((Go.Proofs.Ytpdddafaelbgkaa.Img.base m) + (@Nat.cast Int _ (List.length (Go.Proofs.Ytpdddafaelbgkaa.Img.bytes m)))) - (@Nat.cast Int _ (List.length (Go.Proofs.Ytpdddafaelbgkaa.Patch.bytes x_5)))))))) = false) →
 (((List.length (Go.Proofs.Ytpdddafaelbgkaa.Patch.bytes x_5)) ≤ (9223372036854775807 : Nat)) →
 ((((- (9223372036854775808 : Int)) ≤ ((Go.Proofs.Ytpdddafaelbgkaa.Patch.at_ x_5) + (@Nat.cast Int _ (List.length (Go.Proofs.Ytpdddafaelbgkaa.Patch.bytes x_5))))) ∧
 (((Go.Proofs.Ytpdddafaelbgkaa.Patch.at_ x_5) + (@Nat.cast Int _ (List.length (Go.Proofs.Ytpdddafaelbgkaa.Patch.bytes x_5)))) ≤ (9223372036854775807 : Int))) ∧
 ((((- (9223372036854775808 : Int)) ≤ (((Go.Proofs.Ytpdddafaelbgkaa.Patch.at_ x_5) + (@Nat.cast Int _ (List.length (Go.Proofs.Ytpdddafaelbgkaa.Patch.bytes x_5)))) + (1 : Int))) ∧
 ((((Go.Proofs.Ytpdddafaelbgkaa.Patch.at_ x_5) + (@Nat.cast Int _ (List.length (Go.Proofs.Ytpdddafaelbgkaa.Patch.bytes x_5)))) + (1 : Int)) ≤ (9223372036854775807 : Int))) ∧
 ((((- (9223372036854775808 : Int)) ≤ (x_3 + (1 : Int))) ∧
 ((x_3 + (1 : Int)) ≤ (9223372036854775807 : Int))) ∧
 (∃ (x_6 : Int), (∃ (x_7 : Int), (((((Go.Proofs.Ytpdddafaelbgkaa.Patch.at_ x_5) + (@Nat.cast Int _ (List.length (Go.Proofs.Ytpdddafaelbgkaa.Patch.bytes x_5)))) + (1 : Int)) = x_7) ∧
 ((((Go.Proofs.Ytpdddafaelbgkaa.Img.base m) + (@Nat.cast Int _ (List.length (Go.Proofs.Ytpdddafaelbgkaa.Img.bytes m)))) = ((Go.Proofs.Ytpdddafaelbgkaa.Img.base m) + (@Nat.cast Int _ (List.length (Go.Proofs.Ytpdddafaelbgkaa.Img.bytes m))))) ∧
 (((x_3 + (1 : Int)) = x_6) ∧
 ((@Eq (List Go.Proofs.Ytpdddafaelbgkaa.Patch) l l) ∧
 (((@Nat.cast Int _ (List.length l)) = (@Nat.cast Int _ (List.length l))) ∧
 (((Go.Proofs.Ytpdddafaelbgkaa.imgOk m) ∧
 (((@Nat.cast Int _ (List.length l)) ≤ (1000 : Int)) ∧
 (((0 : Int) ≤ x_6) ∧
 ((x_6 ≤ (@Nat.cast Int _ (List.length l))) ∧
 (((0 : Int) ≤ x_7) ∧
 ((Go.Proofs.Ytpdddafaelbgkaa.patsB ((Go.Proofs.Ytpdddafaelbgkaa.Img.base m) + (@Nat.cast Int _ (List.length (Go.Proofs.Ytpdddafaelbgkaa.Img.bytes m)))) (Go.Proofs.Ytpdddafaelbgkaa.Img.base m) l) = (Go.Proofs.Ytpdddafaelbgkaa.patsB ((Go.Proofs.Ytpdddafaelbgkaa.Img.base m) + (@Nat.cast Int _ (List.length (Go.Proofs.Ytpdddafaelbgkaa.Img.bytes m)))) x_7 (List.drop (Int.toNat x_6) l)))))))) ∧
 (((List.length l) - (Int.toNat x_6)) < ((List.length l) - (Int.toNat x_3))))))))))))))))))))))))))) ∧
 (((decide (x_3 < (@Nat.cast Int _ (List.length l)))) = false) →
 ((true = (Go.Proofs.Ytpdddafaelbgkaa.patB m l)) ∧
 True)))))))))))))))) := by kernel_rfl
theorem det_impl_PatchesValid : C_impl_PatchesValid.det = true → ∀ x, (C_impl_PatchesValid.out x).Det := fun _ x => by simp only [C_impl_PatchesValid]; repeat (first | exact Det.ret _ | exact Det.vc' | apply Det.req | apply Det.giv | apply Det.fork | apply Det.bif' | intro _)
set_option maxRecDepth 200000 in
set_option maxHeartbeats 1000000 in
theorem ok_impl_PatchesValid : ConOK Try.prog 25 C_impl_PatchesValid := by
  refine con_mk (wr := false) (ty := tyL [(3, .i), (5, .u), (4, .bool), (9, .str), (163, .int .u64), (71, .st .fixup), (24, .st .img), (39, .st .region), (35, .st .mem), (30, .st .patch), (94, .st .hash), (92, .list .i), (90, .list .str), (22, .list .u), (67, .st .fixup), (52, .st .img), (149, .st .region), (55, .st .mem), (101, .st .hash)]) (l := [(97, C_impl_ImageValid), (98, C_impl_within)]) ⟨⟨ok_impl_ImageValid, det_impl_ImageValid⟩, ⟨⟨ok_impl_within, det_impl_within⟩, trivial⟩⟩ Try.checked.mixed (fn := Try.f25) (body := Try.f25.body.getD .skip) Try.func25 rfl (by decide) (by kernel_rfl) rfl an_impl_PatchesValid fun x ho hx => ?_
  obtain ⟨m, l, ⟨⟩⟩ := x
  refine Keeps.of (vc_impl_PatchesValid m l) ?_
  revert m l ho hx
  show ∀ (m : Img) (l : List (Patch)), _
  intro m l ho hx
  dsimp only [C_impl_PatchesValid, okPTL, okPT, Ok, Ty.cells, SN.cells, OkL, OkC, okI, ci, cb, cs, cl] at ho
  dsimp only [C_impl_PatchesValid, vc, v1, decB, SR.pre] at hx
  simp only [decide_eq_true_eq, decide_eq_false_iff_not, Bool.not_eq_true', Bool.not_eq_false', and_true, true_and, Int.toNat_natCast, exists_eq_left', exists_eq_left, exists_and_left, Int.not_lt, Int.not_le, Bool.false_eq_true, false_implies, implies_true, forall_const, List.length_append, List.length_cons, List.length_nil, Int.sub_add_cancel, Int.add_sub_cancel, and_imp, get_set_iff, forall_eq', forall_eq, List.set_set, mkd_get, mkd_len, List.length_set, Option.some.injEq]; (repeat' first | intro _ | apply And.intro); all_goals (try omega); all_goals (try have hdr := drop_get' (l := l) (by assumption) (by assumption)); all_goals grind [patB, patsB, drop_end, imgOk, isBase]
def C_spec_PatchesValid : Con := { ps := [.ro (.st .img), .ro (.list (.st .patch))], out := fun x => let m : Img := x.1; let l : List (Patch) := x.2.1; vc .bool (patB m l), det := true }
def G_spec_PatchesValid : Cfg := mkG (tyL [(3, .i), (5, .u), (4, .bool), (9, .str), (163, .int .u64), (71, .st .fixup), (24, .st .img), (39, .st .region), (35, .st .mem), (30, .st .patch), (94, .st .hash), (92, .list .i), (90, .list .str), (22, .list .u), (67, .st .fixup), (52, .st .img), (149, .st .region), (55, .st .mem), (101, .st .hash)]) [(99, C_spec_ImageValid)] true
def an_spec_PatchesValid : PTL C_spec_PatchesValid.ps → Nat → Option Ann := fun x kk_ => let m : Img := x.1; let l : List (Patch) := x.2.1; if kk_ = 3 then some (.all (Int) fun i => .all (Int) fun a => .giv (0 ≤ i ∧ i ≤ l.length ∧ (imgOk m → 0 ≤ a ∧ patsB (m.base + m.bytes.length) m.base l = patsB (m.base + m.bytes.length) a (l.drop i.toNat))) (.mk [(5, ai a), (6, ai i), (1, al (.st .patch) l), (2, aref 62)] [(62, bx (ast .img m))] ((l.length - i.toNat)))) else none
set_option maxRecDepth 200000 in
theorem vc_spec_PatchesValid (m : Img) (l : List (Patch)) : (keeps Try.prog G_spec_PatchesValid (an_spec_PatchesValid (m, l, ())) (Try.f26.body.getD .skip) Try.f26.results.toList C_spec_PatchesValid (m, l, ())) = (((∃ (x_1 : Int), (∃ (x_2 : Int), (((Go.Proofs.Ytpdddafaelbgkaa.Img.base m) = x_2) ∧
 (((0 : Int) = x_1) ∧
 ((@Eq (List Go.Proofs.Ytpdddafaelbgkaa.Patch) l l) ∧
 (((Go.Proofs.Ytpdddafaelbgkaa.Img.base m) = (Go.Proofs.Ytpdddafaelbgkaa.Img.base m)) ∧
 ((@Eq (List Int) (Go.Proofs.Ytpdddafaelbgkaa.Img.bytes m) (Go.Proofs.Ytpdddafaelbgkaa.Img.bytes m)) ∧
 ((((0 : Int) ≤ x_1) ∧
 ((x_1 ≤ (@Nat.cast Int _ (List.length l))) ∧
 ((Go.Proofs.Ytpdddafaelbgkaa.imgOk m) →
 (((0 : Int) ≤ x_2) ∧
 ((Go.Proofs.Ytpdddafaelbgkaa.patsB ((Go.Proofs.Ytpdddafaelbgkaa.Img.base m) + (@Nat.cast Int _ (List.length (Go.Proofs.Ytpdddafaelbgkaa.Img.bytes m)))) (Go.Proofs.Ytpdddafaelbgkaa.Img.base m) l) = (Go.Proofs.Ytpdddafaelbgkaa.patsB ((Go.Proofs.Ytpdddafaelbgkaa.Img.base m) + (@Nat.cast Int _ (List.length (Go.Proofs.Ytpdddafaelbgkaa.Img.bytes m)))) x_2 (List.drop (Int.toNat x_1) l))))))) ∧
 True)))))))) ∧
 (∀ (x_3 : Int), (∀ (x_4 : Int), ((((0 : Int) ≤ x_3) ∧
 ((x_3 ≤ (@Nat.cast Int _ (List.length l))) ∧
 ((Go.Proofs.Ytpdddafaelbgkaa.imgOk m) →
 (((0 : Int) ≤ x_4) ∧
 ((Go.Proofs.Ytpdddafaelbgkaa.patsB ((Go.Proofs.Ytpdddafaelbgkaa.Img.base m) + (@Nat.cast Int _ (List.length (Go.Proofs.Ytpdddafaelbgkaa.Img.bytes m)))) (Go.Proofs.Ytpdddafaelbgkaa.Img.base m) l) = (Go.Proofs.Ytpdddafaelbgkaa.patsB ((Go.Proofs.Ytpdddafaelbgkaa.Img.base m) + (@Nat.cast Int _ (List.length (Go.Proofs.Ytpdddafaelbgkaa.Img.bytes m)))) x_4 (List.drop (Int.toNat x_3) l))))))) →
 (((List.length l) ≤ (9223372036854775807 : Nat)) →
 ((((decide (x_3 < (@Nat.cast Int _ (List.length l)))) = true) →
 ((((0 : Int) ≤ x_3) ∧
 (x_3 < (@Nat.cast Int _ (List.length l)))) ∧
 (∀ (x_5 : Go.Proofs.Ytpdddafaelbgkaa.Patch), ((@Eq (Option Go.Proofs.Ytpdddafaelbgkaa.Patch) (l)[(Int.toNat x_3)]? (some x_5)) →
 ((Go.Proofs.Ytpdddafaelbgkaa.Ok (Go.Proofs.Ytpdddafaelbgkaa.Ty.st Go.Proofs.Ytpdddafaelbgkaa.SN.patch) x_5) →
 ((((decide ((Go.Proofs.Ytpdddafaelbgkaa.Patch.at_ x_5) < x_4)) = true) →
 ((false = (Go.Proofs.Ytpdddafaelbgkaa.patB m l)) ∧
 True)) ∧
 (((decide ((Go.Proofs.Ytpdddafaelbgkaa.Patch.at_ x_5) < x_4)) = false) →
 (((List.length (Go.Proofs.Ytpdddafaelbgkaa.Patch.bytes x_5)) ≤ (9223372036854775807 : Nat)) →
 ((((decide ((@Nat.cast Int _ (List.length (Go.Proofs.Ytpdddafaelbgkaa.Patch.bytes x_5))) = (0 : Int))) = true) →
 ((false = (Go.Proofs.Ytpdddafaelbgkaa.patB m l)) ∧
 True)) ∧
 (((decide ((@Nat.cast Int _ (List.length (Go.Proofs.Ytpdddafaelbgkaa.Patch.bytes x_5))) = (0 : Int))) = false) →
 (((List.length (Go.Proofs.Ytpdddafaelbgkaa.Img.bytes m)) ≤ (9223372036854775807 : Nat)) →
 (((List.length (Go.Proofs.Ytpdddafaelbgkaa.Patch.bytes x_5)) ≤ (9223372036854775807 : Nat)) →
 ((((decide ((Go.IntKind.wrap Go.IntKind.i64 ((Go.IntKind.wrap Go.IntKind.i64 ((Go.Proofs.Ytpdddafaelbgkaa.Img.base m) + (@Nat.cast Int _ (List.length (Go.Proofs.Ytpdddafaelbgkaa.Img.bytes m))))) - (@Nat.cast Int _ (List.length (Go.Proofs.Ytpdddafaelbgkaa.Patch.bytes x_5))))) < (Go.Proofs.Ytpdddafaelbgkaa.Patch.at_ x_5))) = true) →
 ((false = (Go.Proofs.Ytpdddafaelbgkaa.patB m l)) ∧
 True)) ∧
 (((decide ((Go.IntKind.wrap Go.IntKind.i64 ((Go.IntKind.wrap Go.IntKind.i64 ((Go.Proofs.Ytpdddafaelbgkaa.Img.base m) + (@Nat.cast Int _ (List.length (Go.Proofs.Ytpdddafaelbgkaa.Img.bytes m))))) - (@Nat.cast Int _ (List.length (Go.Proofs.Ytpdddafaelbgkaa.Patch.bytes x_5))))) < (Go.Proofs.Ytpdddafaelbgkaa.Patch.at_ x_5))) = false) →
 (((List.length (Go.Proofs.Ytpdddafaelbgkaa.Patch.bytes x_5)) ≤ (9223372036854775807 : Nat)) →
 (∃ (x_6 : Int), (∃ (x_7 : Int), (((Go.IntKind.wrap Go.IntKind.i64 ((Go.IntKind.wrap Go.IntKind.i64 ((Go.Proofs.Ytpdddafaelbgkaa.Patch.at_ x_5) + (@Nat.cast Int _ (List.length (Go.Proofs.Ytpdddafaelbgkaa.Patch.bytes x_5))))) + (1 : Int))) = x_7) ∧
 (((Go.IntKind.wrap Go.IntKind.i64 (x_3 + (1 : Int))) = x_6) ∧
 ((@Eq (List Go.Proofs.Ytpdddafaelbgkaa.Patch) l l) ∧
 (((Go.Proofs.Ytpdddafaelbgkaa.Img.base m) = (Go.Proofs.Ytpdddafaelbgkaa.Img.base m)) ∧
 ((@Eq (List Int) (Go.Proofs.Ytpdddafaelbgkaa.Img.bytes m) (Go.Proofs.Ytpdddafaelbgkaa.Img.bytes m)) ∧
 ((((0 : Int) ≤ x_6) ∧
 ((x_6 ≤ (@Nat.cast Int _ (List.length l))) ∧
 ((Go.Proofs.Ytpdddafaelbgkaa.imgOk m) →
 (((0 : Int) ≤ x_7) ∧
 ((Go.Proofs.Ytpdddafaelbgkaa.patsB ((Go.Proofs.Ytpdddafaelbgkaa.Img.base m) + (@Nat.cast Int _ (List.length (Go.Proofs.Ytpdddafaelbgkaa.Img.bytes m)))) (Go.Proofs.Ytpdddafaelbgkaa.Img.base m) l) = (Go.Proofs.Ytpdddafaelbgkaa.patsB ((Go.Proofs.Ytpdddafaelbgkaa.Img.base m) + (@Nat.cast Int _ (List.length (Go.Proofs.Ytpdddafaelbgkaa.Img.bytes m)))) x_7 (List.drop (Int.toNat x_6) l))))))) ∧
 (((List.length l) - (Int.toNat x_6)) < ((List.length l) - (Int.toNat x_3)))))))))))))))))))))))))) ∧
 (((decide (x_3 < (@Nat.cast Int _ (List.length l)))) = false) →
 ((((decide (Go.Proofs.Ytpdddafaelbgkaa.imgOk m)) = true) →
 (((List.length l) ≤ (9223372036854775807 : Nat)) →
 (((decide ((@Nat.cast Int _ (List.length l)) ≤ (1000 : Int))) = (Go.Proofs.Ytpdddafaelbgkaa.patB m l)) ∧
 True))) ∧
 (((decide (Go.Proofs.Ytpdddafaelbgkaa.imgOk m)) = false) →
 ((false = (Go.Proofs.Ytpdddafaelbgkaa.patB m l)) ∧
 True))))))))))) := by kernel_rfl
theorem det_spec_PatchesValid : C_spec_PatchesValid.det = true → ∀ x, (C_spec_PatchesValid.out x).Det := fun _ x => by simp only [C_spec_PatchesValid]; repeat (first | exact Det.ret _ | exact Det.vc' | apply Det.req | apply Det.giv | apply Det.fork | apply Det.bif' | intro _)
set_option maxRecDepth 200000 in
set_option maxHeartbeats 1000000 in
theorem ok_spec_PatchesValid : ConOK Try.prog 26 C_spec_PatchesValid := by
  refine con_mk (wr := true) (ty := tyL [(3, .i), (5, .u), (4, .bool), (9, .str), (163, .int .u64), (71, .st .fixup), (24, .st .img), (39, .st .region), (35, .st .mem), (30, .st .patch), (94, .st .hash), (92, .list .i), (90, .list .str), (22, .list .u), (67, .st .fixup), (52, .st .img), (149, .st .region), (55, .st .mem), (101, .st .hash)]) (l := [(99, C_spec_ImageValid)]) ⟨⟨ok_spec_ImageValid, det_spec_ImageValid⟩, trivial⟩ Try.checked.mixed (fn := Try.f26) (body := Try.f26.body.getD .skip) Try.func26 rfl (by decide) (by kernel_rfl) rfl an_spec_PatchesValid fun x ho hx => ?_
  obtain ⟨m, l, ⟨⟩⟩ := x
  refine Keeps.of (vc_spec_PatchesValid m l) ?_
  revert m l ho hx
  show ∀ (m : Img) (l : List (Patch)), _
  intro m l ho hx
  dsimp only [C_spec_PatchesValid, okPTL, okPT, Ok, Ty.cells, SN.cells, OkL, OkC, okI, ci, cb, cs, cl] at ho
  dsimp only [C_spec_PatchesValid, vc, v1, decB, SR.pre] at hx
  simp only [decide_eq_true_eq, decide_eq_false_iff_not, Bool.not_eq_true', Bool.not_eq_false', and_true, true_and, Int.toNat_natCast, exists_eq_left', exists_eq_left, exists_and_left, Int.not_lt, Int.not_le, Bool.false_eq_true, false_implies, implies_true, forall_const, List.length_append, List.length_cons, List.length_nil, Int.sub_add_cancel, Int.add_sub_cancel, and_imp, get_set_iff, forall_eq', forall_eq, List.set_set, mkd_get, mkd_len, List.length_set, Option.some.injEq]; (repeat' first | intro _ | apply And.intro); all_goals (try omega); all_goals (try have hdr := drop_get' (l := l) (by assumption) (by assumption)); all_goals grind [patB, patsB, drop_end, imgOk, isBase, wrap_id]
end Go.Proofs.Ytpdddafaelbgkaa
