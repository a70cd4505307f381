/- Names that are valid; both packages. -/
import Derived.Test.YthkefakjihafeaaObjD
set_option linter.unusedVariables false
set_option linter.unusedSimpArgs false
namespace Go.Proofs.Ythkefakjihafeaa
open Go Go.RowKit


def C_impl_NameValid : Con := { ps := [.ro .str], out := fun x => let s : ByteArray := x.1; vc .bool (nameB s), det := true }
abbrev L_impl_NameValid : List (Nat × Con) := [(74, C_impl_within)]
def G_impl_NameValid : Cfg := mkG (tyL tys_) L_impl_NameValid false
def an_impl_NameValid : PTL C_impl_NameValid.ps → Nat → Option Ann := fun x kk_ => let s : ByteArray := x.1; if kk_ = 2 then some (.all (Int) fun i => .giv (0 ≤ i ∧ i ≤ s.size ∧ nameFrom s 0 s.size = nameFrom s i.toNat (s.size - i.toNat)) (.mk [(6, ai i), (0, ax s), (5, ai (ByteArray.size s))] [] ((s.size - i.toNat)))) else none
set_option maxRecDepth 200000 in
theorem vc_impl_NameValid (s : ByteArray) : (keeps Try.prog G_impl_NameValid (an_impl_NameValid (s, ())) (Try.f80.body.getD .skip) Try.f80.results.toList C_impl_NameValid (s, ())) = ((((ByteArray.size s) ≤ 9223372036854775807) →
 ((∃ (x_1 : Int), ((0 = x_1) ∧
 ((@Eq ByteArray s s) ∧
 (((@Nat.cast Int _ (ByteArray.size s)) = (@Nat.cast Int _ (ByteArray.size s))) ∧
 (((0 ≤ x_1) ∧
 ((x_1 ≤ (@Nat.cast Int _ (ByteArray.size s))) ∧
 ((nameFrom s (0 : Nat) (ByteArray.size s)) = (nameFrom s (Int.toNat x_1) ((ByteArray.size s) - (Int.toNat x_1)))))) ∧
 True))))) ∧
 (∀ (x_2 : Int), (((0 ≤ x_2) ∧
 ((x_2 ≤ (@Nat.cast Int _ (ByteArray.size s))) ∧
 ((nameFrom s (0 : Nat) (ByteArray.size s)) = (nameFrom s (Int.toNat x_2) ((ByteArray.size s) - (Int.toNat x_2)))))) →
 ((((decide (x_2 < (@Nat.cast Int _ (ByteArray.size s)))) = true) →
 (((0 ≤ x_2) ∧
 (x_2 < (@Nat.cast Int _ (ByteArray.size s)))) ∧
 (((0 ≤ (strAt s (Int.toNat x_2))) ∧
 ((strAt s (Int.toNat x_2)) ≤ 255)) →
 ((((decide (97 ≤ (strAt s (Int.toNat x_2)))) = true) →
 (((0 ≤ x_2) ∧
 (x_2 < (@Nat.cast Int _ (ByteArray.size s)))) ∧
 (((0 ≤ (strAt s (Int.toNat x_2))) ∧
 ((strAt s (Int.toNat x_2)) ≤ 255)) →
 ((((decide ((strAt s (Int.toNat x_2)) ≤ 122)) = true) →
 ((i64 (x_2 + (1 : Int))) ∧
 (∃ (x_3 : Int), (((x_2 + (1 : Int)) = x_3) ∧
 ((@Eq ByteArray s s) ∧
 (((@Nat.cast Int _ (ByteArray.size s)) = (@Nat.cast Int _ (ByteArray.size s))) ∧
 (((0 ≤ x_3) ∧
 ((x_3 ≤ (@Nat.cast Int _ (ByteArray.size s))) ∧
 ((nameFrom s (0 : Nat) (ByteArray.size s)) = (nameFrom s (Int.toNat x_3) ((ByteArray.size s) - (Int.toNat x_3)))))) ∧
 (((ByteArray.size s) - (Int.toNat x_3)) < ((ByteArray.size s) - (Int.toNat x_2)))))))))) ∧
 (((decide ((strAt s (Int.toNat x_2)) ≤ 122)) = false) →
 (((0 ≤ x_2) ∧
 (x_2 < (@Nat.cast Int _ (ByteArray.size s)))) ∧
 (((0 ≤ (strAt s (Int.toNat x_2))) ∧
 ((strAt s (Int.toNat x_2)) ≤ 255)) →
 ((((decide ((strAt s (Int.toNat x_2)) = 95)) = true) →
 ((i64 (x_2 + (1 : Int))) ∧
 (∃ (x_4 : Int), (((x_2 + (1 : Int)) = x_4) ∧
 ((@Eq ByteArray s s) ∧
 (((@Nat.cast Int _ (ByteArray.size s)) = (@Nat.cast Int _ (ByteArray.size s))) ∧
 (((0 ≤ x_4) ∧
 ((x_4 ≤ (@Nat.cast Int _ (ByteArray.size s))) ∧
 ((nameFrom s (0 : Nat) (ByteArray.size s)) = (nameFrom s (Int.toNat x_4) ((ByteArray.size s) - (Int.toNat x_4)))))) ∧
 (((ByteArray.size s) - (Int.toNat x_4)) < ((ByteArray.size s) - (Int.toNat x_2)))))))))) ∧
 (((decide ((strAt s (Int.toNat x_2)) = 95)) = false) →
 (((0 ≤ x_2) ∧
 (x_2 < (@Nat.cast Int _ (ByteArray.size s)))) ∧
 (((0 ≤ (strAt s (Int.toNat x_2))) ∧
 ((strAt s (Int.toNat x_2)) ≤ 255)) →
 ((((decide ((strAt s (Int.toNat x_2)) = 46)) = true) →
 ((i64 (x_2 + (1 : Int))) ∧
 (∃ (x_5 : Int), (((x_2 + (1 : Int)) = x_5) ∧
 ((@Eq ByteArray s s) ∧
 (((@Nat.cast Int _ (ByteArray.size s)) = (@Nat.cast Int _ (ByteArray.size s))) ∧
 (((0 ≤ x_5) ∧
 ((x_5 ≤ (@Nat.cast Int _ (ByteArray.size s))) ∧
 ((nameFrom s (0 : Nat) (ByteArray.size s)) = (nameFrom s (Int.toNat x_5) ((ByteArray.size s) - (Int.toNat x_5)))))) ∧
 (((ByteArray.size s) - (Int.toNat x_5)) < ((ByteArray.size s) - (Int.toNat x_2)))))))))) ∧
 (((decide ((strAt s (Int.toNat x_2)) = 46)) = false) →
 ((((decide (0 < x_2)) = true) →
 (((0 ≤ x_2) ∧
 (x_2 < (@Nat.cast Int _ (ByteArray.size s)))) ∧
 (((0 ≤ (strAt s (Int.toNat x_2))) ∧
 ((strAt s (Int.toNat x_2)) ≤ 255)) →
 ((((decide (48 ≤ (strAt s (Int.toNat x_2)))) = true) →
 (((0 ≤ x_2) ∧
 (x_2 < (@Nat.cast Int _ (ByteArray.size s)))) ∧
 (((0 ≤ (strAt s (Int.toNat x_2))) ∧
 ((strAt s (Int.toNat x_2)) ≤ 255)) →
 ((((Bool.not (decide ((strAt s (Int.toNat x_2)) ≤ 57))) = true) →
 ((false = (nameB s)) ∧
 True)) ∧
 (((Bool.not (decide ((strAt s (Int.toNat x_2)) ≤ 57))) = false) →
 ((i64 (x_2 + (1 : Int))) ∧
 (∃ (x_6 : Int), (((x_2 + (1 : Int)) = x_6) ∧
 ((@Eq ByteArray s s) ∧
 (((@Nat.cast Int _ (ByteArray.size s)) = (@Nat.cast Int _ (ByteArray.size s))) ∧
 (((0 ≤ x_6) ∧
 ((x_6 ≤ (@Nat.cast Int _ (ByteArray.size s))) ∧
 ((nameFrom s (0 : Nat) (ByteArray.size s)) = (nameFrom s (Int.toNat x_6) ((ByteArray.size s) - (Int.toNat x_6)))))) ∧
 (((ByteArray.size s) - (Int.toNat x_6)) < ((ByteArray.size s) - (Int.toNat x_2)))))))))))))) ∧
 (((decide (48 ≤ (strAt s (Int.toNat x_2)))) = false) →
 ((false = (nameB s)) ∧
 True)))))) ∧
 (((decide (0 < x_2)) = false) →
 ((false = (nameB s)) ∧
 True)))))))))))))))) ∧
 (((decide (97 ≤ (strAt s (Int.toNat x_2)))) = false) →
 (((0 ≤ x_2) ∧
 (x_2 < (@Nat.cast Int _ (ByteArray.size s)))) ∧
 (((0 ≤ (strAt s (Int.toNat x_2))) ∧
 ((strAt s (Int.toNat x_2)) ≤ 255)) →
 ((((decide ((strAt s (Int.toNat x_2)) = 95)) = true) →
 ((i64 (x_2 + (1 : Int))) ∧
 (∃ (x_7 : Int), (((x_2 + (1 : Int)) = x_7) ∧
 ((@Eq ByteArray s s) ∧
 (((@Nat.cast Int _ (ByteArray.size s)) = (@Nat.cast Int _ (ByteArray.size s))) ∧
 (((0 ≤ x_7) ∧
 ((x_7 ≤ (@Nat.cast Int _ (ByteArray.size s))) ∧
 ((nameFrom s (0 : Nat) (ByteArray.size s)) = (nameFrom s (Int.toNat x_7) ((ByteArray.size s) - (Int.toNat x_7)))))) ∧
 (((ByteArray.size s) - (Int.toNat x_7)) < ((ByteArray.size s) - (Int.toNat x_2)))))))))) ∧
 (((decide ((strAt s (Int.toNat x_2)) = 95)) = false) →
 (((0 ≤ x_2) ∧
 (x_2 < (@Nat.cast Int _ (ByteArray.size s)))) ∧
 (((0 ≤ (strAt s (Int.toNat x_2))) ∧
 ((strAt s (Int.toNat x_2)) ≤ 255)) →
 ((((decide ((strAt s (Int.toNat x_2)) = 46)) = true) →
 ((i64 (x_2 + (1 : Int))) ∧
 (∃ (x_8 : Int), (((x_2 + (1 : Int)) = x_8) ∧
 ((@Eq ByteArray s s) ∧
 (((@Nat.cast Int _ (ByteArray.size s)) = (@Nat.cast Int _ (ByteArray.size s))) ∧
 (((0 ≤ x_8) ∧
 ((x_8 ≤ (@Nat.cast Int _ (ByteArray.size s))) ∧
 ((nameFrom s (0 : Nat) (ByteArray.size s)) = (nameFrom s (Int.toNat x_8) ((ByteArray.size s) - (Int.toNat x_8)))))) ∧
 (((ByteArray.size s) - (Int.toNat x_8)) < ((ByteArray.size s) - (Int.toNat x_2)))))))))) ∧
 (((decide ((strAt s (Int.toNat x_2)) = 46)) = false) →
 ((((decide (0 < x_2)) = true) →
 (((0 ≤ x_2) ∧
 (x_2 < (@Nat.cast Int _ (ByteArray.size s)))) ∧
 (((0 ≤ (strAt s (Int.toNat x_2))) ∧
 ((strAt s (Int.toNat x_2)) ≤ 255)) →
 ((((decide (48 ≤ (strAt s (Int.toNat x_2)))) = true) →
 (((0 ≤ x_2) ∧
 (x_2 < (@Nat.cast Int _ (ByteArray.size s)))) ∧
 (((0 ≤ (strAt s (Int.toNat x_2))) ∧
 ((strAt s (Int.toNat x_2)) ≤ 255)) →
 ((((Bool.not (decide ((strAt s (Int.toNat x_2)) ≤ 57))) = true) →
 ((false = (nameB s)) ∧
 True)) ∧
 (((Bool.not (decide ((strAt s (Int.toNat x_2)) ≤ 57))) = false) →
 ((i64 (x_2 + (1 : Int))) ∧
 (∃ (x_9 : Int), (((x_2 + (1 : Int)) = x_9) ∧
 ((@Eq ByteArray s s) ∧
 (((@Nat.cast Int _ (ByteArray.size s)) = (@Nat.cast Int _ (ByteArray.size s))) ∧
 (((0 ≤ x_9) ∧
 ((x_9 ≤ (@Nat.cast Int _ (ByteArray.size s))) ∧
 ((nameFrom s (0 : Nat) (ByteArray.size s)) = (nameFrom s (Int.toNat x_9) ((ByteArray.size s) - (Int.toNat x_9)))))) ∧
 (((ByteArray.size s) - (Int.toNat x_9)) < ((ByteArray.size s) - (Int.toNat x_2)))))))))))))) ∧
 (((decide (48 ≤ (strAt s (Int.toNat x_2)))) = false) →
 ((false = (nameB s)) ∧
 True)))))) ∧
 (((decide (0 < x_2)) = false) →
 ((false = (nameB s)) ∧
 True)))))))))))))))) ∧
 (((decide (x_2 < (@Nat.cast Int _ (ByteArray.size s)))) = false) →
 (((ByteArray.size s) ≤ 9223372036854775807) →
 (((decide ((1 ≤ (@Nat.cast Int _ (ByteArray.size s))) ∧
 ((@Nat.cast Int _ (ByteArray.size s)) ≤ 8))) = (nameB s)) ∧
 True))))))))) := by kernel_rfl
theorem det_impl_NameValid : C_impl_NameValid.det = true → ∀ x, (C_impl_NameValid.out x).Det := fun _ _ => Det.vc'
set_option maxRecDepth 200000 in
set_option maxHeartbeats 4000000 in
theorem ok_impl_NameValid : ConOK Try.prog 80 C_impl_NameValid := by
  refine con_mk (wr := false) (ty := tyL tys_) (l := L_impl_NameValid) ⟨⟨ok_impl_within, det_impl_within⟩, trivial⟩ Try.checked.mixed (fn := Try.f80) (body := Try.f80.body.getD .skip) Try.func80 rfl (by decide) (by kernel_rfl) rfl an_impl_NameValid fun x ho hx => ?_
  obtain ⟨s, ⟨⟩⟩ := x
  refine Keeps.of (vc_impl_NameValid s) ?_
  revert s ho hx
  show ∀ (s : ByteArray), _
  intro s ho hx
  dsimp only [C_impl_NameValid, okPTL, okPT, Ok, Ty.cells, SN.cells, OkL, OkC, okI, ci, cb, cs, cl] at ho
  dsimp only [C_impl_NameValid, vc, v1, decB, SR.pre] at hx
  have hst : ∀ i : Int, 0 ≤ i → i < s.size → nameFrom s i.toNat (s.size - i.toNat) = (nameCh i.toNat (strAt s i.toNat) && nameFrom s (i + 1).toNat (s.size - (i + 1).toNat)) := fun i h0 h => by
    rw [nameFrom_step (by omega), show (i + 1).toNat = i.toNat + 1 by omega]
  have hen : ∀ i : Int, (s.size : Int) ≤ i → nameFrom s i.toNat (s.size - i.toNat) = true := fun i h => nameFrom_end (by omega)
  (try delta i64 LN); simp only [VBt]; (repeat' first | intro _ | apply And.intro); all_goals (try omega); all_goals grind [nameB, nameCh]
def C_spec_NameValid : Con := { ps := [.ro .str], out := fun x => let s : ByteArray := x.1; vc .bool (nameB s), det := true }
abbrev L_spec_NameValid : List (Nat × Con) := [(105, C_spec_l1In)]
def G_spec_NameValid : Cfg := mkG (tyL tys_) L_spec_NameValid false
def an_spec_NameValid : PTL C_spec_NameValid.ps → Nat → Option Ann := fun x kk_ => let s : ByteArray := x.1; if kk_ = 2 then some (.all (Int) fun i => .giv (0 ≤ i ∧ i ≤ s.size ∧ nameFrom s 0 s.size = nameFrom s i.toNat (s.size - i.toNat)) (.mk [(3, ai i), (0, ax s)] [] ((s.size - i.toNat)))) else none
set_option maxRecDepth 200000 in
theorem vc_spec_NameValid (s : ByteArray) : (keeps Try.prog G_spec_NameValid (an_spec_NameValid (s, ())) (Try.f85.body.getD .skip) Try.f85.results.toList C_spec_NameValid (s, ())) = (((∃ (x_1 : Int), ((0 = x_1) ∧
 ((@Eq ByteArray s s) ∧
 (((0 ≤ x_1) ∧
 ((x_1 ≤ (@Nat.cast Int _ (ByteArray.size s))) ∧
 ((nameFrom s (0 : Nat) (ByteArray.size s)) = (nameFrom s (Int.toNat x_1) ((ByteArray.size s) - (Int.toNat x_1)))))) ∧
 True)))) ∧
 (∀ (x_2 : Int), (((0 ≤ x_2) ∧
 ((x_2 ≤ (@Nat.cast Int _ (ByteArray.size s))) ∧
 ((nameFrom s (0 : Nat) (ByteArray.size s)) = (nameFrom s (Int.toNat x_2) ((ByteArray.size s) - (Int.toNat x_2)))))) →
 (((ByteArray.size s) ≤ 9223372036854775807) →
 ((((decide (x_2 < (@Nat.cast Int _ (ByteArray.size s)))) = true) →
 (((0 ≤ x_2) ∧
 (x_2 < (@Nat.cast Int _ (ByteArray.size s)))) ∧
 (((0 ≤ (strAt s (Int.toNat x_2))) ∧
 ((strAt s (Int.toNat x_2)) ≤ 255)) →
 ((((decide (97 ≤ (strAt s (Int.toNat x_2)))) = true) →
 (((0 ≤ x_2) ∧
 (x_2 < (@Nat.cast Int _ (ByteArray.size s)))) ∧
 (((0 ≤ (strAt s (Int.toNat x_2))) ∧
 ((strAt s (Int.toNat x_2)) ≤ 255)) →
 ((((decide ((strAt s (Int.toNat x_2)) ≤ 122)) = true) →
 ((i64 (x_2 + (1 : Int))) ∧
 (∃ (x_3 : Int), (((x_2 + (1 : Int)) = x_3) ∧
 ((@Eq ByteArray s s) ∧
 (((0 ≤ x_3) ∧
 ((x_3 ≤ (@Nat.cast Int _ (ByteArray.size s))) ∧
 ((nameFrom s (0 : Nat) (ByteArray.size s)) = (nameFrom s (Int.toNat x_3) ((ByteArray.size s) - (Int.toNat x_3)))))) ∧
 (((ByteArray.size s) - (Int.toNat x_3)) < ((ByteArray.size s) - (Int.toNat x_2))))))))) ∧
 (((decide ((strAt s (Int.toNat x_2)) ≤ 122)) = false) →
 (((0 ≤ x_2) ∧
 (x_2 < (@Nat.cast Int _ (ByteArray.size s)))) ∧
 (((0 ≤ (strAt s (Int.toNat x_2))) ∧
 ((strAt s (Int.toNat x_2)) ≤ 255)) →
 ((((decide ((strAt s (Int.toNat x_2)) = 95)) = true) →
 ((i64 (x_2 + (1 : Int))) ∧
 (∃ (x_4 : Int), (((x_2 + (1 : Int)) = x_4) ∧
 ((@Eq ByteArray s s) ∧
 (((0 ≤ x_4) ∧
 ((x_4 ≤ (@Nat.cast Int _ (ByteArray.size s))) ∧
 ((nameFrom s (0 : Nat) (ByteArray.size s)) = (nameFrom s (Int.toNat x_4) ((ByteArray.size s) - (Int.toNat x_4)))))) ∧
 (((ByteArray.size s) - (Int.toNat x_4)) < ((ByteArray.size s) - (Int.toNat x_2))))))))) ∧
 (((decide ((strAt s (Int.toNat x_2)) = 95)) = false) →
 (((0 ≤ x_2) ∧
 (x_2 < (@Nat.cast Int _ (ByteArray.size s)))) ∧
 (((0 ≤ (strAt s (Int.toNat x_2))) ∧
 ((strAt s (Int.toNat x_2)) ≤ 255)) →
 ((((Bool.not (decide ((strAt s (Int.toNat x_2)) = 46))) = true) →
 (((0 ≤ x_2) ∧
 (x_2 < (@Nat.cast Int _ (ByteArray.size s)))) ∧
 (((0 ≤ (strAt s (Int.toNat x_2))) ∧
 ((strAt s (Int.toNat x_2)) ≤ 255)) →
 ((((decide ((strAt s (Int.toNat x_2)) < 48)) = true) →
 ((false = (nameB s)) ∧
 True)) ∧
 (((decide ((strAt s (Int.toNat x_2)) < 48)) = false) →
 (((0 ≤ x_2) ∧
 (x_2 < (@Nat.cast Int _ (ByteArray.size s)))) ∧
 (((0 ≤ (strAt s (Int.toNat x_2))) ∧
 ((strAt s (Int.toNat x_2)) ≤ 255)) →
 ((((decide (57 < (strAt s (Int.toNat x_2)))) = true) →
 ((false = (nameB s)) ∧
 True)) ∧
 (((decide (57 < (strAt s (Int.toNat x_2)))) = false) →
 ((((decide (x_2 = (0 : Int))) = true) →
 ((false = (nameB s)) ∧
 True)) ∧
 (((decide (x_2 = (0 : Int))) = false) →
 ((i64 (x_2 + (1 : Int))) ∧
 (∃ (x_5 : Int), (((x_2 + (1 : Int)) = x_5) ∧
 ((@Eq ByteArray s s) ∧
 (((0 ≤ x_5) ∧
 ((x_5 ≤ (@Nat.cast Int _ (ByteArray.size s))) ∧
 ((nameFrom s (0 : Nat) (ByteArray.size s)) = (nameFrom s (Int.toNat x_5) ((ByteArray.size s) - (Int.toNat x_5)))))) ∧
 (((ByteArray.size s) - (Int.toNat x_5)) < ((ByteArray.size s) - (Int.toNat x_2))))))))))))))))))) ∧
 (((Bool.not (decide ((strAt s (Int.toNat x_2)) = 46))) = false) →
 ((i64 (x_2 + (1 : Int))) ∧
 (∃ (x_6 : Int), (((x_2 + (1 : Int)) = x_6) ∧
 ((@Eq ByteArray s s) ∧
 (((0 ≤ x_6) ∧
 ((x_6 ≤ (@Nat.cast Int _ (ByteArray.size s))) ∧
 ((nameFrom s (0 : Nat) (ByteArray.size s)) = (nameFrom s (Int.toNat x_6) ((ByteArray.size s) - (Int.toNat x_6)))))) ∧
 (((ByteArray.size s) - (Int.toNat x_6)) < ((ByteArray.size s) - (Int.toNat x_2))))))))))))))))))))) ∧
 (((decide (97 ≤ (strAt s (Int.toNat x_2)))) = false) →
 (((0 ≤ x_2) ∧
 (x_2 < (@Nat.cast Int _ (ByteArray.size s)))) ∧
 (((0 ≤ (strAt s (Int.toNat x_2))) ∧
 ((strAt s (Int.toNat x_2)) ≤ 255)) →
 ((((decide ((strAt s (Int.toNat x_2)) = 95)) = true) →
 ((i64 (x_2 + (1 : Int))) ∧
 (∃ (x_7 : Int), (((x_2 + (1 : Int)) = x_7) ∧
 ((@Eq ByteArray s s) ∧
 (((0 ≤ x_7) ∧
 ((x_7 ≤ (@Nat.cast Int _ (ByteArray.size s))) ∧
 ((nameFrom s (0 : Nat) (ByteArray.size s)) = (nameFrom s (Int.toNat x_7) ((ByteArray.size s) - (Int.toNat x_7)))))) ∧
 (((ByteArray.size s) - (Int.toNat x_7)) < ((ByteArray.size s) - (Int.toNat x_2))))))))) ∧
 (((decide ((strAt s (Int.toNat x_2)) = 95)) = false) →
 (((0 ≤ x_2) ∧
 (x_2 < (@Nat.cast Int _ (ByteArray.size s)))) ∧
 (((0 ≤ (strAt s (Int.toNat x_2))) ∧
 ((strAt s (Int.toNat x_2)) ≤ 255)) →
 ((((Bool.not (decide ((strAt s (Int.toNat x_2)) = 46))) = true) →
 (((0 ≤ x_2) ∧
 (x_2 < (@Nat.cast Int _ (ByteArray.size s)))) ∧
 (((0 ≤ (strAt s (Int.toNat x_2))) ∧
 ((strAt s (Int.toNat x_2)) ≤ 255)) →
 ((((decide ((strAt s (Int.toNat x_2)) < 48)) = true) →
 ((false = (nameB s)) ∧
 True)) ∧
 (((decide ((strAt s (Int.toNat x_2)) < 48)) = false) →
 (((0 ≤ x_2) ∧
 (x_2 < (@Nat.cast Int _ (ByteArray.size s)))) ∧
 (((0 ≤ (strAt s (Int.toNat x_2))) ∧
 ((strAt s (Int.toNat x_2)) ≤ 255)) →
 ((((decide (57 < (strAt s (Int.toNat x_2)))) = true) →
 ((false = (nameB s)) ∧
 True)) ∧
 (((decide (57 < (strAt s (Int.toNat x_2)))) = false) →
 ((((decide (x_2 = (0 : Int))) = true) →
 ((false = (nameB s)) ∧
 True)) ∧
 (((decide (x_2 = (0 : Int))) = false) →
 ((i64 (x_2 + (1 : Int))) ∧
 (∃ (x_8 : Int), (((x_2 + (1 : Int)) = x_8) ∧
 ((@Eq ByteArray s s) ∧
 (((0 ≤ x_8) ∧
 ((x_8 ≤ (@Nat.cast Int _ (ByteArray.size s))) ∧
 ((nameFrom s (0 : Nat) (ByteArray.size s)) = (nameFrom s (Int.toNat x_8) ((ByteArray.size s) - (Int.toNat x_8)))))) ∧
 (((ByteArray.size s) - (Int.toNat x_8)) < ((ByteArray.size s) - (Int.toNat x_2))))))))))))))))))) ∧
 (((Bool.not (decide ((strAt s (Int.toNat x_2)) = 46))) = false) →
 ((i64 (x_2 + (1 : Int))) ∧
 (∃ (x_9 : Int), (((x_2 + (1 : Int)) = x_9) ∧
 ((@Eq ByteArray s s) ∧
 (((0 ≤ x_9) ∧
 ((x_9 ≤ (@Nat.cast Int _ (ByteArray.size s))) ∧
 ((nameFrom s (0 : Nat) (ByteArray.size s)) = (nameFrom s (Int.toNat x_9) ((ByteArray.size s) - (Int.toNat x_9)))))) ∧
 (((ByteArray.size s) - (Int.toNat x_9)) < ((ByteArray.size s) - (Int.toNat x_2))))))))))))))))))))) ∧
 (((decide (x_2 < (@Nat.cast Int _ (ByteArray.size s)))) = false) →
 (((ByteArray.size s) ≤ 9223372036854775807) →
 (((decide ((1 ≤ (@Nat.cast Int _ (ByteArray.size s))) ∧
 ((@Nat.cast Int _ (ByteArray.size s)) ≤ 8))) = (nameB s)) ∧
 True))))))))) := by kernel_rfl
theorem det_spec_NameValid : C_spec_NameValid.det = true → ∀ x, (C_spec_NameValid.out x).Det := fun _ _ => Det.vc'
set_option maxRecDepth 200000 in
set_option maxHeartbeats 4000000 in
theorem ok_spec_NameValid : ConOK Try.prog 85 C_spec_NameValid := by
  refine con_mk (wr := false) (ty := tyL tys_) (l := L_spec_NameValid) ⟨⟨ok_spec_l1In, det_spec_l1In⟩, trivial⟩ Try.checked.mixed (fn := Try.f85) (body := Try.f85.body.getD .skip) Try.func85 rfl (by decide) (by kernel_rfl) rfl an_spec_NameValid fun x ho hx => ?_
  obtain ⟨s, ⟨⟩⟩ := x
  refine Keeps.of (vc_spec_NameValid s) ?_
  revert s ho hx
  show ∀ (s : ByteArray), _
  intro s ho hx
  dsimp only [C_spec_NameValid, okPTL, okPT, Ok, Ty.cells, SN.cells, OkL, OkC, okI, ci, cb, cs, cl] at ho
  dsimp only [C_spec_NameValid, vc, v1, decB, SR.pre] at hx
  have hst : ∀ i : Int, 0 ≤ i → i < s.size → nameFrom s i.toNat (s.size - i.toNat) = (nameCh i.toNat (strAt s i.toNat) && nameFrom s (i + 1).toNat (s.size - (i + 1).toNat)) := fun i h0 h => by
    rw [nameFrom_step (by omega), show (i + 1).toNat = i.toNat + 1 by omega]
  have hen : ∀ i : Int, (s.size : Int) ≤ i → nameFrom s i.toNat (s.size - i.toNat) = true := fun i h => nameFrom_end (by omega)
  (try delta i64 LN); simp only [VBt]; (repeat' first | intro _ | apply And.intro); all_goals (try omega); all_goals grind [nameB, nameCh]
end Go.Proofs.Ythkefakjihafeaa
