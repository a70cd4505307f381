/- Numbers: small functions of both packages keep their contracts. -/
import Derived.Test.YtdghhckdjbpfbaaVmP4
import Derived.Test.YtdghhckdjbpfbaaChecked
set_option linter.unusedVariables false
set_option linter.unusedSimpArgs false
namespace Go.Proofs.Ytdghhckdjbpfbaa
open Go Go.RowKit


def hashStep (h : Int) (c : UInt8) : Int := (33 * h + (c.toNat : Int)) % 1000003
def hashL (l : List UInt8) : Int := l.foldl hashStep 5381
def hashT (s : ByteArray) (k : Nat) : Int := hashL (s.data.toList.take k)
def hashOf (s : ByteArray) : Int := hashL s.data.toList
theorem hashL_bd (l : List UInt8) : 0 ≤ hashL l ∧ hashL l < 1000003 := by
  have : ∀ (l : List UInt8) (h : Int), 0 ≤ h ∧ h < 1000003 → 0 ≤ l.foldl hashStep h ∧ l.foldl hashStep h < 1000003 := by
    intro l
    induction l with
    | nil => intro h hh; exact hh
    | cons c l ih => intro h hh; exact ih _ ⟨by unfold hashStep; omega, by unfold hashStep; omega⟩
  exact this l _ (by omega)
theorem hashT_bd (s : ByteArray) (k : Nat) : 0 ≤ hashT s k ∧ hashT s k < 1000003 := hashL_bd _
theorem hashT_succ (s : ByteArray) (k : Nat) (h : k < s.size) : hashT s (k + 1) = (33 * hashT s k + strAt s k) % 1000003 := by
  have h' : k < s.data.toList.length := h
  unfold hashT
  rw [List.take_succ_eq_append_getElem h']
  simp [hashL, hashStep, strAt, List.getD, List.getElem?_eq_getElem h']
theorem hashT_zero (s : ByteArray) : hashT s 0 = 5381 := rfl
theorem hashT_all (s : ByteArray) : hashT s s.size = hashOf s := by
  unfold hashT hashOf
  rw [List.take_of_length_le (show s.data.toList.length ≤ s.size from Nat.le_refl _)]

def alignUp (n a : Int) : Int := if (a = 1 ∨ a = 2 ∨ a = 4 ∨ a = 8) ∧ 0 ≤ n ∧ n ≤ 1000000 then (n + a - 1) / a * a else -1
def isBase (n : Int) : Prop := 0 ≤ n ∧ n ≤ 4096 ∧ n % 8 = 0
instance (n : Int) : Decidable (isBase n) := by unfold isBase; infer_instance
def fixWide (k : Int) : Int := if k = 1 then 1 else if k = 2 then 2 else if k = 3 then 4 else 0

def C_impl_within : Con := { ps := [.ro .i, .ro .i, .ro .i], out := fun x => let n : Int := x.1; let lo : Int := x.2.1; let hi : Int := x.2.2.1; vc .bool (decide (lo ≤ n ∧ n ≤ hi)), det := true }
def G_impl_within : Cfg := mkG (tyL [(3, .i), (5, .u), (4, .bool), (9, .str), (126, .int .u64), (45, .st .fixup), (24, .st .img), (91, .st .patch), (65, .st .hash), (63, .list .i), (61, .list .str), (22, .list .u), (41, .st .fixup), (33, .st .img), (72, .st .hash)]) [] false
def an_impl_within : PTL C_impl_within.ps → Nat → Option Ann := fun _ _ => none
set_option maxRecDepth 200000 in
theorem vc_impl_within (n : Int) (lo : Int) (hi : Int) : (keeps Try.prog G_impl_within (an_impl_within (n, lo, hi, ())) (Try.f78.body.getD .skip) Try.f78.results.toList C_impl_within (n, lo, hi, ())) = (((((decide (lo ≤ n)) = true) →
 (((decide (n ≤ hi)) = (decide ((lo ≤ n) ∧
 (n ≤ hi)))) ∧
 True)) ∧
 (((decide (lo ≤ n)) = false) →
 ((false = (decide ((lo ≤ n) ∧
 (n ≤ hi)))) ∧
 True)))) := by kernel_rfl
theorem det_impl_within : C_impl_within.det = true → ∀ x, (C_impl_within.out x).Det := fun _ x => by simp only [C_impl_within]; repeat (first | exact Det.ret _ | exact Det.vc' | apply Det.req | apply Det.giv | apply Det.fork | apply Det.bif' | intro _)
set_option maxRecDepth 200000 in
set_option maxHeartbeats 1000000 in
theorem ok_impl_within : ConOK Try.prog 78 C_impl_within := by
  refine con_mk (wr := false) (ty := tyL [(3, .i), (5, .u), (4, .bool), (9, .str), (126, .int .u64), (45, .st .fixup), (24, .st .img), (91, .st .patch), (65, .st .hash), (63, .list .i), (61, .list .str), (22, .list .u), (41, .st .fixup), (33, .st .img), (72, .st .hash)]) (l := []) trivial Try.checked.mixed (fn := Try.f78) (body := Try.f78.body.getD .skip) Try.func78 rfl (by decide) (by kernel_rfl) rfl an_impl_within fun x ho hx => ?_
  obtain ⟨n, lo, hi, ⟨⟩⟩ := x
  refine Keeps.of (vc_impl_within n lo hi) ?_
  revert n lo hi ho hx
  show ∀ (n : Int) (lo : Int) (hi : Int), _
  intro n lo hi ho hx
  dsimp only [C_impl_within, okPTL, okPT, Ok, Ty.cells, SN.cells, OkL, OkC, okI, ci, cb, cs, cl] at ho
  dsimp only [C_impl_within, vc, v1, decB, SR.pre] at hx
  simp only [decide_eq_true_eq, decide_eq_false_iff_not]
  refine ⟨fun h => ⟨?_, trivial⟩, fun h => ⟨?_, trivial⟩⟩ <;> simp [h]
def C_spec_l1In : Con := { ps := [.ro .i, .ro .i, .ro .i], out := fun x => let n : Int := x.1; let lo : Int := x.2.1; let hi : Int := x.2.2.1; vc .bool (decide (lo ≤ n ∧ n ≤ hi)), det := true }
def G_spec_l1In : Cfg := mkG (tyL [(3, .i), (5, .u), (4, .bool), (9, .str), (126, .int .u64), (45, .st .fixup), (24, .st .img), (91, .st .patch), (65, .st .hash), (63, .list .i), (61, .list .str), (22, .list .u), (41, .st .fixup), (33, .st .img), (72, .st .hash)]) [] false
def an_spec_l1In : PTL C_spec_l1In.ps → Nat → Option Ann := fun _ _ => none
set_option maxRecDepth 200000 in
theorem vc_spec_l1In (n : Int) (lo : Int) (hi : Int) : (keeps Try.prog G_spec_l1In (an_spec_l1In (n, lo, hi, ())) (Try.f74.body.getD .skip) Try.f74.results.toList C_spec_l1In (n, lo, hi, ())) = (((((decide (lo ≤ n)) = true) →
 (((decide (n ≤ hi)) = (decide ((lo ≤ n) ∧
 (n ≤ hi)))) ∧
 True)) ∧
 (((decide (lo ≤ n)) = false) →
 ((false = (decide ((lo ≤ n) ∧
 (n ≤ hi)))) ∧
 True)))) := by kernel_rfl
theorem det_spec_l1In : C_spec_l1In.det = true → ∀ x, (C_spec_l1In.out x).Det := fun _ x => by simp only [C_spec_l1In]; repeat (first | exact Det.ret _ | exact Det.vc' | apply Det.req | apply Det.giv | apply Det.fork | apply Det.bif' | intro _)
set_option maxRecDepth 200000 in
set_option maxHeartbeats 1000000 in
theorem ok_spec_l1In : ConOK Try.prog 74 C_spec_l1In := by
  refine con_mk (wr := false) (ty := tyL [(3, .i), (5, .u), (4, .bool), (9, .str), (126, .int .u64), (45, .st .fixup), (24, .st .img), (91, .st .patch), (65, .st .hash), (63, .list .i), (61, .list .str), (22, .list .u), (41, .st .fixup), (33, .st .img), (72, .st .hash)]) (l := []) trivial Try.checked.mixed (fn := Try.f74) (body := Try.f74.body.getD .skip) Try.func74 rfl (by decide) (by kernel_rfl) rfl an_spec_l1In fun x ho hx => ?_
  obtain ⟨n, lo, hi, ⟨⟩⟩ := x
  refine Keeps.of (vc_spec_l1In n lo hi) ?_
  revert n lo hi ho hx
  show ∀ (n : Int) (lo : Int) (hi : Int), _
  intro n lo hi ho hx
  dsimp only [C_spec_l1In, okPTL, okPT, Ok, Ty.cells, SN.cells, OkL, OkC, okI, ci, cb, cs, cl] at ho
  dsimp only [C_spec_l1In, vc, v1, decB, SR.pre] at hx
  simp only [decide_eq_true_eq, decide_eq_false_iff_not]
  refine ⟨fun h => ⟨?_, trivial⟩, fun h => ⟨?_, trivial⟩⟩ <;> simp [h]
def C_impl_HashOf : Con := { ps := [.ro .str], out := fun x => let s : ByteArray := x.1; vc .i (hashOf s), det := true }
def G_impl_HashOf : Cfg := mkG (tyL [(3, .i), (5, .u), (4, .bool), (9, .str), (126, .int .u64), (45, .st .fixup), (24, .st .img), (91, .st .patch), (65, .st .hash), (63, .list .i), (61, .list .str), (22, .list .u), (41, .st .fixup), (33, .st .img), (72, .st .hash)]) [] false
def an_impl_HashOf : PTL C_impl_HashOf.ps → Nat → Option Ann := fun x kk_ => let s : ByteArray := x.1; if kk_ = 3 then some (.all (Int) fun k => .giv (0 ≤ k ∧ k ≤ s.size) (.mk [(0, ax s), (7, ai k), (6, ai s.size), (5, ax s), (3, ai (hashT s k.toNat))] [] (s.size - k.toNat))) else none
set_option maxRecDepth 200000 in
theorem vc_impl_HashOf (s : ByteArray) : (keeps Try.prog G_impl_HashOf (an_impl_HashOf (s, ())) (Try.f92.body.getD .skip) Try.f92.results.toList C_impl_HashOf (s, ())) = ((((ByteArray.size s) ≤ (9223372036854775807 : Nat)) →
 ((∃ (x_1 : Int), ((@Eq ByteArray s s) ∧
 (((0 : Int) = x_1) ∧
 (((@Nat.cast Int _ (ByteArray.size s)) = (@Nat.cast Int _ (ByteArray.size s))) ∧
 ((@Eq ByteArray s s) ∧
 (((5381 : Int) = (hashT s (Int.toNat x_1))) ∧
 ((((0 : Int) ≤ x_1) ∧
 (x_1 ≤ (@Nat.cast Int _ (ByteArray.size s)))) ∧
 True))))))) ∧
 (∀ (x_2 : Int), ((((0 : Int) ≤ x_2) ∧
 (x_2 ≤ (@Nat.cast Int _ (ByteArray.size s)))) →
 ((((decide (x_2 < (@Nat.cast Int _ (ByteArray.size s)))) = true) →
 ((((- (9223372036854775808 : Int)) ≤ ((33 : Int) * (hashT s (Int.toNat x_2)))) ∧
 (((33 : Int) * (hashT s (Int.toNat x_2))) ≤ (9223372036854775807 : Int))) ∧
 ((((0 : Int) ≤ x_2) ∧
 (x_2 < (@Nat.cast Int _ (ByteArray.size s)))) ∧
 ((((0 : Int) ≤ (strAt s (Int.toNat x_2))) ∧
 ((strAt s (Int.toNat x_2)) ≤ (255 : Int))) →
 ((((- (9223372036854775808 : Int)) ≤ (((33 : Int) * (hashT s (Int.toNat x_2))) + (strAt s (Int.toNat x_2)))) ∧
 ((((33 : Int) * (hashT s (Int.toNat x_2))) + (strAt s (Int.toNat x_2))) ≤ (9223372036854775807 : Int))) ∧
 ((((0 : Int) ≤ (((33 : Int) * (hashT s (Int.toNat x_2))) + (strAt s (Int.toNat x_2)))) ∧
 ((0 : Int) < (1000003 : Int))) ∧
 ((((- (9223372036854775808 : Int)) ≤ (x_2 + (1 : Int))) ∧
 ((x_2 + (1 : Int)) ≤ (9223372036854775807 : Int))) ∧
 (∃ (x_3 : Int), ((@Eq ByteArray s s) ∧
 (((x_2 + (1 : Int)) = x_3) ∧
 (((@Nat.cast Int _ (ByteArray.size s)) = (@Nat.cast Int _ (ByteArray.size s))) ∧
 ((@Eq ByteArray s s) ∧
 ((((((33 : Int) * (hashT s (Int.toNat x_2))) + (strAt s (Int.toNat x_2))) % (1000003 : Int)) = (hashT s (Int.toNat x_3))) ∧
 ((((0 : Int) ≤ x_3) ∧
 (x_3 ≤ (@Nat.cast Int _ (ByteArray.size s)))) ∧
 (((ByteArray.size s) - (Int.toNat x_3)) < ((ByteArray.size s) - (Int.toNat x_2))))))))))))))))) ∧
 (((decide (x_2 < (@Nat.cast Int _ (ByteArray.size s)))) = false) →
 (((hashT s (Int.toNat x_2)) = (hashOf s)) ∧
 True)))))))) := by kernel_rfl
theorem det_impl_HashOf : C_impl_HashOf.det = true → ∀ x, (C_impl_HashOf.out x).Det := fun _ x => by simp only [C_impl_HashOf]; repeat (first | exact Det.ret _ | exact Det.vc' | apply Det.req | apply Det.giv | apply Det.fork | apply Det.bif' | intro _)
set_option maxRecDepth 200000 in
set_option maxHeartbeats 1000000 in
theorem ok_impl_HashOf : ConOK Try.prog 92 C_impl_HashOf := by
  refine con_mk (wr := false) (ty := tyL [(3, .i), (5, .u), (4, .bool), (9, .str), (126, .int .u64), (45, .st .fixup), (24, .st .img), (91, .st .patch), (65, .st .hash), (63, .list .i), (61, .list .str), (22, .list .u), (41, .st .fixup), (33, .st .img), (72, .st .hash)]) (l := []) trivial Try.checked.mixed (fn := Try.f92) (body := Try.f92.body.getD .skip) Try.func92 rfl (by decide) (by kernel_rfl) rfl an_impl_HashOf fun x ho hx => ?_
  obtain ⟨s, ⟨⟩⟩ := x
  refine Keeps.of (vc_impl_HashOf s) ?_
  revert s ho hx
  show ∀ (s : ByteArray), _
  intro s ho hx
  dsimp only [C_impl_HashOf, okPTL, okPT, Ok, Ty.cells, SN.cells, OkL, OkC, okI, ci, cb, cs, cl] at ho
  dsimp only [C_impl_HashOf, vc, v1, decB, SR.pre] at hx
  simp only [decide_eq_true_eq, decide_eq_false_iff_not, Bool.not_eq_true', Bool.not_eq_false', and_true, true_and, Int.toNat_natCast, exists_eq_left', exists_eq_left, exists_and_left, Int.not_lt, Int.not_le, Bool.false_eq_true, false_implies, implies_true, forall_const, List.length_append, List.length_cons, List.length_nil, Int.sub_add_cancel, Int.add_sub_cancel]
  refine fun hs => ⟨⟨rfl, by omega, by omega⟩, fun k hk => ⟨fun hlt => ?_, fun hge => ?_⟩⟩
  · have hb := hashT_bd s k.toNat
    have e := hashT_succ s k.toNat (by omega)
    rw [show (k + 1).toNat = k.toNat + 1 by omega, e]
    omega
  · rw [← hashT_all, show k.toNat = s.size by omega]
def C_spec_HashOf : Con := { ps := [.ro .str], out := fun x => let s : ByteArray := x.1; vc .i (hashOf s), det := true }
def G_spec_HashOf : Cfg := mkG (tyL [(3, .i), (5, .u), (4, .bool), (9, .str), (126, .int .u64), (45, .st .fixup), (24, .st .img), (91, .st .patch), (65, .st .hash), (63, .list .i), (61, .list .str), (22, .list .u), (41, .st .fixup), (33, .st .img), (72, .st .hash)]) [] false
def an_spec_HashOf : PTL C_spec_HashOf.ps → Nat → Option Ann := fun x kk_ => let s : ByteArray := x.1; if kk_ = 3 then some (.all (Int) fun k => .giv (0 ≤ k ∧ k ≤ s.size) (.mk [(4, ai k), (0, ax s), (3, ai (hashT s k.toNat))] [] (s.size - k.toNat))) else none
set_option maxRecDepth 200000 in
theorem vc_spec_HashOf (s : ByteArray) : (keeps Try.prog G_spec_HashOf (an_spec_HashOf (s, ())) (Try.f87.body.getD .skip) Try.f87.results.toList C_spec_HashOf (s, ())) = (((∃ (x_1 : Int), (((0 : Int) = x_1) ∧
 ((@Eq ByteArray s s) ∧
 (((5381 : Int) = (hashT s (Int.toNat x_1))) ∧
 ((((0 : Int) ≤ x_1) ∧
 (x_1 ≤ (@Nat.cast Int _ (ByteArray.size s)))) ∧
 True))))) ∧
 (∀ (x_2 : Int), ((((0 : Int) ≤ x_2) ∧
 (x_2 ≤ (@Nat.cast Int _ (ByteArray.size s)))) →
 (((ByteArray.size s) ≤ (9223372036854775807 : Nat)) →
 ((((decide (x_2 < (@Nat.cast Int _ (ByteArray.size s)))) = true) →
 ((((- (9223372036854775808 : Int)) ≤ ((33 : Int) * (hashT s (Int.toNat x_2)))) ∧
 (((33 : Int) * (hashT s (Int.toNat x_2))) ≤ (9223372036854775807 : Int))) ∧
 ((((0 : Int) ≤ x_2) ∧
 (x_2 < (@Nat.cast Int _ (ByteArray.size s)))) ∧
 ((((0 : Int) ≤ (strAt s (Int.toNat x_2))) ∧
 ((strAt s (Int.toNat x_2)) ≤ (255 : Int))) →
 ((((- (9223372036854775808 : Int)) ≤ (((33 : Int) * (hashT s (Int.toNat x_2))) + (strAt s (Int.toNat x_2)))) ∧
 ((((33 : Int) * (hashT s (Int.toNat x_2))) + (strAt s (Int.toNat x_2))) ≤ (9223372036854775807 : Int))) ∧
 ((((0 : Int) ≤ (((33 : Int) * (hashT s (Int.toNat x_2))) + (strAt s (Int.toNat x_2)))) ∧
 ((0 : Int) < (1000003 : Int))) ∧
 ((((- (9223372036854775808 : Int)) ≤ (x_2 + (1 : Int))) ∧
 ((x_2 + (1 : Int)) ≤ (9223372036854775807 : Int))) ∧
 (∃ (x_3 : Int), (((x_2 + (1 : Int)) = x_3) ∧
 ((@Eq ByteArray s s) ∧
 ((((((33 : Int) * (hashT s (Int.toNat x_2))) + (strAt s (Int.toNat x_2))) % (1000003 : Int)) = (hashT s (Int.toNat x_3))) ∧
 ((((0 : Int) ≤ x_3) ∧
 (x_3 ≤ (@Nat.cast Int _ (ByteArray.size s)))) ∧
 (((ByteArray.size s) - (Int.toNat x_3)) < ((ByteArray.size s) - (Int.toNat x_2))))))))))))))) ∧
 (((decide (x_2 < (@Nat.cast Int _ (ByteArray.size s)))) = false) →
 (((hashT s (Int.toNat x_2)) = (hashOf s)) ∧
 True)))))))) := by kernel_rfl
theorem det_spec_HashOf : C_spec_HashOf.det = true → ∀ x, (C_spec_HashOf.out x).Det := fun _ x => by simp only [C_spec_HashOf]; repeat (first | exact Det.ret _ | exact Det.vc' | apply Det.req | apply Det.giv | apply Det.fork | apply Det.bif' | intro _)
set_option maxRecDepth 200000 in
set_option maxHeartbeats 1000000 in
theorem ok_spec_HashOf : ConOK Try.prog 87 C_spec_HashOf := by
  refine con_mk (wr := false) (ty := tyL [(3, .i), (5, .u), (4, .bool), (9, .str), (126, .int .u64), (45, .st .fixup), (24, .st .img), (91, .st .patch), (65, .st .hash), (63, .list .i), (61, .list .str), (22, .list .u), (41, .st .fixup), (33, .st .img), (72, .st .hash)]) (l := []) trivial Try.checked.mixed (fn := Try.f87) (body := Try.f87.body.getD .skip) Try.func87 rfl (by decide) (by kernel_rfl) rfl an_spec_HashOf fun x ho hx => ?_
  obtain ⟨s, ⟨⟩⟩ := x
  refine Keeps.of (vc_spec_HashOf s) ?_
  revert s ho hx
  show ∀ (s : ByteArray), _
  intro s ho hx
  dsimp only [C_spec_HashOf, okPTL, okPT, Ok, Ty.cells, SN.cells, OkL, OkC, okI, ci, cb, cs, cl] at ho
  dsimp only [C_spec_HashOf, vc, v1, decB, SR.pre] at hx
  simp only [decide_eq_true_eq, decide_eq_false_iff_not, Bool.not_eq_true', Bool.not_eq_false', and_true, true_and, Int.toNat_natCast, exists_eq_left', exists_eq_left, exists_and_left, Int.not_lt, Int.not_le, Bool.false_eq_true, false_implies, implies_true, forall_const, List.length_append, List.length_cons, List.length_nil, Int.sub_add_cancel, Int.add_sub_cancel]
  refine ⟨⟨rfl, by omega, by omega⟩, fun k hk hs => ⟨fun hlt => ?_, fun hge => ?_⟩⟩
  · have hb := hashT_bd s k.toNat
    have e := hashT_succ s k.toNat (by omega)
    rw [show (k + 1).toNat = k.toNat + 1 by omega, e]
    omega
  · rw [← hashT_all, show k.toNat = s.size by omega]
def C_spec_l1Power : Con := { ps := [.ro .i], out := fun x => let n : Int := x.1; .req (0 ≤ n ∧ n ≤ 7) (vc .i (256 ^ n.toNat)), det := true }
def G_spec_l1Power : Cfg := mkG (tyL [(3, .i), (5, .u), (4, .bool), (9, .str), (126, .int .u64), (45, .st .fixup), (24, .st .img), (91, .st .patch), (65, .st .hash), (63, .list .i), (61, .list .str), (22, .list .u), (41, .st .fixup), (33, .st .img), (72, .st .hash)]) [] false
def an_spec_l1Power : PTL C_spec_l1Power.ps → Nat → Option Ann := fun x kk_ => let n : Int := x.1; if kk_ = 3 then some (.all (Int) fun k => .giv (0 ≤ k ∧ k ≤ n) (.mk [(4, ai k), (0, ai n), (3, ai (256 ^ k.toNat))] [] (n.toNat - k.toNat))) else none
set_option maxRecDepth 200000 in
theorem vc_spec_l1Power (n : Int) : (keeps Try.prog G_spec_l1Power (an_spec_l1Power (n, ())) (Try.f110.body.getD .skip) Try.f110.results.toList C_spec_l1Power (n, ())) = (((∃ (x_1 : Int), (((0 : Int) = x_1) ∧
 ((n = n) ∧
 (((1 : Int) = (@HPow.hPow Int Nat Int _ (256 : Int) (Int.toNat x_1))) ∧
 ((((0 : Int) ≤ x_1) ∧
 (x_1 ≤ n)) ∧
 True))))) ∧
 (∀ (x_2 : Int), ((((0 : Int) ≤ x_2) ∧
 (x_2 ≤ n)) →
 ((((decide (x_2 < n)) = true) →
 ((((- (9223372036854775808 : Int)) ≤ ((256 : Int) * (@HPow.hPow Int Nat Int _ (256 : Int) (Int.toNat x_2)))) ∧
 (((256 : Int) * (@HPow.hPow Int Nat Int _ (256 : Int) (Int.toNat x_2))) ≤ (9223372036854775807 : Int))) ∧
 ((((- (9223372036854775808 : Int)) ≤ (x_2 + (1 : Int))) ∧
 ((x_2 + (1 : Int)) ≤ (9223372036854775807 : Int))) ∧
 (∃ (x_3 : Int), (((x_2 + (1 : Int)) = x_3) ∧
 ((n = n) ∧
 ((((256 : Int) * (@HPow.hPow Int Nat Int _ (256 : Int) (Int.toNat x_2))) = (@HPow.hPow Int Nat Int _ (256 : Int) (Int.toNat x_3))) ∧
 ((((0 : Int) ≤ x_3) ∧
 (x_3 ≤ n)) ∧
 (((Int.toNat n) - (Int.toNat x_3)) < ((Int.toNat n) - (Int.toNat x_2))))))))))) ∧
 (((decide (x_2 < n)) = false) →
 (((@HPow.hPow Int Nat Int _ (256 : Int) (Int.toNat x_2)) = (@HPow.hPow Int Nat Int _ (256 : (Ty.den Ty.i)) (Int.toNat n))) ∧
 True))))))) := by kernel_rfl
theorem det_spec_l1Power : C_spec_l1Power.det = true → ∀ x, (C_spec_l1Power.out x).Det := fun _ x => by simp only [C_spec_l1Power]; repeat (first | exact Det.ret _ | exact Det.vc' | apply Det.req | apply Det.giv | apply Det.fork | apply Det.bif' | intro _)
set_option maxRecDepth 200000 in
set_option maxHeartbeats 1000000 in
theorem ok_spec_l1Power : ConOK Try.prog 110 C_spec_l1Power := by
  refine con_mk (wr := false) (ty := tyL [(3, .i), (5, .u), (4, .bool), (9, .str), (126, .int .u64), (45, .st .fixup), (24, .st .img), (91, .st .patch), (65, .st .hash), (63, .list .i), (61, .list .str), (22, .list .u), (41, .st .fixup), (33, .st .img), (72, .st .hash)]) (l := []) trivial Try.checked.mixed (fn := Try.f110) (body := Try.f110.body.getD .skip) Try.func110 rfl (by decide) (by kernel_rfl) rfl an_spec_l1Power fun x ho hx => ?_
  obtain ⟨n, ⟨⟩⟩ := x
  refine Keeps.of (vc_spec_l1Power n) ?_
  revert n ho hx
  show ∀ (n : Int), _
  intro n ho hx
  dsimp only [C_spec_l1Power, okPTL, okPT, Ok, Ty.cells, SN.cells, OkL, OkC, okI, ci, cb, cs, cl] at ho
  dsimp only [C_spec_l1Power, vc, v1, decB, SR.pre] at hx
  simp only [decide_eq_true_eq, decide_eq_false_iff_not, Bool.not_eq_true', Bool.not_eq_false', and_true, true_and, Int.toNat_natCast, exists_eq_left', exists_eq_left, exists_and_left, Int.not_lt, Int.not_le, Bool.false_eq_true, false_implies, implies_true, forall_const, List.length_append, List.length_cons, List.length_nil, Int.sub_add_cancel, Int.add_sub_cancel]
  obtain ⟨⟨h0, h7⟩, _⟩ := hx
  have key : ∀ k : Int, 0 ≤ k → k ≤ 7 → k = 0 ∨ k = 1 ∨ k = 2 ∨ k = 3 ∨ k = 4 ∨ k = 5 ∨ k = 6 ∨ k = 7 := fun k _ _ => by omega
  refine ⟨⟨rfl, by omega, by omega⟩, fun k hk => ⟨fun hlt => ?_, fun hge => ?_⟩⟩
  · have : k.toNat < 7 := by have := h7; omega
    rw [show (k + 1).toNat = k.toNat + 1 by omega, Int.pow_succ]
    rcases key k hk.1 (by omega) with rfl | rfl | rfl | rfl | rfl | rfl | rfl | rfl <;> simp <;> omega
  · rw [show k.toNat = n.toNat by omega]
def C_impl_isAlign : Con := { ps := [.ro .i], out := fun x => let n : Int := x.1; vc .bool (decide (n = 1 ∨ n = 2 ∨ n = 4 ∨ n = 8)), det := true }
def G_impl_isAlign : Cfg := mkG (tyL [(3, .i), (5, .u), (4, .bool), (9, .str), (126, .int .u64), (45, .st .fixup), (24, .st .img), (91, .st .patch), (65, .st .hash), (63, .list .i), (61, .list .str), (22, .list .u), (41, .st .fixup), (33, .st .img), (72, .st .hash)]) [] false
def an_impl_isAlign : PTL C_impl_isAlign.ps → Nat → Option Ann := fun _ _ => none
set_option maxRecDepth 200000 in
theorem vc_impl_isAlign (n : Int) : (keeps Try.prog G_impl_isAlign (an_impl_isAlign (n, ())) (Try.f108.body.getD .skip) Try.f108.results.toList C_impl_isAlign (n, ())) = (((((decide (n = (1 : Int))) = true) →
 ((true = (decide ((n = (1 : Int)) ∨ ((n = (2 : Int)) ∨ ((n = (4 : Int)) ∨ (n = (8 : Int))))))) ∧
 True)) ∧
 (((decide (n = (1 : Int))) = false) →
 ((((decide (n = (2 : Int))) = true) →
 ((true = (decide ((n = (1 : Int)) ∨ ((n = (2 : Int)) ∨ ((n = (4 : Int)) ∨ (n = (8 : Int))))))) ∧
 True)) ∧
 (((decide (n = (2 : Int))) = false) →
 ((((decide (n = (4 : Int))) = true) →
 ((true = (decide ((n = (1 : Int)) ∨ ((n = (2 : Int)) ∨ ((n = (4 : Int)) ∨ (n = (8 : Int))))))) ∧
 True)) ∧
 (((decide (n = (4 : Int))) = false) →
 (((decide (n = (8 : Int))) = (decide ((n = (1 : Int)) ∨ ((n = (2 : Int)) ∨ ((n = (4 : Int)) ∨ (n = (8 : Int))))))) ∧
 True)))))))) := by kernel_rfl
theorem det_impl_isAlign : C_impl_isAlign.det = true → ∀ x, (C_impl_isAlign.out x).Det := fun _ x => by simp only [C_impl_isAlign]; repeat (first | exact Det.ret _ | exact Det.vc' | apply Det.req | apply Det.giv | apply Det.fork | apply Det.bif' | intro _)
set_option maxRecDepth 200000 in
set_option maxHeartbeats 1000000 in
theorem ok_impl_isAlign : ConOK Try.prog 108 C_impl_isAlign := by
  refine con_mk (wr := false) (ty := tyL [(3, .i), (5, .u), (4, .bool), (9, .str), (126, .int .u64), (45, .st .fixup), (24, .st .img), (91, .st .patch), (65, .st .hash), (63, .list .i), (61, .list .str), (22, .list .u), (41, .st .fixup), (33, .st .img), (72, .st .hash)]) (l := []) trivial Try.checked.mixed (fn := Try.f108) (body := Try.f108.body.getD .skip) Try.func108 rfl (by decide) (by kernel_rfl) rfl an_impl_isAlign fun x ho hx => ?_
  obtain ⟨n, ⟨⟩⟩ := x
  refine Keeps.of (vc_impl_isAlign n) ?_
  revert n ho hx
  show ∀ (n : Int), _
  intro n ho hx
  dsimp only [C_impl_isAlign, okPTL, okPT, Ok, Ty.cells, SN.cells, OkL, OkC, okI, ci, cb, cs, cl] at ho
  dsimp only [C_impl_isAlign, vc, v1, decB, SR.pre] at hx
  simp only [decide_eq_true_eq, decide_eq_false_iff_not, Bool.not_eq_true', Bool.not_eq_false', and_true, true_and, Int.toNat_natCast, exists_eq_left', exists_eq_left, exists_and_left, Int.not_lt, Int.not_le, Bool.false_eq_true, false_implies, implies_true, forall_const, List.length_append, List.length_cons, List.length_nil, Int.sub_add_cancel, Int.add_sub_cancel]
  grind
def C_impl_aligned : Con := { ps := [.ro .i, .ro .i], out := fun x => let n : Int := x.1; let a : Int := x.2.1; .req (0 ≤ n ∧ n ≤ 1000000000 ∧ 1 ≤ a ∧ a ≤ 8) (vc .i ((n + a - 1) / a * a)), det := true }
def G_impl_aligned : Cfg := mkG (tyL [(3, .i), (5, .u), (4, .bool), (9, .str), (126, .int .u64), (45, .st .fixup), (24, .st .img), (91, .st .patch), (65, .st .hash), (63, .list .i), (61, .list .str), (22, .list .u), (41, .st .fixup), (33, .st .img), (72, .st .hash)]) [] false
def an_impl_aligned : PTL C_impl_aligned.ps → Nat → Option Ann := fun _ _ => none
set_option maxRecDepth 200000 in
theorem vc_impl_aligned (n : Int) (a : Int) : (keeps Try.prog G_impl_aligned (an_impl_aligned (n, a, ())) (Try.f109.body.getD .skip) Try.f109.results.toList C_impl_aligned (n, a, ())) = (((((- (9223372036854775808 : Int)) ≤ (n + a)) ∧
 ((n + a) ≤ (9223372036854775807 : Int))) ∧
 ((((- (9223372036854775808 : Int)) ≤ ((n + a) - (1 : Int))) ∧
 (((n + a) - (1 : Int)) ≤ (9223372036854775807 : Int))) ∧
 ((((0 : Int) ≤ ((n + a) - (1 : Int))) ∧
 ((0 : Int) < a)) ∧
 ((((- (9223372036854775808 : Int)) ≤ ((((n + a) - (1 : Int)) / a) * a)) ∧
 (((((n + a) - (1 : Int)) / a) * a) ≤ (9223372036854775807 : Int))) ∧
 ((((((n + a) - (1 : Int)) / a) * a) = ((((n + a) - (1 : (Ty.den Ty.i))) / a) * a)) ∧
 True)))))) := by kernel_rfl
theorem det_impl_aligned : C_impl_aligned.det = true → ∀ x, (C_impl_aligned.out x).Det := fun _ x => by simp only [C_impl_aligned]; repeat (first | exact Det.ret _ | exact Det.vc' | apply Det.req | apply Det.giv | apply Det.fork | apply Det.bif' | intro _)
set_option maxRecDepth 200000 in
set_option maxHeartbeats 1000000 in
theorem ok_impl_aligned : ConOK Try.prog 109 C_impl_aligned := by
  refine con_mk (wr := false) (ty := tyL [(3, .i), (5, .u), (4, .bool), (9, .str), (126, .int .u64), (45, .st .fixup), (24, .st .img), (91, .st .patch), (65, .st .hash), (63, .list .i), (61, .list .str), (22, .list .u), (41, .st .fixup), (33, .st .img), (72, .st .hash)]) (l := []) trivial Try.checked.mixed (fn := Try.f109) (body := Try.f109.body.getD .skip) Try.func109 rfl (by decide) (by kernel_rfl) rfl an_impl_aligned fun x ho hx => ?_
  obtain ⟨n, a, ⟨⟩⟩ := x
  refine Keeps.of (vc_impl_aligned n a) ?_
  revert n a ho hx
  show ∀ (n : Int) (a : Int), _
  intro n a ho hx
  dsimp only [C_impl_aligned, okPTL, okPT, Ok, Ty.cells, SN.cells, OkL, OkC, okI, ci, cb, cs, cl] at ho
  dsimp only [C_impl_aligned, vc, v1, decB, SR.pre] at hx
  simp only [decide_eq_true_eq, decide_eq_false_iff_not, Bool.not_eq_true', Bool.not_eq_false', and_true, true_and, Int.toNat_natCast, exists_eq_left', exists_eq_left, exists_and_left, Int.not_lt, Int.not_le, Bool.false_eq_true, false_implies, implies_true, forall_const, List.length_append, List.length_cons, List.length_nil, Int.sub_add_cancel, Int.add_sub_cancel]
  have ha : a = 1 ∨ a = 2 ∨ a = 3 ∨ a = 4 ∨ a = 5 ∨ a = 6 ∨ a = 7 ∨ a = 8 := by omega
  rcases ha with rfl | rfl | rfl | rfl | rfl | rfl | rfl | rfl <;> omega
def C_impl_AlignUp : Con := { ps := [.ro .i, .ro .i], out := fun x => let n : Int := x.1; let a : Int := x.2.1; vc .i (alignUp n a), det := true }
def G_impl_AlignUp : Cfg := mkG (tyL [(3, .i), (5, .u), (4, .bool), (9, .str), (126, .int .u64), (45, .st .fixup), (24, .st .img), (91, .st .patch), (65, .st .hash), (63, .list .i), (61, .list .str), (22, .list .u), (41, .st .fixup), (33, .st .img), (72, .st .hash)]) [(108, C_impl_isAlign), (78, C_impl_within), (109, C_impl_aligned)] false
def an_impl_AlignUp : PTL C_impl_AlignUp.ps → Nat → Option Ann := fun _ _ => none
set_option maxRecDepth 200000 in
theorem vc_impl_AlignUp (n : Int) (a : Int) : (keeps Try.prog G_impl_AlignUp (an_impl_AlignUp (n, a, ())) (Try.f70.body.getD .skip) Try.f70.results.toList C_impl_AlignUp (n, a, ())) = (((((Bool.not (decide ((a = (1 : Int)) ∨ ((a = (2 : Int)) ∨ ((a = (4 : Int)) ∨ (a = (8 : Int))))))) = true) →
 (((- (1 : Int)) = (alignUp n a)) ∧
 True)) ∧
 (((Bool.not (decide ((a = (1 : Int)) ∨ ((a = (2 : Int)) ∨ ((a = (4 : Int)) ∨ (a = (8 : Int))))))) = false) →
 ((((Bool.not (decide (((0 : Int) ≤ n) ∧
 (n ≤ (1000000 : Int))))) = true) →
 (((- (1 : Int)) = (alignUp n a)) ∧
 True)) ∧
 (((Bool.not (decide (((0 : Int) ≤ n) ∧
 (n ≤ (1000000 : Int))))) = false) →
 ((((0 : Int) ≤ n) ∧
 ((n ≤ (1000000000 : Int)) ∧
 (((1 : Int) ≤ a) ∧
 (a ≤ (8 : Int))))) ∧
 ((((((n + a) - (1 : (Ty.den Ty.i))) / a) * a) = (alignUp n a)) ∧
 True))))))) := by kernel_rfl
theorem det_impl_AlignUp : C_impl_AlignUp.det = true → ∀ x, (C_impl_AlignUp.out x).Det := fun _ x => by simp only [C_impl_AlignUp]; repeat (first | exact Det.ret _ | exact Det.vc' | apply Det.req | apply Det.giv | apply Det.fork | apply Det.bif' | intro _)
set_option maxRecDepth 200000 in
set_option maxHeartbeats 1000000 in
theorem ok_impl_AlignUp : ConOK Try.prog 70 C_impl_AlignUp := by
  refine con_mk (wr := false) (ty := tyL [(3, .i), (5, .u), (4, .bool), (9, .str), (126, .int .u64), (45, .st .fixup), (24, .st .img), (91, .st .patch), (65, .st .hash), (63, .list .i), (61, .list .str), (22, .list .u), (41, .st .fixup), (33, .st .img), (72, .st .hash)]) (l := [(108, C_impl_isAlign), (78, C_impl_within), (109, C_impl_aligned)]) ⟨⟨ok_impl_isAlign, det_impl_isAlign⟩, ⟨⟨ok_impl_within, det_impl_within⟩, ⟨⟨ok_impl_aligned, det_impl_aligned⟩, trivial⟩⟩⟩ Try.checked.mixed (fn := Try.f70) (body := Try.f70.body.getD .skip) Try.func70 rfl (by decide) (by kernel_rfl) rfl an_impl_AlignUp fun x ho hx => ?_
  obtain ⟨n, a, ⟨⟩⟩ := x
  refine Keeps.of (vc_impl_AlignUp n a) ?_
  revert n a ho hx
  show ∀ (n : Int) (a : Int), _
  intro n a ho hx
  dsimp only [C_impl_AlignUp, okPTL, okPT, Ok, Ty.cells, SN.cells, OkL, OkC, okI, ci, cb, cs, cl] at ho
  dsimp only [C_impl_AlignUp, vc, v1, decB, SR.pre] at hx
  simp only [decide_eq_true_eq, decide_eq_false_iff_not, Bool.not_eq_true', Bool.not_eq_false', and_true, true_and, Int.toNat_natCast, exists_eq_left', exists_eq_left, exists_and_left, Int.not_lt, Int.not_le, Bool.false_eq_true, false_implies, implies_true, forall_const, List.length_append, List.length_cons, List.length_nil, Int.sub_add_cancel, Int.add_sub_cancel]
  grind [alignUp, isBase, fixWide]
def C_impl_isBase : Con := { ps := [.ro .i], out := fun x => let n : Int := x.1; vc .bool (decide (isBase n)), det := true }
def G_impl_isBase : Cfg := mkG (tyL [(3, .i), (5, .u), (4, .bool), (9, .str), (126, .int .u64), (45, .st .fixup), (24, .st .img), (91, .st .patch), (65, .st .hash), (63, .list .i), (61, .list .str), (22, .list .u), (41, .st .fixup), (33, .st .img), (72, .st .hash)]) [(78, C_impl_within)] false
def an_impl_isBase : PTL C_impl_isBase.ps → Nat → Option Ann := fun _ _ => none
set_option maxRecDepth 200000 in
theorem vc_impl_isBase (n : Int) : (keeps Try.prog G_impl_isBase (an_impl_isBase (n, ())) (Try.f107.body.getD .skip) Try.f107.results.toList C_impl_isBase (n, ())) = (((((decide (((0 : Int) ≤ n) ∧
 (n ≤ (4096 : Int)))) = true) →
 ((((0 : Int) ≤ n) ∧
 ((0 : Int) < (8 : Int))) ∧
 (((decide ((n % (8 : Int)) = (0 : Int))) = (decide (isBase n))) ∧
 True))) ∧
 (((decide (((0 : Int) ≤ n) ∧
 (n ≤ (4096 : Int)))) = false) →
 ((false = (decide (isBase n))) ∧
 True)))) := by kernel_rfl
theorem det_impl_isBase : C_impl_isBase.det = true → ∀ x, (C_impl_isBase.out x).Det := fun _ x => by simp only [C_impl_isBase]; repeat (first | exact Det.ret _ | exact Det.vc' | apply Det.req | apply Det.giv | apply Det.fork | apply Det.bif' | intro _)
set_option maxRecDepth 200000 in
set_option maxHeartbeats 1000000 in
theorem ok_impl_isBase : ConOK Try.prog 107 C_impl_isBase := by
  refine con_mk (wr := false) (ty := tyL [(3, .i), (5, .u), (4, .bool), (9, .str), (126, .int .u64), (45, .st .fixup), (24, .st .img), (91, .st .patch), (65, .st .hash), (63, .list .i), (61, .list .str), (22, .list .u), (41, .st .fixup), (33, .st .img), (72, .st .hash)]) (l := [(78, C_impl_within)]) ⟨⟨ok_impl_within, det_impl_within⟩, trivial⟩ Try.checked.mixed (fn := Try.f107) (body := Try.f107.body.getD .skip) Try.func107 rfl (by decide) (by kernel_rfl) rfl an_impl_isBase fun x ho hx => ?_
  obtain ⟨n, ⟨⟩⟩ := x
  refine Keeps.of (vc_impl_isBase n) ?_
  revert n ho hx
  show ∀ (n : Int), _
  intro n ho hx
  dsimp only [C_impl_isBase, okPTL, okPT, Ok, Ty.cells, SN.cells, OkL, OkC, okI, ci, cb, cs, cl] at ho
  dsimp only [C_impl_isBase, vc, v1, decB, SR.pre] at hx
  simp only [decide_eq_true_eq, decide_eq_false_iff_not, Bool.not_eq_true', Bool.not_eq_false', and_true, true_and, Int.toNat_natCast, exists_eq_left', exists_eq_left, exists_and_left, Int.not_lt, Int.not_le, Bool.false_eq_true, false_implies, implies_true, forall_const, List.length_append, List.length_cons, List.length_nil, Int.sub_add_cancel, Int.add_sub_cancel]
  grind [alignUp, isBase, fixWide]
def C_impl_isAdd : Con := { ps := [.ro .i], out := fun x => let n : Int := x.1; vc .bool (decide (-1000 ≤ n ∧ n ≤ 1000)), det := true }
def G_impl_isAdd : Cfg := mkG (tyL [(3, .i), (5, .u), (4, .bool), (9, .str), (126, .int .u64), (45, .st .fixup), (24, .st .img), (91, .st .patch), (65, .st .hash), (63, .list .i), (61, .list .str), (22, .list .u), (41, .st .fixup), (33, .st .img), (72, .st .hash)]) [(78, C_impl_within)] false
def an_impl_isAdd : PTL C_impl_isAdd.ps → Nat → Option Ann := fun _ _ => none
set_option maxRecDepth 200000 in
theorem vc_impl_isAdd (n : Int) : (keeps Try.prog G_impl_isAdd (an_impl_isAdd (n, ())) (Try.f85.body.getD .skip) Try.f85.results.toList C_impl_isAdd (n, ())) = ((((decide (((- (1000 : Int)) ≤ n) ∧
 (n ≤ (1000 : Int)))) = (decide (((- (1000 : Int)) ≤ n) ∧
 (n ≤ (1000 : Int))))) ∧
 True)) := by kernel_rfl
theorem det_impl_isAdd : C_impl_isAdd.det = true → ∀ x, (C_impl_isAdd.out x).Det := fun _ x => by simp only [C_impl_isAdd]; repeat (first | exact Det.ret _ | exact Det.vc' | apply Det.req | apply Det.giv | apply Det.fork | apply Det.bif' | intro _)
set_option maxRecDepth 200000 in
set_option maxHeartbeats 1000000 in
theorem ok_impl_isAdd : ConOK Try.prog 85 C_impl_isAdd := by
  refine con_mk (wr := false) (ty := tyL [(3, .i), (5, .u), (4, .bool), (9, .str), (126, .int .u64), (45, .st .fixup), (24, .st .img), (91, .st .patch), (65, .st .hash), (63, .list .i), (61, .list .str), (22, .list .u), (41, .st .fixup), (33, .st .img), (72, .st .hash)]) (l := [(78, C_impl_within)]) ⟨⟨ok_impl_within, det_impl_within⟩, trivial⟩ Try.checked.mixed (fn := Try.f85) (body := Try.f85.body.getD .skip) Try.func85 rfl (by decide) (by kernel_rfl) rfl an_impl_isAdd fun x ho hx => ?_
  obtain ⟨n, ⟨⟩⟩ := x
  refine Keeps.of (vc_impl_isAdd n) ?_
  revert n ho hx
  show ∀ (n : Int), _
  intro n ho hx
  dsimp only [C_impl_isAdd, okPTL, okPT, Ok, Ty.cells, SN.cells, OkL, OkC, okI, ci, cb, cs, cl] at ho
  dsimp only [C_impl_isAdd, vc, v1, decB, SR.pre] at hx
  simp only [decide_eq_true_eq, decide_eq_false_iff_not, Bool.not_eq_true', Bool.not_eq_false', and_true, true_and, Int.toNat_natCast, exists_eq_left', exists_eq_left, exists_and_left, Int.not_lt, Int.not_le, Bool.false_eq_true, false_implies, implies_true, forall_const, List.length_append, List.length_cons, List.length_nil, Int.sub_add_cancel, Int.add_sub_cancel]
def C_impl_FixupWide : Con := { ps := [.ro .i], out := fun x => let k : Int := x.1; vc .i (fixWide k), det := true }
def G_impl_FixupWide : Cfg := mkG (tyL [(3, .i), (5, .u), (4, .bool), (9, .str), (126, .int .u64), (45, .st .fixup), (24, .st .img), (91, .st .patch), (65, .st .hash), (63, .list .i), (61, .list .str), (22, .list .u), (41, .st .fixup), (33, .st .img), (72, .st .hash)]) [] false
def an_impl_FixupWide : PTL C_impl_FixupWide.ps → Nat → Option Ann := fun _ _ => none
set_option maxRecDepth 200000 in
theorem vc_impl_FixupWide (k : Int) : (keeps Try.prog G_impl_FixupWide (an_impl_FixupWide (k, ())) (Try.f41.body.getD .skip) Try.f41.results.toList C_impl_FixupWide (k, ())) = (((((decide (k = (1 : Int))) = true) →
 (((1 : Int) = (fixWide k)) ∧
 True)) ∧
 (((decide (k = (1 : Int))) = false) →
 ((((decide (k = (2 : Int))) = true) →
 (((2 : Int) = (fixWide k)) ∧
 True)) ∧
 (((decide (k = (2 : Int))) = false) →
 ((((decide (k = (3 : Int))) = true) →
 (((4 : Int) = (fixWide k)) ∧
 True)) ∧
 (((decide (k = (3 : Int))) = false) →
 (((0 : Int) = (fixWide k)) ∧
 True)))))))) := by kernel_rfl
theorem det_impl_FixupWide : C_impl_FixupWide.det = true → ∀ x, (C_impl_FixupWide.out x).Det := fun _ x => by simp only [C_impl_FixupWide]; repeat (first | exact Det.ret _ | exact Det.vc' | apply Det.req | apply Det.giv | apply Det.fork | apply Det.bif' | intro _)
set_option maxRecDepth 200000 in
set_option maxHeartbeats 1000000 in
theorem ok_impl_FixupWide : ConOK Try.prog 41 C_impl_FixupWide := by
  refine con_mk (wr := false) (ty := tyL [(3, .i), (5, .u), (4, .bool), (9, .str), (126, .int .u64), (45, .st .fixup), (24, .st .img), (91, .st .patch), (65, .st .hash), (63, .list .i), (61, .list .str), (22, .list .u), (41, .st .fixup), (33, .st .img), (72, .st .hash)]) (l := []) trivial Try.checked.mixed (fn := Try.f41) (body := Try.f41.body.getD .skip) Try.func41 rfl (by decide) (by kernel_rfl) rfl an_impl_FixupWide fun x ho hx => ?_
  obtain ⟨k, ⟨⟩⟩ := x
  refine Keeps.of (vc_impl_FixupWide k) ?_
  revert k ho hx
  show ∀ (k : Int), _
  intro k ho hx
  dsimp only [C_impl_FixupWide, okPTL, okPT, Ok, Ty.cells, SN.cells, OkL, OkC, okI, ci, cb, cs, cl] at ho
  dsimp only [C_impl_FixupWide, vc, v1, decB, SR.pre] at hx
  simp only [decide_eq_true_eq, decide_eq_false_iff_not, Bool.not_eq_true', Bool.not_eq_false', and_true, true_and, Int.toNat_natCast, exists_eq_left', exists_eq_left, exists_and_left, Int.not_lt, Int.not_le, Bool.false_eq_true, false_implies, implies_true, forall_const, List.length_append, List.length_cons, List.length_nil, Int.sub_add_cancel, Int.add_sub_cancel]
  grind [alignUp, isBase, fixWide]
def C_spec_FixupWide : Con := { ps := [.ro .i], out := fun x => let k : Int := x.1; vc .i (fixWide k), det := true }
def G_spec_FixupWide : Cfg := mkG (tyL [(3, .i), (5, .u), (4, .bool), (9, .str), (126, .int .u64), (45, .st .fixup), (24, .st .img), (91, .st .patch), (65, .st .hash), (63, .list .i), (61, .list .str), (22, .list .u), (41, .st .fixup), (33, .st .img), (72, .st .hash)]) [(74, C_spec_l1In)] false
def an_spec_FixupWide : PTL C_spec_FixupWide.ps → Nat → Option Ann := fun _ _ => none
set_option maxRecDepth 200000 in
theorem vc_spec_FixupWide (k : Int) : (keeps Try.prog G_spec_FixupWide (an_spec_FixupWide (k, ())) (Try.f73.body.getD .skip) Try.f73.results.toList C_spec_FixupWide (k, ())) = (((((Bool.not (decide (((1 : Int) ≤ k) ∧
 (k ≤ (3 : Int))))) = true) →
 (((0 : Int) = (fixWide k)) ∧
 True)) ∧
 (((Bool.not (decide (((1 : Int) ≤ k) ∧
 (k ≤ (3 : Int))))) = false) →
 ((((- (9223372036854775808 : Int)) ≤ (k - (1 : Int))) ∧
 ((k - (1 : Int)) ≤ (9223372036854775807 : Int))) ∧
 ((((0 : Int) ≤ (k - (1 : Int))) ∧
 ((k - (1 : Int)) < (@Nat.cast Int _ (3 : Nat)))) ∧
 (∀ (x_1 : Int), ((@Eq (Option Int) ([(1 : Int), (2 : Int), (4 : Int)])[(Int.toNat (k - (1 : Int)))]? (some x_1)) →
 ((Ok (Ty.int IntKind.i64) x_1) →
 ((x_1 = (fixWide k)) ∧
 True))))))))) := by kernel_rfl
theorem det_spec_FixupWide : C_spec_FixupWide.det = true → ∀ x, (C_spec_FixupWide.out x).Det := fun _ x => by simp only [C_spec_FixupWide]; repeat (first | exact Det.ret _ | exact Det.vc' | apply Det.req | apply Det.giv | apply Det.fork | apply Det.bif' | intro _)
set_option maxRecDepth 200000 in
set_option maxHeartbeats 1000000 in
theorem ok_spec_FixupWide : ConOK Try.prog 73 C_spec_FixupWide := by
  refine con_mk (wr := false) (ty := tyL [(3, .i), (5, .u), (4, .bool), (9, .str), (126, .int .u64), (45, .st .fixup), (24, .st .img), (91, .st .patch), (65, .st .hash), (63, .list .i), (61, .list .str), (22, .list .u), (41, .st .fixup), (33, .st .img), (72, .st .hash)]) (l := [(74, C_spec_l1In)]) ⟨⟨ok_spec_l1In, det_spec_l1In⟩, trivial⟩ Try.checked.mixed (fn := Try.f73) (body := Try.f73.body.getD .skip) Try.func73 rfl (by decide) (by kernel_rfl) rfl an_spec_FixupWide fun x ho hx => ?_
  obtain ⟨k, ⟨⟩⟩ := x
  refine Keeps.of (vc_spec_FixupWide k) ?_
  revert k ho hx
  show ∀ (k : Int), _
  intro k ho hx
  dsimp only [C_spec_FixupWide, okPTL, okPT, Ok, Ty.cells, SN.cells, OkL, OkC, okI, ci, cb, cs, cl] at ho
  dsimp only [C_spec_FixupWide, vc, v1, decB, SR.pre] at hx
  simp only [decide_eq_true_eq, decide_eq_false_iff_not, Bool.not_eq_true', Bool.not_eq_false', and_true, true_and, Int.toNat_natCast, exists_eq_left', exists_eq_left, exists_and_left, Int.not_lt, Int.not_le, Bool.false_eq_true, false_implies, implies_true, forall_const, List.length_append, List.length_cons, List.length_nil, Int.sub_add_cancel, Int.add_sub_cancel]
  have hk : k = 1 ∨ k = 2 ∨ k = 3 ∨ k < 1 ∨ 3 < k := by omega
  rcases hk with rfl | rfl | rfl | h | h <;> simp [fixWide] <;> grind
end Go.Proofs.Ytdghhckdjbpfbaa
