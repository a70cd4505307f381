/- Numbers: small functions of both packages keep their contracts. -/
import Derived.Test.YtjlgnbdncbcnjaaVmP4
import Derived.Test.YtjlgnbdncbcnjaaChecked
set_option linter.unusedVariables false
set_option linter.unusedSimpArgs false
namespace Go.Proofs.Ytjlgnbdncbcnjaa
open Go Go.RowKit


def hashStep (h : Int) (c : UInt8) : Int := (33 * h + (c.toNat : Int)) % 1000003
def hashL (l : List UInt8) : Int := l.foldl hashStep 5381
def hashT (s : ByteArray) (k : Nat) : Int := hashL (s.data.toList.take k)
def hashOf (s : ByteArray) : Int := hashL s.data.toList
theorem hashL_bd (l : List UInt8) : 0 ≤ hashL l ∧ hashL l < 1000003 := by
  have : ∀ (l : List UInt8) (h : Int), 0 ≤ h ∧ h < 1000003 → 0 ≤ l.foldl hashStep h ∧ l.foldl hashStep h < 1000003 := by
    intro l
    induction l with
    | nil => intro h hh; exact hh
    | cons c l ih => intro h hh; exact ih _ ⟨by unfold hashStep; omega, by unfold hashStep; omega⟩
  exact this l _ (by omega)
theorem hashT_bd (s : ByteArray) (k : Nat) : 0 ≤ hashT s k ∧ hashT s k < 1000003 := hashL_bd _
theorem hashT_succ (s : ByteArray) (k : Nat) (h : k < s.size) : hashT s (k + 1) = (33 * hashT s k + strAt s k) % 1000003 := by
  have h' : k < s.data.toList.length := h
  unfold hashT
  rw [List.take_succ_eq_append_getElem h']
  simp [hashL, hashStep, strAt, List.getD, List.getElem?_eq_getElem h']
theorem hashT_zero (s : ByteArray) : hashT s 0 = 5381 := rfl
theorem hashT_all (s : ByteArray) : hashT s s.size = hashOf s := by
  unfold hashT hashOf
  rw [List.take_of_length_le (show s.data.toList.length ≤ s.size from Nat.le_refl _)]

def alignUp (n a : Int) : Int := if (a = 1 ∨ a = 2 ∨ a = 4 ∨ a = 8) ∧ 0 ≤ n ∧ n ≤ 1000000 then (n + a - 1) / a * a else -1
def isBase (n : Int) : Prop := 0 ≤ n ∧ n ≤ 4096 ∧ n % 8 = 0
instance (n : Int) : Decidable (isBase n) := by unfold isBase; infer_instance
def fixWide (k : Int) : Int := if k = 1 then 1 else if k = 2 then 2 else if k = 3 then 4 else 0

def C_impl_within : Con := { ps := [.ro .i, .ro .i, .ro .i], out := fun x => let n : Int := x.1; let lo : Int := x.2.1; let hi : Int := x.2.2.1; vc .bool (decide (lo ≤ n ∧ n ≤ hi)), det := true }
def G_impl_within : Cfg := mkG (tyL [(3, .i), (5, .u), (4, .bool), (9, .str), (80, .int .u64), (26, .st .hash), (24, .list .i), (22, .list .str), (38, .list .u), (33, .st .hash)]) [] false
def an_impl_within : PTL C_impl_within.ps → Nat → Option Ann := fun _ _ => none
set_option maxRecDepth 200000 in
theorem vc_impl_within (n : Int) (lo : Int) (hi : Int) : (keeps Try.prog G_impl_within (an_impl_within (n, lo, hi, ())) (Try.f34.body.getD .skip) Try.f34.results.toList C_impl_within (n, lo, hi, ())) = (((((decide (lo ≤ n)) = true) →
 (((decide (n ≤ hi)) = (decide ((lo ≤ n) ∧
 (n ≤ hi)))) ∧
 True)) ∧
 (((decide (lo ≤ n)) = false) →
 ((false = (decide ((lo ≤ n) ∧
 (n ≤ hi)))) ∧
 True)))) := by kernel_rfl
theorem det_impl_within : C_impl_within.det = true → ∀ x, (C_impl_within.out x).Det := fun _ x => by simp only [C_impl_within]; repeat (first | exact Det.ret _ | exact Det.vc' | apply Det.req | apply Det.giv | apply Det.fork | apply Det.bif' | intro _)
set_option maxRecDepth 200000 in
set_option maxHeartbeats 1000000 in
theorem ok_impl_within : ConOK Try.prog 34 C_impl_within := by
  refine con_mk (wr := false) (ty := tyL [(3, .i), (5, .u), (4, .bool), (9, .str), (80, .int .u64), (26, .st .hash), (24, .list .i), (22, .list .str), (38, .list .u), (33, .st .hash)]) (l := []) trivial Try.checked.mixed (fn := Try.f34) (body := Try.f34.body.getD .skip) Try.func34 rfl (by decide) (by kernel_rfl) rfl an_impl_within fun x ho hx => ?_
  obtain ⟨n, lo, hi, ⟨⟩⟩ := x
  refine Keeps.of (vc_impl_within n lo hi) ?_
  revert n lo hi ho hx
  show ∀ (n : Int) (lo : Int) (hi : Int), _
  intro n lo hi ho hx
  dsimp only [C_impl_within, okPTL, okPT, Ok, Ty.cells, SN.cells, OkL, OkC, okI, ci, cb, cs, cl] at ho
  dsimp only [C_impl_within, vc, v1, decB, SR.pre] at hx
  simp only [decide_eq_true_eq, decide_eq_false_iff_not]
  refine ⟨fun h => ⟨?_, trivial⟩, fun h => ⟨?_, trivial⟩⟩ <;> simp [h]
def C_spec_l1In : Con := { ps := [.ro .i, .ro .i, .ro .i], out := fun x => let n : Int := x.1; let lo : Int := x.2.1; let hi : Int := x.2.2.1; vc .bool (decide (lo ≤ n ∧ n ≤ hi)), det := true }
def G_spec_l1In : Cfg := mkG (tyL [(3, .i), (5, .u), (4, .bool), (9, .str), (80, .int .u64), (26, .st .hash), (24, .list .i), (22, .list .str), (38, .list .u), (33, .st .hash)]) [] false
def an_spec_l1In : PTL C_spec_l1In.ps → Nat → Option Ann := fun _ _ => none
set_option maxRecDepth 200000 in
theorem vc_spec_l1In (n : Int) (lo : Int) (hi : Int) : (keeps Try.prog G_spec_l1In (an_spec_l1In (n, lo, hi, ())) (Try.f29.body.getD .skip) Try.f29.results.toList C_spec_l1In (n, lo, hi, ())) = (((((decide (lo ≤ n)) = true) →
 (((decide (n ≤ hi)) = (decide ((lo ≤ n) ∧
 (n ≤ hi)))) ∧
 True)) ∧
 (((decide (lo ≤ n)) = false) →
 ((false = (decide ((lo ≤ n) ∧
 (n ≤ hi)))) ∧
 True)))) := by kernel_rfl
theorem det_spec_l1In : C_spec_l1In.det = true → ∀ x, (C_spec_l1In.out x).Det := fun _ x => by simp only [C_spec_l1In]; repeat (first | exact Det.ret _ | exact Det.vc' | apply Det.req | apply Det.giv | apply Det.fork | apply Det.bif' | intro _)
set_option maxRecDepth 200000 in
set_option maxHeartbeats 1000000 in
theorem ok_spec_l1In : ConOK Try.prog 29 C_spec_l1In := by
  refine con_mk (wr := false) (ty := tyL [(3, .i), (5, .u), (4, .bool), (9, .str), (80, .int .u64), (26, .st .hash), (24, .list .i), (22, .list .str), (38, .list .u), (33, .st .hash)]) (l := []) trivial Try.checked.mixed (fn := Try.f29) (body := Try.f29.body.getD .skip) Try.func29 rfl (by decide) (by kernel_rfl) rfl an_spec_l1In fun x ho hx => ?_
  obtain ⟨n, lo, hi, ⟨⟩⟩ := x
  refine Keeps.of (vc_spec_l1In n lo hi) ?_
  revert n lo hi ho hx
  show ∀ (n : Int) (lo : Int) (hi : Int), _
  intro n lo hi ho hx
  dsimp only [C_spec_l1In, okPTL, okPT, Ok, Ty.cells, SN.cells, OkL, OkC, okI, ci, cb, cs, cl] at ho
  dsimp only [C_spec_l1In, vc, v1, decB, SR.pre] at hx
  simp only [decide_eq_true_eq, decide_eq_false_iff_not]
  refine ⟨fun h => ⟨?_, trivial⟩, fun h => ⟨?_, trivial⟩⟩ <;> simp [h]
def C_impl_HashOf : Con := { ps := [.ro .str], out := fun x => let s : ByteArray := x.1; vc .i (hashOf s), det := true }
def G_impl_HashOf : Cfg := mkG (tyL [(3, .i), (5, .u), (4, .bool), (9, .str), (80, .int .u64), (26, .st .hash), (24, .list .i), (22, .list .str), (38, .list .u), (33, .st .hash)]) [] false
def an_impl_HashOf : PTL C_impl_HashOf.ps → Nat → Option Ann := fun x kk_ => let s : ByteArray := x.1; if kk_ = 3 then some (.all (Int) fun k => .giv (0 ≤ k ∧ k ≤ s.size) (.mk [(0, ax s), (7, ai k), (6, ai s.size), (5, ax s), (3, ai (hashT s k.toNat))] [] (s.size - k.toNat))) else none
set_option maxRecDepth 200000 in
theorem vc_impl_HashOf (s : ByteArray) : (keeps Try.prog G_impl_HashOf (an_impl_HashOf (s, ())) (Try.f37.body.getD .skip) Try.f37.results.toList C_impl_HashOf (s, ())) = ((((ByteArray.size s) ≤ (9223372036854775807 : Nat)) →
 ((∃ (x_1 : Int), ((@Eq ByteArray s s) ∧
 (((0 : Int) = x_1) ∧
 (((@Nat.cast Int _ (ByteArray.size s)) = (@Nat.cast Int _ (ByteArray.size s))) ∧
 ((@Eq ByteArray s s) ∧
 (((5381 : Int) = (hashT s (Int.toNat x_1))) ∧
 ((((0 : Int) ≤ x_1) ∧
 (x_1 ≤ (@Nat.cast Int _ (ByteArray.size s)))) ∧
 True))))))) ∧
 (∀ (x_2 : Int), ((((0 : Int) ≤ x_2) ∧
 (x_2 ≤ (@Nat.cast Int _ (ByteArray.size s)))) →
 ((((decide (x_2 < (@Nat.cast Int _ (ByteArray.size s)))) = true) →
 ((((- (9223372036854775808 : Int)) ≤ ((33 : Int) * (hashT s (Int.toNat x_2)))) ∧
 (((33 : Int) * (hashT s (Int.toNat x_2))) ≤ (9223372036854775807 : Int))) ∧
 ((((0 : Int) ≤ x_2) ∧
 (x_2 < (@Nat.cast Int _ (ByteArray.size s)))) ∧
 ((((0 : Int) ≤ (strAt s (Int.toNat x_2))) ∧
 ((strAt s (Int.toNat x_2)) ≤ (255 : Int))) →
 ((((- (9223372036854775808 : Int)) ≤ (((33 : Int) * (hashT s (Int.toNat x_2))) + (strAt s (Int.toNat x_2)))) ∧
 ((((33 : Int) * (hashT s (Int.toNat x_2))) + (strAt s (Int.toNat x_2))) ≤ (9223372036854775807 : Int))) ∧
 ((((0 : Int) ≤ (((33 : Int) * (hashT s (Int.toNat x_2))) + (strAt s (Int.toNat x_2)))) ∧
 ((0 : Int) < (1000003 : Int))) ∧
 ((((- (9223372036854775808 : Int)) ≤ (x_2 + (1 : Int))) ∧
 ((x_2 + (1 : Int)) ≤ (9223372036854775807 : Int))) ∧
 (∃ (x_3 : Int), ((@Eq ByteArray s s) ∧
 (((x_2 + (1 : Int)) = x_3) ∧
 (((@Nat.cast Int _ (ByteArray.size s)) = (@Nat.cast Int _ (ByteArray.size s))) ∧
 ((@Eq ByteArray s s) ∧
 ((((((33 : Int) * (hashT s (Int.toNat x_2))) + (strAt s (Int.toNat x_2))) % (1000003 : Int)) = (hashT s (Int.toNat x_3))) ∧
 ((((0 : Int) ≤ x_3) ∧
 (x_3 ≤ (@Nat.cast Int _ (ByteArray.size s)))) ∧
 (((ByteArray.size s) - (Int.toNat x_3)) < ((ByteArray.size s) - (Int.toNat x_2))))))))))))))))) ∧
 (((decide (x_2 < (@Nat.cast Int _ (ByteArray.size s)))) = false) →
 (((hashT s (Int.toNat x_2)) = (hashOf s)) ∧
 True)))))))) := by kernel_rfl
theorem det_impl_HashOf : C_impl_HashOf.det = true → ∀ x, (C_impl_HashOf.out x).Det := fun _ x => by simp only [C_impl_HashOf]; repeat (first | exact Det.ret _ | exact Det.vc' | apply Det.req | apply Det.giv | apply Det.fork | apply Det.bif' | intro _)
set_option maxRecDepth 200000 in
set_option maxHeartbeats 1000000 in
theorem ok_impl_HashOf : ConOK Try.prog 37 C_impl_HashOf := by
  refine con_mk (wr := false) (ty := tyL [(3, .i), (5, .u), (4, .bool), (9, .str), (80, .int .u64), (26, .st .hash), (24, .list .i), (22, .list .str), (38, .list .u), (33, .st .hash)]) (l := []) trivial Try.checked.mixed (fn := Try.f37) (body := Try.f37.body.getD .skip) Try.func37 rfl (by decide) (by kernel_rfl) rfl an_impl_HashOf fun x ho hx => ?_
  obtain ⟨s, ⟨⟩⟩ := x
  refine Keeps.of (vc_impl_HashOf s) ?_
  revert s ho hx
  show ∀ (s : ByteArray), _
  intro s ho hx
  dsimp only [C_impl_HashOf, okPTL, okPT, Ok, Ty.cells, SN.cells, OkL, OkC, okI, ci, cb, cs, cl] at ho
  dsimp only [C_impl_HashOf, vc, v1, decB, SR.pre] at hx
  simp only [decide_eq_true_eq, decide_eq_false_iff_not, Bool.not_eq_true', Bool.not_eq_false', and_true, true_and, Int.toNat_natCast, exists_eq_left', exists_eq_left, exists_and_left, Int.not_lt, Int.not_le, Bool.false_eq_true, false_implies, implies_true, forall_const, List.length_append, List.length_cons, List.length_nil, Int.sub_add_cancel, Int.add_sub_cancel]
  refine fun hs => ⟨⟨rfl, by omega, by omega⟩, fun k hk => ⟨fun hlt => ?_, fun hge => ?_⟩⟩
  · have hb := hashT_bd s k.toNat
    have e := hashT_succ s k.toNat (by omega)
    rw [show (k + 1).toNat = k.toNat + 1 by omega, e]
    omega
  · rw [← hashT_all, show k.toNat = s.size by omega]
def C_spec_HashOf : Con := { ps := [.ro .str], out := fun x => let s : ByteArray := x.1; vc .i (hashOf s), det := true }
def G_spec_HashOf : Cfg := mkG (tyL [(3, .i), (5, .u), (4, .bool), (9, .str), (80, .int .u64), (26, .st .hash), (24, .list .i), (22, .list .str), (38, .list .u), (33, .st .hash)]) [] false
def an_spec_HashOf : PTL C_spec_HashOf.ps → Nat → Option Ann := fun x kk_ => let s : ByteArray := x.1; if kk_ = 3 then some (.all (Int) fun k => .giv (0 ≤ k ∧ k ≤ s.size) (.mk [(4, ai k), (0, ax s), (3, ai (hashT s k.toNat))] [] (s.size - k.toNat))) else none
set_option maxRecDepth 200000 in
theorem vc_spec_HashOf (s : ByteArray) : (keeps Try.prog G_spec_HashOf (an_spec_HashOf (s, ())) (Try.f31.body.getD .skip) Try.f31.results.toList C_spec_HashOf (s, ())) = (((∃ (x_1 : Int), (((0 : Int) = x_1) ∧
 ((@Eq ByteArray s s) ∧
 (((5381 : Int) = (hashT s (Int.toNat x_1))) ∧
 ((((0 : Int) ≤ x_1) ∧
 (x_1 ≤ (@Nat.cast Int _ (ByteArray.size s)))) ∧
 True))))) ∧
 (∀ (x_2 : Int), ((((0 : Int) ≤ x_2) ∧
 (x_2 ≤ (@Nat.cast Int _ (ByteArray.size s)))) →
 (((ByteArray.size s) ≤ (9223372036854775807 : Nat)) →
 ((((decide (x_2 < (@Nat.cast Int _ (ByteArray.size s)))) = true) →
 ((((- (9223372036854775808 : Int)) ≤ ((33 : Int) * (hashT s (Int.toNat x_2)))) ∧
 (((33 : Int) * (hashT s (Int.toNat x_2))) ≤ (9223372036854775807 : Int))) ∧
 ((((0 : Int) ≤ x_2) ∧
 (x_2 < (@Nat.cast Int _ (ByteArray.size s)))) ∧
 ((((0 : Int) ≤ (strAt s (Int.toNat x_2))) ∧
 ((strAt s (Int.toNat x_2)) ≤ (255 : Int))) →
 ((((- (9223372036854775808 : Int)) ≤ (((33 : Int) * (hashT s (Int.toNat x_2))) + (strAt s (Int.toNat x_2)))) ∧
 ((((33 : Int) * (hashT s (Int.toNat x_2))) + (strAt s (Int.toNat x_2))) ≤ (9223372036854775807 : Int))) ∧
 ((((0 : Int) ≤ (((33 : Int) * (hashT s (Int.toNat x_2))) + (strAt s (Int.toNat x_2)))) ∧
 ((0 : Int) < (1000003 : Int))) ∧
 ((((- (9223372036854775808 : Int)) ≤ (x_2 + (1 : Int))) ∧
 ((x_2 + (1 : Int)) ≤ (9223372036854775807 : Int))) ∧
 (∃ (x_3 : Int), (((x_2 + (1 : Int)) = x_3) ∧
 ((@Eq ByteArray s s) ∧
 ((((((33 : Int) * (hashT s (Int.toNat x_2))) + (strAt s (Int.toNat x_2))) % (1000003 : Int)) = (hashT s (Int.toNat x_3))) ∧
 ((((0 : Int) ≤ x_3) ∧
 (x_3 ≤ (@Nat.cast Int _ (ByteArray.size s)))) ∧
 (((ByteArray.size s) - (Int.toNat x_3)) < ((ByteArray.size s) - (Int.toNat x_2))))))))))))))) ∧
 (((decide (x_2 < (@Nat.cast Int _ (ByteArray.size s)))) = false) →
 (((hashT s (Int.toNat x_2)) = (hashOf s)) ∧
 True)))))))) := by kernel_rfl
theorem det_spec_HashOf : C_spec_HashOf.det = true → ∀ x, (C_spec_HashOf.out x).Det := fun _ x => by simp only [C_spec_HashOf]; repeat (first | exact Det.ret _ | exact Det.vc' | apply Det.req | apply Det.giv | apply Det.fork | apply Det.bif' | intro _)
set_option maxRecDepth 200000 in
set_option maxHeartbeats 1000000 in
theorem ok_spec_HashOf : ConOK Try.prog 31 C_spec_HashOf := by
  refine con_mk (wr := false) (ty := tyL [(3, .i), (5, .u), (4, .bool), (9, .str), (80, .int .u64), (26, .st .hash), (24, .list .i), (22, .list .str), (38, .list .u), (33, .st .hash)]) (l := []) trivial Try.checked.mixed (fn := Try.f31) (body := Try.f31.body.getD .skip) Try.func31 rfl (by decide) (by kernel_rfl) rfl an_spec_HashOf fun x ho hx => ?_
  obtain ⟨s, ⟨⟩⟩ := x
  refine Keeps.of (vc_spec_HashOf s) ?_
  revert s ho hx
  show ∀ (s : ByteArray), _
  intro s ho hx
  dsimp only [C_spec_HashOf, okPTL, okPT, Ok, Ty.cells, SN.cells, OkL, OkC, okI, ci, cb, cs, cl] at ho
  dsimp only [C_spec_HashOf, vc, v1, decB, SR.pre] at hx
  simp only [decide_eq_true_eq, decide_eq_false_iff_not, Bool.not_eq_true', Bool.not_eq_false', and_true, true_and, Int.toNat_natCast, exists_eq_left', exists_eq_left, exists_and_left, Int.not_lt, Int.not_le, Bool.false_eq_true, false_implies, implies_true, forall_const, List.length_append, List.length_cons, List.length_nil, Int.sub_add_cancel, Int.add_sub_cancel]
  refine ⟨⟨rfl, by omega, by omega⟩, fun k hk hs => ⟨fun hlt => ?_, fun hge => ?_⟩⟩
  · have hb := hashT_bd s k.toNat
    have e := hashT_succ s k.toNat (by omega)
    rw [show (k + 1).toNat = k.toNat + 1 by omega, e]
    omega
  · rw [← hashT_all, show k.toNat = s.size by omega]
def C_impl_isAlign : Con := { ps := [.ro .i], out := fun x => let n : Int := x.1; vc .bool (decide (n = 1 ∨ n = 2 ∨ n = 4 ∨ n = 8)), det := true }
def G_impl_isAlign : Cfg := mkG (tyL [(3, .i), (5, .u), (4, .bool), (9, .str), (80, .int .u64), (26, .st .hash), (24, .list .i), (22, .list .str), (38, .list .u), (33, .st .hash)]) [] false
def an_impl_isAlign : PTL C_impl_isAlign.ps → Nat → Option Ann := fun _ _ => none
set_option maxRecDepth 200000 in
theorem vc_impl_isAlign (n : Int) : (keeps Try.prog G_impl_isAlign (an_impl_isAlign (n, ())) (Try.f63.body.getD .skip) Try.f63.results.toList C_impl_isAlign (n, ())) = (((((decide (n = (1 : Int))) = true) →
 ((true = (decide ((n = (1 : Int)) ∨ ((n = (2 : Int)) ∨ ((n = (4 : Int)) ∨ (n = (8 : Int))))))) ∧
 True)) ∧
 (((decide (n = (1 : Int))) = false) →
 ((((decide (n = (2 : Int))) = true) →
 ((true = (decide ((n = (1 : Int)) ∨ ((n = (2 : Int)) ∨ ((n = (4 : Int)) ∨ (n = (8 : Int))))))) ∧
 True)) ∧
 (((decide (n = (2 : Int))) = false) →
 ((((decide (n = (4 : Int))) = true) →
 ((true = (decide ((n = (1 : Int)) ∨ ((n = (2 : Int)) ∨ ((n = (4 : Int)) ∨ (n = (8 : Int))))))) ∧
 True)) ∧
 (((decide (n = (4 : Int))) = false) →
 (((decide (n = (8 : Int))) = (decide ((n = (1 : Int)) ∨ ((n = (2 : Int)) ∨ ((n = (4 : Int)) ∨ (n = (8 : Int))))))) ∧
 True)))))))) := by kernel_rfl
theorem det_impl_isAlign : C_impl_isAlign.det = true → ∀ x, (C_impl_isAlign.out x).Det := fun _ x => by simp only [C_impl_isAlign]; repeat (first | exact Det.ret _ | exact Det.vc' | apply Det.req | apply Det.giv | apply Det.fork | apply Det.bif' | intro _)
set_option maxRecDepth 200000 in
set_option maxHeartbeats 1000000 in
theorem ok_impl_isAlign : ConOK Try.prog 63 C_impl_isAlign := by
  refine con_mk (wr := false) (ty := tyL [(3, .i), (5, .u), (4, .bool), (9, .str), (80, .int .u64), (26, .st .hash), (24, .list .i), (22, .list .str), (38, .list .u), (33, .st .hash)]) (l := []) trivial Try.checked.mixed (fn := Try.f63) (body := Try.f63.body.getD .skip) Try.func63 rfl (by decide) (by kernel_rfl) rfl an_impl_isAlign fun x ho hx => ?_
  obtain ⟨n, ⟨⟩⟩ := x
  refine Keeps.of (vc_impl_isAlign n) ?_
  revert n ho hx
  show ∀ (n : Int), _
  intro n ho hx
  dsimp only [C_impl_isAlign, okPTL, okPT, Ok, Ty.cells, SN.cells, OkL, OkC, okI, ci, cb, cs, cl] at ho
  dsimp only [C_impl_isAlign, vc, v1, decB, SR.pre] at hx
  simp only [decide_eq_true_eq, decide_eq_false_iff_not, Bool.not_eq_true', Bool.not_eq_false', and_true, true_and, Int.toNat_natCast, exists_eq_left', exists_eq_left, exists_and_left, Int.not_lt, Int.not_le, Bool.false_eq_true, false_implies, implies_true, forall_const, List.length_append, List.length_cons, List.length_nil, Int.sub_add_cancel, Int.add_sub_cancel]
  grind
def C_impl_aligned : Con := { ps := [.ro .i, .ro .i], out := fun x => let n : Int := x.1; let a : Int := x.2.1; .req (0 ≤ n ∧ n ≤ 1000000000 ∧ 1 ≤ a ∧ a ≤ 8) (vc .i ((n + a - 1) / a * a)), det := true }
def G_impl_aligned : Cfg := mkG (tyL [(3, .i), (5, .u), (4, .bool), (9, .str), (80, .int .u64), (26, .st .hash), (24, .list .i), (22, .list .str), (38, .list .u), (33, .st .hash)]) [] false
def an_impl_aligned : PTL C_impl_aligned.ps → Nat → Option Ann := fun _ _ => none
set_option maxRecDepth 200000 in
theorem vc_impl_aligned (n : Int) (a : Int) : (keeps Try.prog G_impl_aligned (an_impl_aligned (n, a, ())) (Try.f64.body.getD .skip) Try.f64.results.toList C_impl_aligned (n, a, ())) = (((((- (9223372036854775808 : Int)) ≤ (n + a)) ∧
 ((n + a) ≤ (9223372036854775807 : Int))) ∧
 ((((- (9223372036854775808 : Int)) ≤ ((n + a) - (1 : Int))) ∧
 (((n + a) - (1 : Int)) ≤ (9223372036854775807 : Int))) ∧
 ((((0 : Int) ≤ ((n + a) - (1 : Int))) ∧
 ((0 : Int) < a)) ∧
 ((((- (9223372036854775808 : Int)) ≤ ((((n + a) - (1 : Int)) / a) * a)) ∧
 (((((n + a) - (1 : Int)) / a) * a) ≤ (9223372036854775807 : Int))) ∧
 ((((((n + a) - (1 : Int)) / a) * a) = ((((n + a) - (1 : (Ty.den Ty.i))) / a) * a)) ∧
 True)))))) := by kernel_rfl
theorem det_impl_aligned : C_impl_aligned.det = true → ∀ x, (C_impl_aligned.out x).Det := fun _ x => by simp only [C_impl_aligned]; repeat (first | exact Det.ret _ | exact Det.vc' | apply Det.req | apply Det.giv | apply Det.fork | apply Det.bif' | intro _)
set_option maxRecDepth 200000 in
set_option maxHeartbeats 1000000 in
theorem ok_impl_aligned : ConOK Try.prog 64 C_impl_aligned := by
  refine con_mk (wr := false) (ty := tyL [(3, .i), (5, .u), (4, .bool), (9, .str), (80, .int .u64), (26, .st .hash), (24, .list .i), (22, .list .str), (38, .list .u), (33, .st .hash)]) (l := []) trivial Try.checked.mixed (fn := Try.f64) (body := Try.f64.body.getD .skip) Try.func64 rfl (by decide) (by kernel_rfl) rfl an_impl_aligned fun x ho hx => ?_
  obtain ⟨n, a, ⟨⟩⟩ := x
  refine Keeps.of (vc_impl_aligned n a) ?_
  revert n a ho hx
  show ∀ (n : Int) (a : Int), _
  intro n a ho hx
  dsimp only [C_impl_aligned, okPTL, okPT, Ok, Ty.cells, SN.cells, OkL, OkC, okI, ci, cb, cs, cl] at ho
  dsimp only [C_impl_aligned, vc, v1, decB, SR.pre] at hx
  simp only [decide_eq_true_eq, decide_eq_false_iff_not, Bool.not_eq_true', Bool.not_eq_false', and_true, true_and, Int.toNat_natCast, exists_eq_left', exists_eq_left, exists_and_left, Int.not_lt, Int.not_le, Bool.false_eq_true, false_implies, implies_true, forall_const, List.length_append, List.length_cons, List.length_nil, Int.sub_add_cancel, Int.add_sub_cancel]
  have ha : a = 1 ∨ a = 2 ∨ a = 3 ∨ a = 4 ∨ a = 5 ∨ a = 6 ∨ a = 7 ∨ a = 8 := by omega
  rcases ha with rfl | rfl | rfl | rfl | rfl | rfl | rfl | rfl <;> omega
def C_impl_AlignUp : Con := { ps := [.ro .i, .ro .i], out := fun x => let n : Int := x.1; let a : Int := x.2.1; vc .i (alignUp n a), det := true }
def G_impl_AlignUp : Cfg := mkG (tyL [(3, .i), (5, .u), (4, .bool), (9, .str), (80, .int .u64), (26, .st .hash), (24, .list .i), (22, .list .str), (38, .list .u), (33, .st .hash)]) [(63, C_impl_isAlign), (34, C_impl_within), (64, C_impl_aligned)] false
def an_impl_AlignUp : PTL C_impl_AlignUp.ps → Nat → Option Ann := fun _ _ => none
set_option maxRecDepth 200000 in
theorem vc_impl_AlignUp (n : Int) (a : Int) : (keeps Try.prog G_impl_AlignUp (an_impl_AlignUp (n, a, ())) (Try.f53.body.getD .skip) Try.f53.results.toList C_impl_AlignUp (n, a, ())) = (((((Bool.not (decide ((a = (1 : Int)) ∨ ((a = (2 : Int)) ∨ ((a = (4 : Int)) ∨ (a = (8 : Int))))))) = true) →
 (((- (1 : Int)) = (alignUp n a)) ∧
 True)) ∧
 (((Bool.not (decide ((a = (1 : Int)) ∨ ((a = (2 : Int)) ∨ ((a = (4 : Int)) ∨ (a = (8 : Int))))))) = false) →
 ((((Bool.not (decide (((0 : Int) ≤ n) ∧
 (n ≤ (1000000 : Int))))) = true) →
 (((- (1 : Int)) = (alignUp n a)) ∧
 True)) ∧
 (((Bool.not (decide (((0 : Int) ≤ n) ∧
 (n ≤ (1000000 : Int))))) = false) →
 ((((0 : Int) ≤ n) ∧
 ((n ≤ (1000000000 : Int)) ∧
 (((1 : Int) ≤ a) ∧
 (a ≤ (8 : Int))))) ∧
 ((((((n + a) - (1 : (Ty.den Ty.i))) / a) * a) = (alignUp n a)) ∧
 True))))))) := by kernel_rfl
theorem det_impl_AlignUp : C_impl_AlignUp.det = true → ∀ x, (C_impl_AlignUp.out x).Det := fun _ x => by simp only [C_impl_AlignUp]; repeat (first | exact Det.ret _ | exact Det.vc' | apply Det.req | apply Det.giv | apply Det.fork | apply Det.bif' | intro _)
set_option maxRecDepth 200000 in
set_option maxHeartbeats 1000000 in
theorem ok_impl_AlignUp : ConOK Try.prog 53 C_impl_AlignUp := by
  refine con_mk (wr := false) (ty := tyL [(3, .i), (5, .u), (4, .bool), (9, .str), (80, .int .u64), (26, .st .hash), (24, .list .i), (22, .list .str), (38, .list .u), (33, .st .hash)]) (l := [(63, C_impl_isAlign), (34, C_impl_within), (64, C_impl_aligned)]) ⟨⟨ok_impl_isAlign, det_impl_isAlign⟩, ⟨⟨ok_impl_within, det_impl_within⟩, ⟨⟨ok_impl_aligned, det_impl_aligned⟩, trivial⟩⟩⟩ Try.checked.mixed (fn := Try.f53) (body := Try.f53.body.getD .skip) Try.func53 rfl (by decide) (by kernel_rfl) rfl an_impl_AlignUp fun x ho hx => ?_
  obtain ⟨n, a, ⟨⟩⟩ := x
  refine Keeps.of (vc_impl_AlignUp n a) ?_
  revert n a ho hx
  show ∀ (n : Int) (a : Int), _
  intro n a ho hx
  dsimp only [C_impl_AlignUp, okPTL, okPT, Ok, Ty.cells, SN.cells, OkL, OkC, okI, ci, cb, cs, cl] at ho
  dsimp only [C_impl_AlignUp, vc, v1, decB, SR.pre] at hx
  simp only [decide_eq_true_eq, decide_eq_false_iff_not, Bool.not_eq_true', Bool.not_eq_false', and_true, true_and, Int.toNat_natCast, exists_eq_left', exists_eq_left, exists_and_left, Int.not_lt, Int.not_le, Bool.false_eq_true, false_implies, implies_true, forall_const, List.length_append, List.length_cons, List.length_nil, Int.sub_add_cancel, Int.add_sub_cancel]
  grind [alignUp, isBase, fixWide]
end Go.Proofs.Ytjlgnbdncbcnjaa
