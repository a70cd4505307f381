/- Numbers in bytes, values of fixups: both packages keep the same contracts. -/
import Derived.Test.YtdghhckdjbpfbaaNum1
set_option linter.unusedVariables false
set_option linter.unusedSimpArgs false
namespace Go.Proofs.Ytdghhckdjbpfbaa
open Go Go.RowKit


def digs : Nat → Int → List Int
  | 0, _ => []
  | k + 1, n => n % 256 :: digs k (n / 256)
def putOk (n w : Int) : Bool := decide (1 ≤ w ∧ w ≤ 4 ∧ 0 ≤ n ∧ n < 256 ^ w.toNat)
def putN (n w : Int) : List Int := if putOk n w then digs w.toNat n else []
def getOk (l : List Int) (at_ w : Int) : Bool := decide (1 ≤ w ∧ w ≤ 4 ∧ 0 ≤ at_ ∧ at_ ≤ l.length - w)
def undigs : List Int → Int
  | [] => 0
  | x :: l => x + 256 * undigs l
def getN (l : List Int) (at_ w : Int) : Int := if getOk l at_ w then undigs ((l.drop at_.toNat).take w.toNat) else -1
def signedOf (n w : Int) : Int := if putOk n w then (if n < 256 ^ w.toNat / 2 then n else n - 256 ^ w.toNat) else 0
def fixVal (k p t a : Int) : Option Int :=
  if 0 ≤ p ∧ p ≤ 100000 ∧ 0 ≤ t ∧ t ≤ 100000 ∧ -1000 ≤ a ∧ a ≤ 1000 then
    if k = 1 then (if -128 ≤ t + a - p - 1 ∧ t + a - p - 1 ≤ 127 then some ((t + a - p - 1) % 256) else none)
    else if k = 2 then (if 0 ≤ t + a ∧ t + a ≤ 65535 then some (t + a) else none)
    else if k = 3 then (if 0 ≤ t + a then some (t + a) else none)
    else none
  else none
/-- A number that may be missing. -/
def optI (o : Option Int) : SR := .ret { val := .tup [(false, [.c (ci (o.getD 0))]), (false, [.c (cb o.isSome)])] }

theorem undigs_drop (l : List Int) (k : Nat) (x : Int) (h : l[k]? = some x) : undigs (l.drop k) = x + 256 * undigs (l.drop (k + 1)) := by
  have hk : k < l.length := (List.getElem?_eq_some_iff.1 h).1
  rw [List.drop_eq_getElem_cons hk]
  have : l[k] = x := (List.getElem?_eq_some_iff.1 h).2
  simp [undigs, this]
theorem digs_step {w k m : Int} (h : k < w) : digs (w - k).toNat m = m % 256 :: digs (w - (k + 1)).toNat (m / 256) := by
  rw [show (w - k).toNat = (w - (k + 1)).toNat + 1 by omega]; rfl
theorem digs_done {w k m : Int} (h : w ≤ k) : digs (w - k).toNat m = [] := by
  rw [show (w - k).toNat = 0 by omega]; rfl
theorem undigs_step {l : List Int} {a k w x : Int} (ha : 0 ≤ a) (hk : 0 ≤ k) (hw : k < w) (h : l[(a + k).toNat]? = some x) :
    undigs (((l.drop a.toNat).take w.toNat).drop k.toNat) = x + 256 * undigs (((l.drop a.toNat).take w.toNat).drop (k + 1).toNat) := by
  rw [show (k + 1).toNat = k.toNat + 1 by omega]
  refine undigs_drop _ _ _ ?_
  rw [List.getElem?_take, if_pos (by omega), List.getElem?_drop, ← h]
  congr 1
  omega
theorem undigs_done {l : List Int} {a w : Int} : undigs (((l.drop a.toNat).take w.toNat).drop w.toNat) = 0 := by
  rw [List.drop_eq_nil_of_le (by rw [List.length_take]; omega)]; rfl
theorem pow_step {w k : Int} (h : 0 ≤ k) (h' : k < w) : (256 : Int) ^ (w - 1 - (k - 1)).toNat = 256 ^ (w - 1 - k).toNat * 256 := by
  rw [show (w - 1 - (k - 1)).toNat = (w - 1 - k).toNat + 1 by omega, Int.pow_succ]
theorem pow_bd {w k : Int} (h : 0 ≤ k) (h' : w ≤ 4) : (256 : Int) ^ (w - 1 - k).toNat ≤ 16777216 := by
  have : (w - 1 - k).toNat ≤ 3 := by omega
  generalize (w - 1 - k).toNat = n at this
  have : n = 0 ∨ n = 1 ∨ n = 2 ∨ n = 3 := by omega
  rcases this with rfl | rfl | rfl | rfl <;> decide
theorem ok_u8 {x : Int} (h : Ok (.int .u8) x) : 0 ≤ x ∧ x ≤ 255 := h
theorem ok_i64 {x : Int} (h : Ok (.int .i64) x) : -9223372036854775808 ≤ x ∧ x ≤ 9223372036854775807 := h
theorem w14 {w : Int} (h : 1 ≤ w) (h' : w ≤ 4) : w = 1 ∨ w = 2 ∨ w = 3 ∨ w = 4 := by omega
theorem pow8 {w : Int} (h : 1 ≤ w) (h' : w ≤ 4) : (2 : Int) ^ (8 * w).toNat = 256 ^ w.toNat := by
  rcases w14 h h' with rfl | rfl | rfl | rfl <;> rfl
theorem pow_le4 {w : Int} (h : 1 ≤ w) (h' : w ≤ 4) : (256 : Int) ^ w.toNat ≤ 4294967296 ∧ 256 ≤ (256 : Int) ^ w.toNat := by
  rcases w14 h h' with rfl | rfl | rfl | rfl <;> decide

def C_impl_PutNumber : Con := { ps := [.ro .i, .ro .i], out := fun x => let n : Int := x.1; let w : Int := x.2.1; .ret { val := .one (.sl 100 []), ins := [(100, .row none .u (putN n w) true)] }, det := true }
def G_impl_PutNumber : Cfg := mkG (tyL [(3, .i), (5, .u), (4, .bool), (9, .str), (126, .int .u64), (45, .st .fixup), (24, .st .img), (91, .st .patch), (65, .st .hash), (63, .list .i), (61, .list .str), (22, .list .u), (41, .st .fixup), (33, .st .img), (72, .st .hash)]) [(78, C_impl_within)] false
def an_impl_PutNumber : PTL C_impl_PutNumber.ps → Nat → Option Ann := fun x kk_ => let n : Int := x.1; let w : Int := x.2.1; if kk_ = 5 then some (.all (Int) fun k => .all (Int) fun m => .all (List Int) fun o => .giv (0 ≤ k ∧ k ≤ w ∧ 0 ≤ m ∧ o ++ digs (w - k).toNat m = digs w.toNat n ∧ o.length = k.toNat) (.mk [(0, ai m), (5, asl 20), (20, ai w), (21, ai k)] [(20, .row (some 5) .u o true)] ((w - k).toNat))) else none
set_option maxRecDepth 200000 in
theorem vc_impl_PutNumber (n : Int) (w : Int) : (keeps Try.prog G_impl_PutNumber (an_impl_PutNumber (n, w, ())) (Try.f79.body.getD .skip) Try.f79.results.toList C_impl_PutNumber (n, w, ())) = (((((Bool.not (decide (((1 : Int) ≤ w) ∧
 (w ≤ (4 : Int))))) = true) →
 ((@Eq (List Int) ([] : List Int) (putN n w)) ∧
 True)) ∧
 (((Bool.not (decide (((1 : Int) ≤ w) ∧
 (w ≤ (4 : Int))))) = false) →
 ((((- (9223372036854775808 : Int)) ≤ ((8 : Int) * w)) ∧
 (((8 : Int) * w) ≤ (9223372036854775807 : Int))) ∧
 (((0 : Int) ≤ ((8 : Int) * w)) ∧
 ((((0 : Int) ≤ ((8 : Int) * w)) ∧
 ((((8 : Int) * w) < (@Nat.cast Int _ (64 : Nat))) ∧
 (((- (9223372036854775808 : Int)) ≤ ((1 : Int) * (@HPow.hPow Int Nat Int _ (2 : Int) (Int.toNat ((8 : Int) * w))))) ∧
 (((1 : Int) * (@HPow.hPow Int Nat Int _ (2 : Int) (Int.toNat ((8 : Int) * w)))) ≤ (9223372036854775807 : Int))))) ∧
 ((((- (9223372036854775808 : Int)) ≤ (((1 : Int) * (@HPow.hPow Int Nat Int _ (2 : (Ty.den (Ty.int IntKind.i64))) (Int.toNat ((8 : Int) * w)))) - (1 : Int))) ∧
 ((((1 : Int) * (@HPow.hPow Int Nat Int _ (2 : (Ty.den (Ty.int IntKind.i64))) (Int.toNat ((8 : Int) * w)))) - (1 : Int)) ≤ (9223372036854775807 : Int))) ∧
 ((((Bool.not (decide (((0 : Int) ≤ n) ∧
 (n ≤ (((1 : Int) * (@HPow.hPow Int Nat Int _ (2 : (Ty.den (Ty.int IntKind.i64))) (Int.toNat ((8 : Int) * w)))) - (1 : Int)))))) = true) →
 ((@Eq (List Int) ([] : List Int) (putN n w)) ∧
 True)) ∧
 (((Bool.not (decide (((0 : Int) ≤ n) ∧
 (n ≤ (((1 : Int) * (@HPow.hPow Int Nat Int _ (2 : (Ty.den (Ty.int IntKind.i64))) (Int.toNat ((8 : Int) * w)))) - (1 : Int)))))) = false) →
 ((∃ (x_1 : Int), (∃ (x_2 : Int), (∃ (x_3 : (List Int)), ((n = x_2) ∧
 ((w = w) ∧
 (((0 : Int) = x_1) ∧
 ((@Eq (List Int) ([] : List Int) x_3) ∧
 ((((0 : Int) ≤ x_1) ∧
 ((x_1 ≤ w) ∧
 (((0 : Int) ≤ x_2) ∧
 ((@Eq (List Int) (x_3 ++ (digs (Int.toNat (w - x_1)) x_2)) (digs (Int.toNat w) n)) ∧
 ((List.length x_3) = (Int.toNat x_1)))))) ∧
 True)))))))) ∧
 (∀ (x_4 : Int), (∀ (x_5 : Int), (∀ (x_6 : (List Int)), ((((0 : Int) ≤ x_4) ∧
 ((x_4 ≤ w) ∧
 (((0 : Int) ≤ x_5) ∧
 ((@Eq (List Int) (x_6 ++ (digs (Int.toNat (w - x_4)) x_5)) (digs (Int.toNat w) n)) ∧
 ((List.length x_6) = (Int.toNat x_4)))))) →
 ((((decide (x_4 < w)) = true) →
 ((((((List.length x_6) + (List.length [(x_5 % (256 : (Ty.den Ty.u)))])) * (1 : Nat)) ≤ (140737488355328 : Nat)) ∧
 (((List.length x_6) + (List.length [(x_5 % (256 : (Ty.den Ty.u)))])) ≤ (1000000000000 : Nat))) ∧
 ((((0 : Int) ≤ x_5) ∧
 (((0 : Int) ≤ (8 : Int)) ∧
 ((8 : Int) < (@Nat.cast Int _ (64 : Nat))))) ∧
 ((((- (9223372036854775808 : Int)) ≤ (x_4 + (1 : Int))) ∧
 ((x_4 + (1 : Int)) ≤ (9223372036854775807 : Int))) ∧
 (∃ (x_7 : Int), (∃ (x_8 : Int), (∃ (x_9 : (List Int)), (((x_5 / (@HPow.hPow Int Nat Int _ (2 : (Ty.den (Ty.int IntKind.i64))) (8 : Nat))) = x_8) ∧
 ((w = w) ∧
 (((x_4 + (1 : Int)) = x_7) ∧
 ((@Eq (List Int) (x_6 ++ [(x_5 % (256 : (Ty.den Ty.u)))]) x_9) ∧
 ((((0 : Int) ≤ x_7) ∧
 ((x_7 ≤ w) ∧
 (((0 : Int) ≤ x_8) ∧
 ((@Eq (List Int) (x_9 ++ (digs (Int.toNat (w - x_7)) x_8)) (digs (Int.toNat w) n)) ∧
 ((List.length x_9) = (Int.toNat x_7)))))) ∧
 ((Int.toNat (w - x_7)) < (Int.toNat (w - x_4))))))))))))))) ∧
 (((decide (x_4 < w)) = false) →
 ((@Eq (List Int) x_6 (putN n w)) ∧
 True))))))))))))))))) := by kernel_rfl
theorem det_impl_PutNumber : C_impl_PutNumber.det = true → ∀ x, (C_impl_PutNumber.out x).Det := fun _ x => by simp only [C_impl_PutNumber]; repeat (first | exact Det.ret _ | exact Det.vc' | apply Det.req | apply Det.giv | apply Det.fork | apply Det.bif' | intro _)
set_option maxRecDepth 200000 in
set_option maxHeartbeats 1000000 in
theorem ok_impl_PutNumber : ConOK Try.prog 79 C_impl_PutNumber := by
  refine con_mk (wr := false) (ty := tyL [(3, .i), (5, .u), (4, .bool), (9, .str), (126, .int .u64), (45, .st .fixup), (24, .st .img), (91, .st .patch), (65, .st .hash), (63, .list .i), (61, .list .str), (22, .list .u), (41, .st .fixup), (33, .st .img), (72, .st .hash)]) (l := [(78, C_impl_within)]) ⟨⟨ok_impl_within, det_impl_within⟩, trivial⟩ Try.checked.mixed (fn := Try.f79) (body := Try.f79.body.getD .skip) Try.func79 rfl (by decide) (by kernel_rfl) rfl an_impl_PutNumber fun x ho hx => ?_
  obtain ⟨n, w, ⟨⟩⟩ := x
  refine Keeps.of (vc_impl_PutNumber n w) ?_
  revert n w ho hx
  show ∀ (n : Int) (w : Int), _
  intro n w ho hx
  dsimp only [C_impl_PutNumber, okPTL, okPT, Ok, Ty.cells, SN.cells, OkL, OkC, okI, ci, cb, cs, cl] at ho
  dsimp only [C_impl_PutNumber, vc, v1, decB, SR.pre] at hx
  simp only [decide_eq_true_eq, decide_eq_false_iff_not, Bool.not_eq_true', Bool.not_eq_false', and_true, true_and, Int.toNat_natCast, exists_eq_left', exists_eq_left, exists_and_left, Int.not_lt, Int.not_le, Bool.false_eq_true, false_implies, implies_true, forall_const, List.length_append, List.length_cons, List.length_nil, Int.sub_add_cancel, Int.add_sub_cancel]
  refine ⟨fun h => ?_, fun h => ?_⟩
  · simp [putN, putOk]; omega
  have hp := pow8 h.1 h.2
  have h4 := pow_le4 h.1 h.2
  rw [hp]
  (repeat' first | intro _ | apply And.intro)
  all_goals (try omega)
  all_goals grind [putN, putOk, digs_step, digs_done]
def C_spec_PutNumber : Con := { ps := [.ro .i, .ro .i], out := fun x => let n : Int := x.1; let w : Int := x.2.1; .ret { val := .one (.sl 100 []), ins := [(100, .row none .u (putN n w) true)] }, det := true }
def G_spec_PutNumber : Cfg := mkG (tyL [(3, .i), (5, .u), (4, .bool), (9, .str), (126, .int .u64), (45, .st .fixup), (24, .st .img), (91, .st .patch), (65, .st .hash), (63, .list .i), (61, .list .str), (22, .list .u), (41, .st .fixup), (33, .st .img), (72, .st .hash)]) [(74, C_spec_l1In), (110, C_spec_l1Power)] false
def an_spec_PutNumber : PTL C_spec_PutNumber.ps → Nat → Option Ann := fun x kk_ => let n : Int := x.1; let w : Int := x.2.1; if kk_ = 5 then some (.all (Int) fun k => .all (Int) fun m => .all (List Int) fun o => .giv (0 ≤ k ∧ k ≤ w ∧ 0 ≤ m ∧ o ++ digs (w - k).toNat m = digs w.toNat n ∧ o.length = k.toNat) (.mk [(0, ai m), (1, ai w), (5, asl 20), (6, ai k)] [(20, .row (some 5) .u o true)] ((w - k).toNat))) else none
set_option maxRecDepth 200000 in
theorem vc_spec_PutNumber (n : Int) (w : Int) : (keeps Try.prog G_spec_PutNumber (an_spec_PutNumber (n, w, ())) (Try.f76.body.getD .skip) Try.f76.results.toList C_spec_PutNumber (n, w, ())) = (((((Bool.not (decide (((1 : Int) ≤ w) ∧
 (w ≤ (4 : Int))))) = true) →
 ((@Eq (List Int) ([] : List Int) (putN n w)) ∧
 True)) ∧
 (((Bool.not (decide (((1 : Int) ≤ w) ∧
 (w ≤ (4 : Int))))) = false) →
 ((((0 : Int) ≤ w) ∧
 (w ≤ (7 : Int))) ∧
 ((((- (9223372036854775808 : Int)) ≤ ((@HPow.hPow Int Nat Int _ (256 : (Ty.den Ty.i)) (Int.toNat w)) - (1 : Int))) ∧
 (((@HPow.hPow Int Nat Int _ (256 : (Ty.den Ty.i)) (Int.toNat w)) - (1 : Int)) ≤ (9223372036854775807 : Int))) ∧
 ((((Bool.not (decide (((0 : Int) ≤ n) ∧
 (n ≤ ((@HPow.hPow Int Nat Int _ (256 : (Ty.den Ty.i)) (Int.toNat w)) - (1 : Int)))))) = true) →
 ((@Eq (List Int) ([] : List Int) (putN n w)) ∧
 True)) ∧
 (((Bool.not (decide (((0 : Int) ≤ n) ∧
 (n ≤ ((@HPow.hPow Int Nat Int _ (256 : (Ty.den Ty.i)) (Int.toNat w)) - (1 : Int)))))) = false) →
 ((∃ (x_1 : Int), (∃ (x_2 : Int), (∃ (x_3 : (List Int)), ((n = x_2) ∧
 ((w = w) ∧
 (((0 : Int) = x_1) ∧
 ((@Eq (List Int) ([] : List Int) x_3) ∧
 ((((0 : Int) ≤ x_1) ∧
 ((x_1 ≤ w) ∧
 (((0 : Int) ≤ x_2) ∧
 ((@Eq (List Int) (x_3 ++ (digs (Int.toNat (w - x_1)) x_2)) (digs (Int.toNat w) n)) ∧
 ((List.length x_3) = (Int.toNat x_1)))))) ∧
 True)))))))) ∧
 (∀ (x_4 : Int), (∀ (x_5 : Int), (∀ (x_6 : (List Int)), ((((0 : Int) ≤ x_4) ∧
 ((x_4 ≤ w) ∧
 (((0 : Int) ≤ x_5) ∧
 ((@Eq (List Int) (x_6 ++ (digs (Int.toNat (w - x_4)) x_5)) (digs (Int.toNat w) n)) ∧
 ((List.length x_6) = (Int.toNat x_4)))))) →
 ((((decide (x_4 < w)) = true) →
 ((((0 : Int) ≤ x_5) ∧
 ((0 : Int) < (256 : Int))) ∧
 ((((((List.length x_6) + (List.length [((x_5 % (256 : Int)) % (256 : (Ty.den Ty.u)))])) * (1 : Nat)) ≤ (140737488355328 : Nat)) ∧
 (((List.length x_6) + (List.length [((x_5 % (256 : Int)) % (256 : (Ty.den Ty.u)))])) ≤ (1000000000000 : Nat))) ∧
 ((((0 : Int) ≤ x_5) ∧
 ((0 : Int) < (256 : Int))) ∧
 ((((- (9223372036854775808 : Int)) ≤ (x_4 + (1 : Int))) ∧
 ((x_4 + (1 : Int)) ≤ (9223372036854775807 : Int))) ∧
 (∃ (x_7 : Int), (∃ (x_8 : Int), (∃ (x_9 : (List Int)), (((x_5 / (256 : Int)) = x_8) ∧
 ((w = w) ∧
 (((x_4 + (1 : Int)) = x_7) ∧
 ((@Eq (List Int) (x_6 ++ [((x_5 % (256 : Int)) % (256 : (Ty.den Ty.u)))]) x_9) ∧
 ((((0 : Int) ≤ x_7) ∧
 ((x_7 ≤ w) ∧
 (((0 : Int) ≤ x_8) ∧
 ((@Eq (List Int) (x_9 ++ (digs (Int.toNat (w - x_7)) x_8)) (digs (Int.toNat w) n)) ∧
 ((List.length x_9) = (Int.toNat x_7)))))) ∧
 ((Int.toNat (w - x_7)) < (Int.toNat (w - x_4)))))))))))))))) ∧
 (((decide (x_4 < w)) = false) →
 ((@Eq (List Int) x_6 (putN n w)) ∧
 True))))))))))))))) := by kernel_rfl
theorem det_spec_PutNumber : C_spec_PutNumber.det = true → ∀ x, (C_spec_PutNumber.out x).Det := fun _ x => by simp only [C_spec_PutNumber]; repeat (first | exact Det.ret _ | exact Det.vc' | apply Det.req | apply Det.giv | apply Det.fork | apply Det.bif' | intro _)
set_option maxRecDepth 200000 in
set_option maxHeartbeats 1000000 in
theorem ok_spec_PutNumber : ConOK Try.prog 76 C_spec_PutNumber := by
  refine con_mk (wr := false) (ty := tyL [(3, .i), (5, .u), (4, .bool), (9, .str), (126, .int .u64), (45, .st .fixup), (24, .st .img), (91, .st .patch), (65, .st .hash), (63, .list .i), (61, .list .str), (22, .list .u), (41, .st .fixup), (33, .st .img), (72, .st .hash)]) (l := [(74, C_spec_l1In), (110, C_spec_l1Power)]) ⟨⟨ok_spec_l1In, det_spec_l1In⟩, ⟨⟨ok_spec_l1Power, det_spec_l1Power⟩, trivial⟩⟩ Try.checked.mixed (fn := Try.f76) (body := Try.f76.body.getD .skip) Try.func76 rfl (by decide) (by kernel_rfl) rfl an_spec_PutNumber fun x ho hx => ?_
  obtain ⟨n, w, ⟨⟩⟩ := x
  refine Keeps.of (vc_spec_PutNumber n w) ?_
  revert n w ho hx
  show ∀ (n : Int) (w : Int), _
  intro n w ho hx
  dsimp only [C_spec_PutNumber, okPTL, okPT, Ok, Ty.cells, SN.cells, OkL, OkC, okI, ci, cb, cs, cl] at ho
  dsimp only [C_spec_PutNumber, vc, v1, decB, SR.pre] at hx
  simp only [decide_eq_true_eq, decide_eq_false_iff_not, Bool.not_eq_true', Bool.not_eq_false', and_true, true_and, Int.toNat_natCast, exists_eq_left', exists_eq_left, exists_and_left, Int.not_lt, Int.not_le, Bool.false_eq_true, false_implies, implies_true, forall_const, List.length_append, List.length_cons, List.length_nil, Int.sub_add_cancel, Int.add_sub_cancel]
  refine ⟨fun h => ?_, fun h => ?_⟩
  · simp [putN, putOk]; omega
  have h4 := pow_le4 h.1 h.2
  (repeat' first | intro _ | apply And.intro)
  all_goals (try omega)
  all_goals grind [putN, putOk, digs_step, digs_done]
def C_impl_GetNumber : Con := { ps := [.ro (.list .u), .ro .i, .ro .i], out := fun x => let l : List (Int) := x.1; let at_ : Int := x.2.1; let w : Int := x.2.2.1; vc .i (getN l at_ w), det := true }
def G_impl_GetNumber : Cfg := mkG (tyL [(3, .i), (5, .u), (4, .bool), (9, .str), (126, .int .u64), (45, .st .fixup), (24, .st .img), (91, .st .patch), (65, .st .hash), (63, .list .i), (61, .list .str), (22, .list .u), (41, .st .fixup), (33, .st .img), (72, .st .hash)]) [(78, C_impl_within)] false
def an_impl_GetNumber : PTL C_impl_GetNumber.ps → Nat → Option Ann := fun x kk_ => let l : List (Int) := x.1; let at_ : Int := x.2.1; let w : Int := x.2.2.1; if kk_ = 5 then some (.all (Int) fun k => .giv (-1 ≤ k ∧ k < w ∧ 0 ≤ undigs (((l.drop at_.toNat).take w.toNat).drop (k + 1).toNat) ∧ undigs (((l.drop at_.toNat).take w.toNat).drop (k + 1).toNat) < 256 ^ (w - 1 - k).toNat) (.mk [(0, al .u l), (1, ai at_), (8, ai k), (7, ai (undigs (((l.drop at_.toNat).take w.toNat).drop (k + 1).toNat)))] [] ((k + 1).toNat))) else none
set_option maxRecDepth 200000 in
theorem vc_impl_GetNumber (l : List (Int)) (at_ : Int) (w : Int) : (keeps Try.prog G_impl_GetNumber (an_impl_GetNumber (l, at_, w, ())) (Try.f43.body.getD .skip) Try.f43.results.toList C_impl_GetNumber (l, at_, w, ())) = (((((Bool.not (decide (((1 : Int) ≤ w) ∧
 (w ≤ (4 : Int))))) = true) →
 (((- (1 : Int)) = (getN l at_ w)) ∧
 True)) ∧
 (((Bool.not (decide (((1 : Int) ≤ w) ∧
 (w ≤ (4 : Int))))) = false) →
 (((List.length l) ≤ (9223372036854775807 : Nat)) →
 ((((- (9223372036854775808 : Int)) ≤ ((@Nat.cast Int _ (List.length l)) - w)) ∧
 (((@Nat.cast Int _ (List.length l)) - w) ≤ (9223372036854775807 : Int))) ∧
 ((((Bool.not (decide (((0 : Int) ≤ at_) ∧
 (at_ ≤ ((@Nat.cast Int _ (List.length l)) - w))))) = true) →
 (((- (1 : Int)) = (getN l at_ w)) ∧
 True)) ∧
 (((Bool.not (decide (((0 : Int) ≤ at_) ∧
 (at_ ≤ ((@Nat.cast Int _ (List.length l)) - w))))) = false) →
 ((((- (9223372036854775808 : Int)) ≤ (w - (1 : Int))) ∧
 ((w - (1 : Int)) ≤ (9223372036854775807 : Int))) ∧
 ((∃ (x_1 : Int), ((@Eq (List Int) l l) ∧
 ((at_ = at_) ∧
 (((w - (1 : Int)) = x_1) ∧
 (((0 : Int) = (undigs (List.drop (Int.toNat (x_1 + (1 : Int))) (List.take (Int.toNat w) (List.drop (Int.toNat at_) l))))) ∧
 ((((- (1 : Int)) ≤ x_1) ∧
 ((x_1 < w) ∧
 (((0 : Int) ≤ (undigs (List.drop (Int.toNat (x_1 + (1 : Int))) (List.take (Int.toNat w) (List.drop (Int.toNat at_) l))))) ∧
 ((undigs (List.drop (Int.toNat (x_1 + (1 : Int))) (List.take (Int.toNat w) (List.drop (Int.toNat at_) l)))) < (@HPow.hPow Int Nat Int _ (256 : Int) (Int.toNat ((w - (1 : Int)) - x_1))))))) ∧
 True)))))) ∧
 (∀ (x_2 : Int), ((((- (1 : Int)) ≤ x_2) ∧
 ((x_2 < w) ∧
 (((0 : Int) ≤ (undigs (List.drop (Int.toNat (x_2 + (1 : Int))) (List.take (Int.toNat w) (List.drop (Int.toNat at_) l))))) ∧
 ((undigs (List.drop (Int.toNat (x_2 + (1 : Int))) (List.take (Int.toNat w) (List.drop (Int.toNat at_) l)))) < (@HPow.hPow Int Nat Int _ (256 : Int) (Int.toNat ((w - (1 : Int)) - x_2))))))) →
 ((((decide ((0 : Int) ≤ x_2)) = true) →
 ((((- (9223372036854775808 : Int)) ≤ ((256 : Int) * (undigs (List.drop (Int.toNat (x_2 + (1 : Int))) (List.take (Int.toNat w) (List.drop (Int.toNat at_) l)))))) ∧
 (((256 : Int) * (undigs (List.drop (Int.toNat (x_2 + (1 : Int))) (List.take (Int.toNat w) (List.drop (Int.toNat at_) l))))) ≤ (9223372036854775807 : Int))) ∧
 ((((- (9223372036854775808 : Int)) ≤ (at_ + x_2)) ∧
 ((at_ + x_2) ≤ (9223372036854775807 : Int))) ∧
 ((((0 : Int) ≤ (at_ + x_2)) ∧
 ((at_ + x_2) < (@Nat.cast Int _ (List.length l)))) ∧
 (∀ (x_3 : Int), ((@Eq (Option Int) (l)[(Int.toNat (at_ + x_2))]? (some x_3)) →
 ((Ok (Ty.int IntKind.u8) x_3) →
 ((((- (9223372036854775808 : Int)) ≤ (((256 : Int) * (undigs (List.drop (Int.toNat (x_2 + (1 : Int))) (List.take (Int.toNat w) (List.drop (Int.toNat at_) l))))) + x_3)) ∧
 ((((256 : Int) * (undigs (List.drop (Int.toNat (x_2 + (1 : Int))) (List.take (Int.toNat w) (List.drop (Int.toNat at_) l))))) + x_3) ≤ (9223372036854775807 : Int))) ∧
 ((((- (9223372036854775808 : Int)) ≤ (x_2 - (1 : Int))) ∧
 ((x_2 - (1 : Int)) ≤ (9223372036854775807 : Int))) ∧
 (∃ (x_4 : Int), ((@Eq (List Int) l l) ∧
 ((at_ = at_) ∧
 (((x_2 - (1 : Int)) = x_4) ∧
 (((((256 : Int) * (undigs (List.drop (Int.toNat (x_2 + (1 : Int))) (List.take (Int.toNat w) (List.drop (Int.toNat at_) l))))) + x_3) = (undigs (List.drop (Int.toNat (x_4 + (1 : Int))) (List.take (Int.toNat w) (List.drop (Int.toNat at_) l))))) ∧
 ((((- (1 : Int)) ≤ x_4) ∧
 ((x_4 < w) ∧
 (((0 : Int) ≤ (undigs (List.drop (Int.toNat (x_4 + (1 : Int))) (List.take (Int.toNat w) (List.drop (Int.toNat at_) l))))) ∧
 ((undigs (List.drop (Int.toNat (x_4 + (1 : Int))) (List.take (Int.toNat w) (List.drop (Int.toNat at_) l)))) < (@HPow.hPow Int Nat Int _ (256 : Int) (Int.toNat ((w - (1 : Int)) - x_4))))))) ∧
 ((Int.toNat (x_4 + (1 : Int))) < (Int.toNat (x_2 + (1 : Int))))))))))))))))))) ∧
 (((decide ((0 : Int) ≤ x_2)) = false) →
 (((undigs (List.drop (Int.toNat (x_2 + (1 : Int))) (List.take (Int.toNat w) (List.drop (Int.toNat at_) l)))) = (getN l at_ w)) ∧
 True)))))))))))))) := by kernel_rfl
theorem det_impl_GetNumber : C_impl_GetNumber.det = true → ∀ x, (C_impl_GetNumber.out x).Det := fun _ x => by simp only [C_impl_GetNumber]; repeat (first | exact Det.ret _ | exact Det.vc' | apply Det.req | apply Det.giv | apply Det.fork | apply Det.bif' | intro _)
set_option maxRecDepth 200000 in
set_option maxHeartbeats 1000000 in
theorem ok_impl_GetNumber : ConOK Try.prog 43 C_impl_GetNumber := by
  refine con_mk (wr := false) (ty := tyL [(3, .i), (5, .u), (4, .bool), (9, .str), (126, .int .u64), (45, .st .fixup), (24, .st .img), (91, .st .patch), (65, .st .hash), (63, .list .i), (61, .list .str), (22, .list .u), (41, .st .fixup), (33, .st .img), (72, .st .hash)]) (l := [(78, C_impl_within)]) ⟨⟨ok_impl_within, det_impl_within⟩, trivial⟩ Try.checked.mixed (fn := Try.f43) (body := Try.f43.body.getD .skip) Try.func43 rfl (by decide) (by kernel_rfl) rfl an_impl_GetNumber fun x ho hx => ?_
  obtain ⟨l, at_, w, ⟨⟩⟩ := x
  refine Keeps.of (vc_impl_GetNumber l at_ w) ?_
  revert l at_ w ho hx
  show ∀ (l : List (Int)) (at_ : Int) (w : Int), _
  intro l at_ w ho hx
  dsimp only [C_impl_GetNumber, okPTL, okPT, Ok, Ty.cells, SN.cells, OkL, OkC, okI, ci, cb, cs, cl] at ho
  dsimp only [C_impl_GetNumber, vc, v1, decB, SR.pre] at hx
  simp only [decide_eq_true_eq, decide_eq_false_iff_not, Bool.not_eq_true', Bool.not_eq_false', and_true, true_and, Int.toNat_natCast, exists_eq_left', exists_eq_left, exists_and_left, Int.not_lt, Int.not_le, Bool.false_eq_true, false_implies, implies_true, forall_const, List.length_append, List.length_cons, List.length_nil, Int.sub_add_cancel, Int.add_sub_cancel]
  have hd := @undigs_done l at_ w
  refine ⟨fun h => by simp [getN, getOk]; omega, fun h hl => ⟨by omega, ⟨fun h' => by simp [getN, getOk]; omega, fun h' => ?_⟩⟩⟩
  have hget : undigs ((l.drop at_.toNat).take w.toNat) = getN l at_ w := by simp [getN, getOk]; omega
  refine ⟨by omega, ⟨by rw [hd], by omega, by omega, by rw [hd]; omega, by rw [hd, Int.sub_self]; decide⟩, fun k ⟨k1, k2, k3, k4⟩ => ⟨fun hk => ?_, fun hk => ?_⟩⟩
  · have p1 := pow_step hk k2
    have p2 := pow_bd hk h.2
    refine ⟨by omega, by omega, by omega, fun x hx hok => ?_⟩
    have e := undigs_step (by omega) hk k2 hx
    have := ok_u8 hok
    rw [e, p1]
    omega
  · rw [show (k + 1).toNat = 0 by omega, List.drop_zero, hget]
theorem and255 {x : Int} (h : -128 ≤ x) (h' : x ≤ 127) : bitI .and .i64 x 255 = x % 256 := by
  have key : ∀ i : Fin 256, bitI .and .i64 ((i.val : Int) - 128) 255 = ((i.val : Int) - 128) % 256 := by decide +kernel
  have := key ⟨(x + 128).toNat, by omega⟩
  rwa [show (((⟨(x + 128).toNat, by omega⟩ : Fin 256).val : Int)) - 128 = x by show ((x + 128).toNat : Int) - 128 = x; omega] at this
theorem half8 {w : Int} (h : 1 ≤ w) (h' : w ≤ 4) : (256 : Int) ^ w.toNat / 2 = 2 ^ (8 * w - 1).toNat ∧ (2 : Int) ^ (8 * w - 1).toNat ≤ 2147483648 ∧ 128 ≤ (2 : Int) ^ (8 * w - 1).toNat := by
  rcases w14 h h' with rfl | rfl | rfl | rfl <;> decide
def C_impl_FixupValue : Con := { ps := [.ro .i, .ro .i, .ro .i, .ro .i], out := fun x => let k : Int := x.1; let p : Int := x.2.1; let t : Int := x.2.2.1; let a : Int := x.2.2.2.1; optI (fixVal k p t a), det := true }
def G_impl_FixupValue : Cfg := mkG (tyL [(3, .i), (5, .u), (4, .bool), (9, .str), (126, .int .u64), (45, .st .fixup), (24, .st .img), (91, .st .patch), (65, .st .hash), (63, .list .i), (61, .list .str), (22, .list .u), (41, .st .fixup), (33, .st .img), (72, .st .hash)]) [(78, C_impl_within), (85, C_impl_isAdd)] false
def an_impl_FixupValue : PTL C_impl_FixupValue.ps → Nat → Option Ann := fun _ _ => none
set_option maxRecDepth 200000 in
theorem vc_impl_FixupValue (k : Int) (p : Int) (t : Int) (a : Int) : (keeps Try.prog G_impl_FixupValue (an_impl_FixupValue (k, p, t, a, ())) (Try.f42.body.getD .skip) Try.f42.results.toList C_impl_FixupValue (k, p, t, a, ())) = (((((Bool.not (decide (((0 : Int) ≤ p) ∧
 (p ≤ (100000 : Int))))) = true) →
 (((0 : Int) = (@Option.getD Int (fixVal k p t a) (0 : Int))) ∧
 ((false = (@Option.isSome Int (fixVal k p t a))) ∧
 True))) ∧
 (((Bool.not (decide (((0 : Int) ≤ p) ∧
 (p ≤ (100000 : Int))))) = false) →
 ((((Bool.not (decide (((0 : Int) ≤ t) ∧
 (t ≤ (100000 : Int))))) = true) →
 (((0 : Int) = (@Option.getD Int (fixVal k p t a) (0 : Int))) ∧
 ((false = (@Option.isSome Int (fixVal k p t a))) ∧
 True))) ∧
 (((Bool.not (decide (((0 : Int) ≤ t) ∧
 (t ≤ (100000 : Int))))) = false) →
 ((((Bool.not (decide (((- (1000 : Int)) ≤ a) ∧
 (a ≤ (1000 : Int))))) = true) →
 (((0 : Int) = (@Option.getD Int (fixVal k p t a) (0 : Int))) ∧
 ((false = (@Option.isSome Int (fixVal k p t a))) ∧
 True))) ∧
 (((Bool.not (decide (((- (1000 : Int)) ≤ a) ∧
 (a ≤ (1000 : Int))))) = false) →
 ((((- (9223372036854775808 : Int)) ≤ (t + a)) ∧
 ((t + a) ≤ (9223372036854775807 : Int))) ∧
 ((((decide (k = (2 : Int))) = true) →
 ((((decide (((0 : Int) ≤ (t + a)) ∧
 ((t + a) ≤ (65535 : Int)))) = true) →
 (((t + a) = (@Option.getD Int (fixVal k p t a) (0 : Int))) ∧
 ((true = (@Option.isSome Int (fixVal k p t a))) ∧
 True))) ∧
 (((decide (((0 : Int) ≤ (t + a)) ∧
 ((t + a) ≤ (65535 : Int)))) = false) →
 (((0 : Int) = (@Option.getD Int (fixVal k p t a) (0 : Int))) ∧
 ((false = (@Option.isSome Int (fixVal k p t a))) ∧
 True))))) ∧
 (((decide (k = (2 : Int))) = false) →
 ((((decide (k = (3 : Int))) = true) →
 ((((decide ((0 : Int) ≤ (t + a))) = true) →
 (((t + a) = (@Option.getD Int (fixVal k p t a) (0 : Int))) ∧
 ((true = (@Option.isSome Int (fixVal k p t a))) ∧
 True))) ∧
 (((decide ((0 : Int) ≤ (t + a))) = false) →
 (((0 : Int) = (@Option.getD Int (fixVal k p t a) (0 : Int))) ∧
 ((false = (@Option.isSome Int (fixVal k p t a))) ∧
 True))))) ∧
 (((decide (k = (3 : Int))) = false) →
 ((((decide (k = (1 : Int))) = true) →
 ((((- (9223372036854775808 : Int)) ≤ (p + (1 : Int))) ∧
 ((p + (1 : Int)) ≤ (9223372036854775807 : Int))) ∧
 ((((- (9223372036854775808 : Int)) ≤ ((t + a) - (p + (1 : Int)))) ∧
 (((t + a) - (p + (1 : Int))) ≤ (9223372036854775807 : Int))) ∧
 ((((decide (((- (128 : Int)) ≤ ((t + a) - (p + (1 : Int)))) ∧
 (((t + a) - (p + (1 : Int))) ≤ (127 : Int)))) = true) →
 ((((- (9223372036854775808 : Int)) ≤ (bitI Go.BinOp.and IntKind.i64 ((t + a) - (p + (1 : Int))) (255 : Int))) ∧
 ((bitI Go.BinOp.and IntKind.i64 ((t + a) - (p + (1 : Int))) (255 : Int)) ≤ (9223372036854775807 : Int))) →
 (((bitI Go.BinOp.and IntKind.i64 ((t + a) - (p + (1 : Int))) (255 : Int)) = (@Option.getD Int (fixVal k p t a) (0 : Int))) ∧
 ((true = (@Option.isSome Int (fixVal k p t a))) ∧
 True)))) ∧
 (((decide (((- (128 : Int)) ≤ ((t + a) - (p + (1 : Int)))) ∧
 (((t + a) - (p + (1 : Int))) ≤ (127 : Int)))) = false) →
 (((0 : Int) = (@Option.getD Int (fixVal k p t a) (0 : Int))) ∧
 ((false = (@Option.isSome Int (fixVal k p t a))) ∧
 True))))))) ∧
 (((decide (k = (1 : Int))) = false) →
 (((0 : Int) = (@Option.getD Int (fixVal k p t a) (0 : Int))) ∧
 ((false = (@Option.isSome Int (fixVal k p t a))) ∧
 True)))))))))))))))) := by kernel_rfl
theorem det_impl_FixupValue : C_impl_FixupValue.det = true → ∀ x, (C_impl_FixupValue.out x).Det := fun _ x => by simp only [C_impl_FixupValue]; repeat (first | exact Det.ret _ | exact Det.vc' | apply Det.req | apply Det.giv | apply Det.fork | apply Det.bif' | intro _)
set_option maxRecDepth 200000 in
set_option maxHeartbeats 1000000 in
theorem ok_impl_FixupValue : ConOK Try.prog 42 C_impl_FixupValue := by
  refine con_mk (wr := false) (ty := tyL [(3, .i), (5, .u), (4, .bool), (9, .str), (126, .int .u64), (45, .st .fixup), (24, .st .img), (91, .st .patch), (65, .st .hash), (63, .list .i), (61, .list .str), (22, .list .u), (41, .st .fixup), (33, .st .img), (72, .st .hash)]) (l := [(78, C_impl_within), (85, C_impl_isAdd)]) ⟨⟨ok_impl_within, det_impl_within⟩, ⟨⟨ok_impl_isAdd, det_impl_isAdd⟩, trivial⟩⟩ Try.checked.mixed (fn := Try.f42) (body := Try.f42.body.getD .skip) Try.func42 rfl (by decide) (by kernel_rfl) rfl an_impl_FixupValue fun x ho hx => ?_
  obtain ⟨k, p, t, a, ⟨⟩⟩ := x
  refine Keeps.of (vc_impl_FixupValue k p t a) ?_
  revert k p t a ho hx
  show ∀ (k : Int) (p : Int) (t : Int) (a : Int), _
  intro k p t a ho hx
  dsimp only [C_impl_FixupValue, okPTL, okPT, Ok, Ty.cells, SN.cells, OkL, OkC, okI, ci, cb, cs, cl] at ho
  dsimp only [C_impl_FixupValue, vc, v1, decB, SR.pre] at hx
  simp only [decide_eq_true_eq, decide_eq_false_iff_not, Bool.not_eq_true', Bool.not_eq_false', and_true, true_and, Int.toNat_natCast, exists_eq_left', exists_eq_left, exists_and_left, Int.not_lt, Int.not_le, Bool.false_eq_true, false_implies, implies_true, forall_const, List.length_append, List.length_cons, List.length_nil, Int.sub_add_cancel, Int.add_sub_cancel]
  (repeat' first | intro _ | apply And.intro)
  all_goals (try omega)
  all_goals grind [fixVal, and255]
def C_spec_FixupValue : Con := { ps := [.ro .i, .ro .i, .ro .i, .ro .i], out := fun x => let k : Int := x.1; let p : Int := x.2.1; let t : Int := x.2.2.1; let a : Int := x.2.2.2.1; optI (fixVal k p t a), det := true }
def G_spec_FixupValue : Cfg := mkG (tyL [(3, .i), (5, .u), (4, .bool), (9, .str), (126, .int .u64), (45, .st .fixup), (24, .st .img), (91, .st .patch), (65, .st .hash), (63, .list .i), (61, .list .str), (22, .list .u), (41, .st .fixup), (33, .st .img), (72, .st .hash)]) [(73, C_spec_FixupWide), (74, C_spec_l1In)] false
def an_spec_FixupValue : PTL C_spec_FixupValue.ps → Nat → Option Ann := fun _ _ => none
set_option maxRecDepth 200000 in
theorem vc_spec_FixupValue (k : Int) (p : Int) (t : Int) (a : Int) : (keeps Try.prog G_spec_FixupValue (an_spec_FixupValue (k, p, t, a, ())) (Try.f75.body.getD .skip) Try.f75.results.toList C_spec_FixupValue (k, p, t, a, ())) = (((((decide ((fixWide k) = (0 : Int))) = true) →
 (((0 : Int) = (@Option.getD Int (fixVal k p t a) (0 : Int))) ∧
 ((false = (@Option.isSome Int (fixVal k p t a))) ∧
 True))) ∧
 (((decide ((fixWide k) = (0 : Int))) = false) →
 ((((Bool.not (decide (((0 : Int) ≤ p) ∧
 (p ≤ (100000 : Int))))) = true) →
 (((0 : Int) = (@Option.getD Int (fixVal k p t a) (0 : Int))) ∧
 ((false = (@Option.isSome Int (fixVal k p t a))) ∧
 True))) ∧
 (((Bool.not (decide (((0 : Int) ≤ p) ∧
 (p ≤ (100000 : Int))))) = false) →
 ((((Bool.not (decide (((0 : Int) ≤ t) ∧
 (t ≤ (100000 : Int))))) = true) →
 (((0 : Int) = (@Option.getD Int (fixVal k p t a) (0 : Int))) ∧
 ((false = (@Option.isSome Int (fixVal k p t a))) ∧
 True))) ∧
 (((Bool.not (decide (((0 : Int) ≤ t) ∧
 (t ≤ (100000 : Int))))) = false) →
 ((((Bool.not (decide (((- (1000 : Int)) ≤ a) ∧
 (a ≤ (1000 : Int))))) = true) →
 (((0 : Int) = (@Option.getD Int (fixVal k p t a) (0 : Int))) ∧
 ((false = (@Option.isSome Int (fixVal k p t a))) ∧
 True))) ∧
 (((Bool.not (decide (((- (1000 : Int)) ≤ a) ∧
 (a ≤ (1000 : Int))))) = false) →
 ((((- (9223372036854775808 : Int)) ≤ (t + a)) ∧
 ((t + a) ≤ (9223372036854775807 : Int))) ∧
 ((((decide (k = (1 : Int))) = true) →
 ((((- (9223372036854775808 : Int)) ≤ ((t + a) - p)) ∧
 (((t + a) - p) ≤ (9223372036854775807 : Int))) ∧
 ((((- (9223372036854775808 : Int)) ≤ (((t + a) - p) - (1 : Int))) ∧
 ((((t + a) - p) - (1 : Int)) ≤ (9223372036854775807 : Int))) ∧
 ((((Bool.not (decide (((- (128 : Int)) ≤ (((t + a) - p) - (1 : Int))) ∧
 ((((t + a) - p) - (1 : Int)) ≤ (127 : Int))))) = true) →
 (((0 : Int) = (@Option.getD Int (fixVal k p t a) (0 : Int))) ∧
 ((false = (@Option.isSome Int (fixVal k p t a))) ∧
 True))) ∧
 (((Bool.not (decide (((- (128 : Int)) ≤ (((t + a) - p) - (1 : Int))) ∧
 ((((t + a) - p) - (1 : Int)) ≤ (127 : Int))))) = false) →
 ((((- (9223372036854775808 : Int)) ≤ ((((t + a) - p) - (1 : Int)) + (256 : Int))) ∧
 (((((t + a) - p) - (1 : Int)) + (256 : Int)) ≤ (9223372036854775807 : Int))) ∧
 ((((0 : Int) ≤ ((((t + a) - p) - (1 : Int)) + (256 : Int))) ∧
 ((0 : Int) < (256 : Int))) ∧
 (((((((t + a) - p) - (1 : Int)) + (256 : Int)) % (256 : Int)) = (@Option.getD Int (fixVal k p t a) (0 : Int))) ∧
 ((true = (@Option.isSome Int (fixVal k p t a))) ∧
 True))))))))) ∧
 (((decide (k = (1 : Int))) = false) →
 ((((decide ((t + a) < (0 : Int))) = true) →
 (((0 : Int) = (@Option.getD Int (fixVal k p t a) (0 : Int))) ∧
 ((false = (@Option.isSome Int (fixVal k p t a))) ∧
 True))) ∧
 (((decide ((t + a) < (0 : Int))) = false) →
 ((((decide (k = (2 : Int))) = true) →
 ((((decide ((65535 : Int) < (t + a))) = true) →
 (((0 : Int) = (@Option.getD Int (fixVal k p t a) (0 : Int))) ∧
 ((false = (@Option.isSome Int (fixVal k p t a))) ∧
 True))) ∧
 (((decide ((65535 : Int) < (t + a))) = false) →
 (((t + a) = (@Option.getD Int (fixVal k p t a) (0 : Int))) ∧
 ((true = (@Option.isSome Int (fixVal k p t a))) ∧
 True))))) ∧
 (((decide (k = (2 : Int))) = false) →
 (((t + a) = (@Option.getD Int (fixVal k p t a) (0 : Int))) ∧
 ((true = (@Option.isSome Int (fixVal k p t a))) ∧
 True)))))))))))))))))) := by kernel_rfl
theorem det_spec_FixupValue : C_spec_FixupValue.det = true → ∀ x, (C_spec_FixupValue.out x).Det := fun _ x => by simp only [C_spec_FixupValue]; repeat (first | exact Det.ret _ | exact Det.vc' | apply Det.req | apply Det.giv | apply Det.fork | apply Det.bif' | intro _)
set_option maxRecDepth 200000 in
set_option maxHeartbeats 1000000 in
theorem ok_spec_FixupValue : ConOK Try.prog 75 C_spec_FixupValue := by
  refine con_mk (wr := false) (ty := tyL [(3, .i), (5, .u), (4, .bool), (9, .str), (126, .int .u64), (45, .st .fixup), (24, .st .img), (91, .st .patch), (65, .st .hash), (63, .list .i), (61, .list .str), (22, .list .u), (41, .st .fixup), (33, .st .img), (72, .st .hash)]) (l := [(73, C_spec_FixupWide), (74, C_spec_l1In)]) ⟨⟨ok_spec_FixupWide, det_spec_FixupWide⟩, ⟨⟨ok_spec_l1In, det_spec_l1In⟩, trivial⟩⟩ Try.checked.mixed (fn := Try.f75) (body := Try.f75.body.getD .skip) Try.func75 rfl (by decide) (by kernel_rfl) rfl an_spec_FixupValue fun x ho hx => ?_
  obtain ⟨k, p, t, a, ⟨⟩⟩ := x
  refine Keeps.of (vc_spec_FixupValue k p t a) ?_
  revert k p t a ho hx
  show ∀ (k : Int) (p : Int) (t : Int) (a : Int), _
  intro k p t a ho hx
  dsimp only [C_spec_FixupValue, okPTL, okPT, Ok, Ty.cells, SN.cells, OkL, OkC, okI, ci, cb, cs, cl] at ho
  dsimp only [C_spec_FixupValue, vc, v1, decB, SR.pre] at hx
  simp only [decide_eq_true_eq, decide_eq_false_iff_not, Bool.not_eq_true', Bool.not_eq_false', and_true, true_and, Int.toNat_natCast, exists_eq_left', exists_eq_left, exists_and_left, Int.not_lt, Int.not_le, Bool.false_eq_true, false_implies, implies_true, forall_const, List.length_append, List.length_cons, List.length_nil, Int.sub_add_cancel, Int.add_sub_cancel]
  (repeat' first | intro _ | apply And.intro)
  all_goals (try omega)
  all_goals grind [fixVal, fixWide]
end Go.Proofs.Ytdghhckdjbpfbaa
