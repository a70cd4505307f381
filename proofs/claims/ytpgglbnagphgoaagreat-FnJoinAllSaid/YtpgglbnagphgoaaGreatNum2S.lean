/- Numbers in bytes, values of fixups: both packages keep the same contracts. -/
import Derived.Test.YtpgglbnagphgoaaGreatNum1S
set_option linter.unusedVariables false
set_option linter.unusedSimpArgs false
set_option maxRecDepth 200000
set_option maxHeartbeats 4000000
namespace Go.Proofs.YtpgglbnagphgoaaGreat
open Go Go.RowKit


def digs : Nat → Int → List Int
 | 0, _ => []
 | k + 1, n => n % 256 :: digs k (n / 256)
def putOk (n w : Int) : Bool := decide (1 ≤ w ∧ w ≤ 4 ∧ 0 ≤ n ∧ n < 256 ^ w.toNat)
def putN (n w : Int) : List Int := if putOk n w then digs w.toNat n else []
def fixVal (k p t a : Int) : Option Int :=
 if 0 ≤ p ∧ p ≤ 100000 ∧ 0 ≤ t ∧ t ≤ 100000 ∧ -1000 ≤ a ∧ a ≤ 1000 then
  if k = 1 then (if -128 ≤ t + a - p - 1 ∧ t + a - p - 1 ≤ 127 then some ((t + a - p - 1) % 256) else none)
  else if k = 2 then (if 0 ≤ t + a ∧ t + a ≤ 65535 then some (t + a) else none)
  else if k = 3 then (if 0 ≤ t + a then some (t + a) else none)
  else none
 else none
def optI (o : Option Int) : SR := .ret { val := .tup [(false, [.c (ci (o.getD 0))]), (false, [.c (cb o.isSome)])] }

theorem digs_step {w k m : Int} (h : k < w) : digs (w - k).toNat m = m % 256 :: digs (w - (k + 1)).toNat (m / 256) := by
 rw [show (w - k).toNat = (w - (k + 1)).toNat + 1 by omega]; rfl
theorem digs_done {w k m : Int} (h : w ≤ k) : digs (w - k).toNat m = [] := by
 rw [show (w - k).toNat = 0 by omega]; rfl
theorem ok_u8 {x : Int} (h : Ok (.int .u8) x) : 0 ≤ x ∧ x ≤ 255 := h
theorem w14 {w : Int} (h : 1 ≤ w) (h' : w ≤ 4) : w = 1 ∨ w = 2 ∨ w = 3 ∨ w = 4 := by omega
theorem pow8 {w : Int} (h : 1 ≤ w) (h' : w ≤ 4) : (2 : Int) ^ (8 * w).toNat = 256 ^ w.toNat := by
 rcases w14 h h' with rfl | rfl | rfl | rfl <;> rfl
theorem pow_le4 {w : Int} (h : 1 ≤ w) (h' : w ≤ 4) : (256 : Int) ^ w.toNat ≤ 4294967296 ∧ 256 ≤ (256 : Int) ^ w.toNat := by
 rcases w14 h h' with rfl | rfl | rfl | rfl <;> decide

def C_impl_PutNumber : Con := { ps := [.ro .i, .ro .i], out := fun x => let n : Int := x.1; let w : Int := x.2.1; .ret { val := .one (.sl 100 []), ins := [(100, .row none .u (putN n w) true)] }, det := true }
abbrev L_impl_PutNumber : List (Nat × Con) := [(78, C_impl_within)]
def G_impl_PutNumber : Cfg := GK L_impl_PutNumber
def an_impl_PutNumber : PTL C_impl_PutNumber.ps → Nat → Option Ann := fun x kk_ => let n : Int := x.1; let w : Int := x.2.1; if kk_ = 5 then some (.all (Int) fun k => .all (Int) fun m => .all (List Int) fun o => .giv (0 ≤ k ∧ k ≤ w ∧ 0 ≤ m ∧ o ++ digs (w - k).toNat m = digs w.toNat n ∧ o.length = k.toNat) (.mk [(0, ai m), (5, asl 20), (20, ai w), (21, ai k)] [(20, .row (some 5) .u o true)] ((w - k).toNat))) else none
theorem vc_impl_PutNumber (n : Int) (w : Int) : (KP Tryz.f85 G_impl_PutNumber C_impl_PutNumber an_impl_PutNumber (n, w, ())) = ((Bool.not (decide (1 ≤ w ∧ w ≤ 4)) = true →
 ([] : List Int) = putN n w ∧ True) ∧ (Bool.not (decide (1 ≤ w ∧ w ≤ 4)) = false →
 i64 (8 * w) ∧ 0 ≤ 8 * w ∧ (0 ≤ 8 * w ∧ 8 * w < @Nat.cast Int _ (64 : Nat) ∧ i64 (1 * @HPow.hPow Int Nat Int _ (2 : Int) (8 * w).toNat)) ∧ i64 (1 * @HPow.hPow Int Nat Int _ (2 : Ty.den (Ty.int IntKind.i64)) (8 * w).toNat - 1) ∧ (Bool.not (decide (0 ≤ n ∧ n ≤ 1 * @HPow.hPow Int Nat Int _ (2 : Ty.den (Ty.int IntKind.i64)) (8 * w).toNat - 1)) = true →
 ([] : List Int) = putN n w ∧ True) ∧ (Bool.not (decide (0 ≤ n ∧ n ≤ 1 * @HPow.hPow Int Nat Int _ (2 : Ty.den (Ty.int IntKind.i64)) (8 * w).toNat - 1)) = false →
 (∃ (a : Int), (∃ (b : Int), (∃ (c : List Int), n = b ∧ w = w ∧ 0 = a ∧ ([] : List Int) = c ∧ (0 ≤ a ∧ a ≤ w ∧ 0 ≤ b ∧ c ++ digs (w - a).toNat b = digs w.toNat n ∧ c.length = a.toNat) ∧ True))) ∧ (∀ (d : Int), (∀ (e : Int), (∀ (f : List Int), 0 ≤ d ∧ d ≤ w ∧ 0 ≤ e ∧ f ++ digs (w - d).toNat e = digs w.toNat n ∧ f.length = d.toNat →
 (decide (d < w) = true →
 ((f.length + [e % (256 : Ty.den Ty.u)].length) * 1 ≤ 140737488355328 ∧ f.length + [e % (256 : Ty.den Ty.u)].length ≤ 1000000000000) ∧ (0 ≤ e ∧ (0 : Int) ≤ (8 : Int) ∧ 8 < @Nat.cast Int _ (64 : Nat)) ∧ i64 (d + 1) ∧ (∃ (g : Int), (∃ (h : Int), (∃ (i : List Int), e / @HPow.hPow Int Nat Int _ (2 : Ty.den (Ty.int IntKind.i64)) (8 : Nat) = h ∧ w = w ∧ d + 1 = g ∧ f ++ [e % (256 : Ty.den Ty.u)] = i ∧ (0 ≤ g ∧ g ≤ w ∧ 0 ≤ h ∧ i ++ digs (w - g).toNat h = digs w.toNat n ∧ i.length = g.toNat) ∧ (w - g).toNat < (w - d).toNat)))) ∧ (decide (d < w) = false →
 f = putN n w ∧ True))))))) := by kernel_rfl
theorem det_impl_PutNumber : C_impl_PutNumber.det = true → ∀ x, (C_impl_PutNumber.out x).Det := fun _ x => by simp only [C_impl_PutNumber]; repeat (first | exact Det.ret _ | exact Det.vc' | apply Det.req)
theorem ok_impl_PutNumber : ConOK Tryz.prog 85 C_impl_PutNumber := by
 refine con_q (l := L_impl_PutNumber) ⟨⟨ok_impl_within, det_impl_within⟩, trivial⟩ Tryz.func85 rfl (by decide) (by kernel_rfl) rfl an_impl_PutNumber fun x ho hx => ?_
 obtain ⟨n, w, ⟨⟩⟩ := x
 refine Keeps.of (vc_impl_PutNumber n w) ?_
 revert n w ho hx
 show ∀ (n : Int) (w : Int), _
 intro n w ho hx
 dsimp only [C_impl_PutNumber, okPTL, okPT, Ok, Ty.cells, SN.cells, OkL, OkC, okI, ci, cb, cs, cl] at ho
 dsimp only [C_impl_PutNumber, vc, v1, decB, SR.pre] at hx
 (try delta i64 LN); simp only [decide_eq_true_eq, decide_eq_false_iff_not, Bool.not_eq_true', Bool.not_eq_false', and_true, true_and, Int.toNat_natCast, exists_eq_left', exists_eq_left, exists_and_left, Int.not_lt, Int.not_le, Bool.false_eq_true, false_implies, implies_true, forall_const, List.length_append, List.length_cons, List.length_nil, Int.sub_add_cancel, Int.add_sub_cancel]
 refine ⟨fun h => ?_, fun h => ?_⟩
 ·simp [putN, putOk]; omega
 have hp := pow8 h.1 h.2
 have h4 := pow_le4 h.1 h.2
 rw [hp]
 (repeat' first | intro _ | apply And.intro)
 all_goals (try omega)
 all_goals grind [putN, putOk, digs_step, digs_done]
theorem and255 {x : Int} (h : -128 ≤ x) (h' : x ≤ 127) : bitI .and .i64 x 255 = x % 256 := by
 have key : ∀ i : Fin 256, bitI .and .i64 ((i.val : Int) - 128) 255 = ((i.val : Int) - 128) % 256 := by decide +kernel
 have := key ⟨(x + 128).toNat, by omega⟩
 rwa [show (((⟨(x + 128).toNat, by omega⟩ : Fin 256).val : Int)) - 128 = x by show ((x + 128).toNat : Int) - 128 = x; omega] at this
def C_impl_FixupValue : Con := { ps := [.ro .i, .ro .i, .ro .i, .ro .i], out := fun x => let k : Int := x.1; let p : Int := x.2.1; let t : Int := x.2.2.1; let a : Int := x.2.2.2.1; optI (fixVal k p t a), det := true }
abbrev L_impl_FixupValue : List (Nat × Con) := [(78, C_impl_within), (89, C_impl_isAdd)]
def G_impl_FixupValue : Cfg := GK L_impl_FixupValue
def an_impl_FixupValue : PTL C_impl_FixupValue.ps → Nat → Option Ann := fun _ _ => none
theorem vc_impl_FixupValue (k : Int) (p : Int) (t : Int) (a : Int) : (KP Tryz.f84 G_impl_FixupValue C_impl_FixupValue an_impl_FixupValue (k, p, t, a, ())) = ((Bool.not (decide (0 ≤ p ∧ p ≤ 100000)) = true →
 0 = @Option.getD Int (fixVal k p t a) (0 : Int) ∧ false = @Option.isSome Int (fixVal k p t a) ∧ True) ∧ (Bool.not (decide (0 ≤ p ∧ p ≤ 100000)) = false →
 (Bool.not (decide (0 ≤ t ∧ t ≤ 100000)) = true →
 0 = @Option.getD Int (fixVal k p t a) (0 : Int) ∧ false = @Option.isSome Int (fixVal k p t a) ∧ True) ∧ (Bool.not (decide (0 ≤ t ∧ t ≤ 100000)) = false →
 (Bool.not (decide ((- (1000 : Int)) ≤ a ∧ a ≤ 1000)) = true →
 0 = @Option.getD Int (fixVal k p t a) (0 : Int) ∧ false = @Option.isSome Int (fixVal k p t a) ∧ True) ∧ (Bool.not (decide ((- (1000 : Int)) ≤ a ∧ a ≤ 1000)) = false →
 i64 (t + a) ∧ (decide (k = 2) = true →
 (decide (0 ≤ t + a ∧ t + a ≤ 65535) = true →
 t + a = @Option.getD Int (fixVal k p t a) (0 : Int) ∧ true = @Option.isSome Int (fixVal k p t a) ∧ True) ∧ (decide (0 ≤ t + a ∧ t + a ≤ 65535) = false →
 0 = @Option.getD Int (fixVal k p t a) (0 : Int) ∧ false = @Option.isSome Int (fixVal k p t a) ∧ True)) ∧ (decide (k = 2) = false →
 (decide (k = 3) = true →
 (decide (0 ≤ t + a) = true →
 t + a = @Option.getD Int (fixVal k p t a) (0 : Int) ∧ true = @Option.isSome Int (fixVal k p t a) ∧ True) ∧ (decide (0 ≤ t + a) = false →
 0 = @Option.getD Int (fixVal k p t a) (0 : Int) ∧ false = @Option.isSome Int (fixVal k p t a) ∧ True)) ∧ (decide (k = 3) = false →
 (decide (k = 1) = true →
 i64 (p + 1) ∧ i64 (t + a - (p + 1)) ∧ (decide ((- (128 : Int)) ≤ t + a - (p + 1) ∧ t + a - (p + 1) ≤ 127) = true →
 i64 (bitI Go.BinOp.and IntKind.i64 (t + a - (p + 1)) 255) →
 bitI Go.BinOp.and IntKind.i64 (t + a - (p + 1)) 255 = @Option.getD Int (fixVal k p t a) (0 : Int) ∧ true = @Option.isSome Int (fixVal k p t a) ∧ True) ∧ (decide ((- (128 : Int)) ≤ t + a - (p + 1) ∧ t + a - (p + 1) ≤ 127) = false →
 0 = @Option.getD Int (fixVal k p t a) (0 : Int) ∧ false = @Option.isSome Int (fixVal k p t a) ∧ True)) ∧ (decide (k = 1) = false →
 0 = @Option.getD Int (fixVal k p t a) (0 : Int) ∧ false = @Option.isSome Int (fixVal k p t a) ∧ True))))))) := by kernel_rfl
theorem det_impl_FixupValue : C_impl_FixupValue.det = true → ∀ x, (C_impl_FixupValue.out x).Det := fun _ x => by simp only [C_impl_FixupValue]; repeat (first | exact Det.ret _ | exact Det.vc' | apply Det.req)
theorem ok_impl_FixupValue : ConOK Tryz.prog 84 C_impl_FixupValue := by
 refine con_q (l := L_impl_FixupValue) ⟨⟨ok_impl_within, det_impl_within⟩, ⟨⟨ok_impl_isAdd, det_impl_isAdd⟩, trivial⟩⟩ Tryz.func84 rfl (by decide) (by kernel_rfl) rfl an_impl_FixupValue fun x ho hx => ?_
 obtain ⟨k, p, t, a, ⟨⟩⟩ := x
 refine Keeps.of (vc_impl_FixupValue k p t a) ?_
 revert k p t a ho hx
 show ∀ (k : Int) (p : Int) (t : Int) (a : Int), _
 intro k p t a ho hx
 dsimp only [C_impl_FixupValue, okPTL, okPT, Ok, Ty.cells, SN.cells, OkL, OkC, okI, ci, cb, cs, cl] at ho
 dsimp only [C_impl_FixupValue, vc, v1, decB, SR.pre] at hx
 (try delta i64 LN); simp only [decide_eq_true_eq, decide_eq_false_iff_not, Bool.not_eq_true', Bool.not_eq_false', and_true, true_and, Int.toNat_natCast, exists_eq_left', exists_eq_left, exists_and_left, Int.not_lt, Int.not_le, Bool.false_eq_true, false_implies, implies_true, forall_const, List.length_append, List.length_cons, List.length_nil, Int.sub_add_cancel, Int.add_sub_cancel]
 (repeat' first | intro _ | apply And.intro)
 all_goals (try omega)
 all_goals grind [fixVal, and255]
end Go.Proofs.YtpgglbnagphgoaaGreat
