/- The readers that the laws draw their data with. -/
import Derived.Test.YtpgglbnagphgoaaGreatNum2S
set_option linter.unusedVariables false
set_option linter.unusedSimpArgs false
set_option maxRecDepth 200000
set_option maxHeartbeats 4000000
namespace Go.Proofs.YtpgglbnagphgoaaGreat
open Go Go.RowKit


def pickF (b : List Int) (p n : Int) : Int :=
 if n < 1 ∨ b = [] then 0
 else if p < b.length then b.getD p.toNat 0 % n
 else
  let x := b.getD (p % b.length).toNat 0 * 131 + b.getD ((p * 7 + 3) % b.length).toNat 0 * 1117 + p * 29 + p / b.length * 53
  bitI .xor .i64 x (x / 64) % n
theorem pickF_bd (b : List Int) (p n : Int) : 0 ≤ pickF b p n ∧ (0 < n → pickF b p n < n) ∧ (n ≤ 0 → pickF b p n = 0) := by
 unfold pickF
 split
 ·omega
 ·split
  ·exact ⟨Int.emod_nonneg _ (by omega), fun h => Int.emod_lt_of_pos _ h, by omega⟩
  ·exact ⟨Int.emod_nonneg _ (by omega), fun h => Int.emod_lt_of_pos _ h, by omega⟩
theorem xor_bd {x y : Int} (hx : 0 ≤ x) (hx' : x < 9223372036854775808) (hy : 0 ≤ y) (hy' : y < 9223372036854775808) : 0 ≤ bitI .xor .i64 x y ∧ bitI .xor .i64 x y < 9223372036854775808 := by
 have h : (BitVec.ofInt 64 x ^^^ BitVec.ofInt 64 y).toNat < 2 ^ 63 := by
  rw [BitVec.toNat_xor]
  refine Nat.xor_lt_two_pow ?_ ?_
  ·rw [BitVec.toNat_ofInt]; omega
  ·rw [BitVec.toNat_ofInt]; omega
 have e : bitI .xor .i64 x y = IntKind.wrap .i64 ((BitVec.ofInt 64 x ^^^ BitVec.ofInt 64 y).toNat : Int) := rfl
 rw [e]
 generalize (BitVec.ofInt 64 x ^^^ BitVec.ofInt 64 y).toNat = m at h
 have h2 : (m : Int) < 9223372036854775808 := by
  have : (2 : Nat) ^ 63 = 9223372036854775808 := by decide
  omega
 have : IntKind.wrap .i64 (m : Int) = m := by
  simp [IntKind.wrap, IntKind.signed, IntKind.bits]
  omega
 rw [this]
 omega
theorem getD_some {l : List Int} {k : Nat} {x : Int} (h : l[k]? = some x) : l.getD k 0 = x := by simp [List.getD, h]

def C_spec_l20Open : Con := { ps := [.ro (.list .u)], out := fun x => let c : List (Int) := x.1; .ret { val := aref 100, ins := [(100, .box false [.c (cl .u (c.take 2000)), .c (ci 0)])] }, det := true }
abbrev L_spec_l20Open : List (Nat × Con) := []
def G_spec_l20Open : Cfg := GK L_spec_l20Open
def an_spec_l20Open : PTL C_spec_l20Open.ps → Nat → Option Ann := fun _ _ => none
theorem vc_spec_l20Open (c : List (Int)) : (KP Tryz.f26 G_spec_l20Open C_spec_l20Open an_spec_l20Open (c, ())) = (c.length ≤ 9223372036854775807 →
 (decide (2000 < LN c) = true →
 ((0 : Int) ≤ (2000 : Int) ∧ 2000 ≤ LN c) ∧ (c.drop 0).take 2000 = c.take 2000 ∧ (0 : Int) = (0 : Int) ∧ True) ∧ (decide (2000 < LN c) = false →
 c = c.take 2000 ∧ (0 : Int) = (0 : Int) ∧ True)) := by kernel_rfl
theorem det_spec_l20Open : C_spec_l20Open.det = true → ∀ x, (C_spec_l20Open.out x).Det := fun _ x => by simp only [C_spec_l20Open]; repeat (first | exact Det.ret _ | exact Det.vc' | apply Det.req)
theorem ok_spec_l20Open : ConOK Tryz.prog 26 C_spec_l20Open := by
 refine con_q (l := L_spec_l20Open) trivial Tryz.func26 rfl (by decide) (by kernel_rfl) rfl an_spec_l20Open fun x ho hx => ?_
 obtain ⟨c, ⟨⟩⟩ := x
 refine Keeps.of (vc_spec_l20Open c) ?_
 revert c ho hx
 show ∀ (c : List (Int)), _
 intro c ho hx
 dsimp only [C_spec_l20Open, okPTL, okPT, Ok, Ty.cells, SN.cells, OkL, OkC, okI, ci, cb, cs, cl] at ho
 dsimp only [C_spec_l20Open, vc, v1, decB, SR.pre] at hx
 (try delta i64 LN); simp only [decide_eq_true_eq, decide_eq_false_iff_not, Bool.not_eq_true', Bool.not_eq_false', and_true, true_and, and_assoc, Int.toNat_natCast, exists_eq_left', exists_eq_left, exists_and_left, Int.not_lt, Int.not_le, Bool.false_eq_true, false_implies, implies_true, forall_const, List.length_append, List.length_cons, List.length_nil, Int.sub_add_cancel, Int.add_sub_cancel]
 refine fun _ => ⟨fun h => ⟨by omega, by omega, by simp⟩, fun h => by rw [List.take_of_length_le (by omega)]⟩
def C_spec_l20Rd_pick : Con := { ps := [.box (.ty (.st .reader)), .ro .i], out := fun x => let r : Reader := x.1; let n : Int := x.2.1; .req (0 ≤ r.p ∧ r.p ≤ 1000000000000) (.ret { val := ai (pickF r.b r.p n), wr := [(0, 1, .c (ci (r.p + 1)))] }), det := true }
abbrev L_spec_l20Rd_pick : List (Nat × Con) := []
def G_spec_l20Rd_pick : Cfg := GK L_spec_l20Rd_pick
def an_spec_l20Rd_pick : PTL C_spec_l20Rd_pick.ps → Nat → Option Ann := fun _ _ => none
theorem vc_spec_l20Rd_pick (r : Reader) (n : Int) : (KP Tryz.f61 G_spec_l20Rd_pick C_spec_l20Rd_pick an_spec_l20Rd_pick (r, n, ())) = (i64 (r.p + 1) ∧ (decide (n < 1) = true →
 0 = pickF r.b r.p n ∧ r.b = r.b ∧ r.p + 1 = r.p + 1 ∧ True) ∧ (decide (n < 1) = false →
 r.b.length ≤ 9223372036854775807 →
 (decide (LN r.b = 0) = true →
 0 = pickF r.b r.p n ∧ r.b = r.b ∧ r.p + 1 = r.p + 1 ∧ True) ∧ (decide (LN r.b = 0) = false →
 i64 (r.p + 1 - 1) ∧ (r.b.length ≤ 9223372036854775807 →
 (decide (r.p + 1 - 1 < LN r.b) = true →
 (0 ≤ r.p + 1 - 1 ∧ r.p + 1 - 1 < LN r.b) ∧ (∀ (a : Int), r.b[(r.p + 1 - 1).toNat]? = some a →
 Ok (Ty.int IntKind.u8) a →
 (0 ≤ a ∧ 0 < n) ∧ a % n = pickF r.b r.p n ∧ r.b = r.b ∧ r.p + 1 = r.p + 1 ∧ True)) ∧ (decide (r.p + 1 - 1 < LN r.b) = false →
 r.b.length ≤ 9223372036854775807 →
 (0 ≤ r.p + 1 - 1 ∧ 0 < LN r.b) ∧ (0 ≤ (r.p + 1 - 1) % LN r.b ∧ (r.p + 1 - 1) % LN r.b < LN r.b) ∧ (∀ (c : Int), r.b[((r.p + 1 - 1) % LN r.b).toNat]? = some c →
 Ok (Ty.int IntKind.u8) c →
 i64 (c * 131) ∧ i64 ((r.p + 1 - 1) * 7) ∧ i64 ((r.p + 1 - 1) * 7 + 3) ∧ (r.b.length ≤ 9223372036854775807 →
 (0 ≤ (r.p + 1 - 1) * 7 + 3 ∧ 0 < LN r.b) ∧ (0 ≤ ((r.p + 1 - 1) * 7 + 3) % LN r.b ∧ ((r.p + 1 - 1) * 7 + 3) % LN r.b < LN r.b) ∧ (∀ (d : Int), r.b[(((r.p + 1 - 1) * 7 + 3) % LN r.b).toNat]? = some d →
 Ok (Ty.int IntKind.u8) d →
 i64 (d * 1117) ∧ i64 (c * 131 + d * 1117) ∧ i64 ((r.p + 1 - 1) * 29) ∧ i64 (c * 131 + d * 1117 + (r.p + 1 - 1) * 29) ∧ (r.b.length ≤ 9223372036854775807 →
 (0 ≤ r.p + 1 - 1 ∧ 0 < LN r.b) ∧ i64 ((r.p + 1 - 1) / LN r.b * 53) ∧ i64 (c * 131 + d * 1117 + (r.p + 1 - 1) * 29 + (r.p + 1 - 1) / LN r.b * 53) ∧ (0 ≤ c * 131 + d * 1117 + (r.p + 1 - 1) * 29 + (r.p + 1 - 1) / LN r.b * 53 ∧ (0 : Int) < (64 : Int)) ∧ (i64 (bitI Go.BinOp.xor IntKind.i64 (c * 131 + d * 1117 + (r.p + 1 - 1) * 29 + (r.p + 1 - 1) / LN r.b * 53) ((c * 131 + d * 1117 + (r.p + 1 - 1) * 29 + (r.p + 1 - 1) / LN r.b * 53) / 64)) →
 (0 ≤ bitI Go.BinOp.xor IntKind.i64 (c * 131 + d * 1117 + (r.p + 1 - 1) * 29 + (r.p + 1 - 1) / LN r.b * 53) ((c * 131 + d * 1117 + (r.p + 1 - 1) * 29 + (r.p + 1 - 1) / LN r.b * 53) / 64) ∧ 0 < n) ∧ bitI Go.BinOp.xor IntKind.i64 (c * 131 + d * 1117 + (r.p + 1 - 1) * 29 + (r.p + 1 - 1) / LN r.b * 53) ((c * 131 + d * 1117 + (r.p + 1 - 1) * 29 + (r.p + 1 - 1) / LN r.b * 53) / 64) % n = pickF r.b r.p n ∧ r.b = r.b ∧ r.p + 1 = r.p + 1 ∧ True)))))))))) := by kernel_rfl
theorem det_spec_l20Rd_pick : C_spec_l20Rd_pick.det = true → ∀ x, (C_spec_l20Rd_pick.out x).Det := fun _ x => by simp only [C_spec_l20Rd_pick]; repeat (first | exact Det.ret _ | exact Det.vc' | apply Det.req)
theorem ok_spec_l20Rd_pick : ConOK Tryz.prog 61 C_spec_l20Rd_pick := by
 refine con_q (l := L_spec_l20Rd_pick) trivial Tryz.func61 rfl (by decide) (by kernel_rfl) rfl an_spec_l20Rd_pick fun x ho hx => ?_
 obtain ⟨r, n, ⟨⟩⟩ := x
 refine Keeps.of (vc_spec_l20Rd_pick r n) ?_
 revert r n ho hx
 show ∀ (r : Reader) (n : Int), _
 intro r n ho hx
 dsimp only [C_spec_l20Rd_pick, okPTL, okPT, Ok, Ty.cells, SN.cells, OkL, OkC, okI, ci, cb, cs, cl] at ho
 dsimp only [C_spec_l20Rd_pick, vc, v1, decB, SR.pre] at hx
 (try delta i64 LN); simp only [decide_eq_true_eq, decide_eq_false_iff_not, Bool.not_eq_true', Bool.not_eq_false', and_true, true_and, and_assoc, Int.toNat_natCast, exists_eq_left', exists_eq_left, exists_and_left, Int.not_lt, Int.not_le, Bool.false_eq_true, false_implies, implies_true, forall_const, List.length_append, List.length_cons, List.length_nil, Int.sub_add_cancel, Int.add_sub_cancel]
 obtain ⟨⟨h0, h1⟩, _⟩ := hx
 obtain ⟨b, p⟩ := r
 dsimp only at h0 h1 ⊢
 refine ⟨by omega, by omega, fun h => by simp [pickF, h], fun hn hl => ⟨fun h => ?_, fun h => ⟨by omega, by omega, fun _ => ⟨fun hp => ⟨by omega, hp, fun x hx ok => ?_⟩, fun hp _ => ?_⟩⟩⟩⟩
 ·have : b = [] := List.eq_nil_of_length_eq_zero (by omega)
  simp [pickF, this]
 ·have := ok_u8 ok
  refine ⟨by omega, by omega, ?_⟩
  have hb : b ≠ [] := fun e => h (by simp [e])
  have h1 : ¬ (n < 1 ∨ b = []) := by simp [hb]; omega
  rw [pickF, if_neg h1, if_pos hp, getD_some hx]
 ·have hb : b ≠ [] := fun e => h (by simp [e])
  have hl0 : (0 : Int) < b.length := by omega
  have m1 := Int.emod_nonneg p (show (b.length : Int) ≠ 0 by omega)
  have m2 := Int.emod_lt_of_pos p hl0
  have m3 := Int.emod_nonneg (p * 7 + 3) (show (b.length : Int) ≠ 0 by omega)
  have m4 := Int.emod_lt_of_pos (p * 7 + 3) hl0
  have d1 : 0 ≤ p / b.length := Int.ediv_nonneg h0 (by omega)
  have d2 : p / b.length ≤ p := Int.ediv_le_self _ h0
  refine ⟨h0, hl0, m1, m2, fun x hx okx => ?_⟩
  have := ok_u8 okx
  refine ⟨by omega, by omega, by omega, by omega, by omega, by omega, fun _ => ⟨by omega, hl0, m3, m4, fun y hy oky => ?_⟩⟩
  have := ok_u8 oky
  refine ⟨by omega, by omega, by omega, by omega, by omega, by omega, by omega, by omega, fun _ => ⟨h0, hl0, by omega, by omega, by omega, by omega, ?_⟩⟩
  have h1 : ¬ (n < 1 ∨ b = []) := by simp [hb]; omega
  have e : pickF b p n = bitI .xor .i64 (x * 131 + y * 1117 + p * 29 + p / b.length * 53) ((x * 131 + y * 1117 + p * 29 + p / b.length * 53) / 64) % n := by
   rw [pickF, if_neg h1, if_neg (by omega), getD_some hx, getD_some hy]
  have hz : 0 ≤ x * 131 + y * 1117 + p * 29 + p / b.length * 53 ∧ x * 131 + y * 1117 + p * 29 + p / b.length * 53 < 9223372036854775808 := by omega
  generalize x * 131 + y * 1117 + p * 29 + p / b.length * 53 = z at e hz ⊢
  rw [e]
  have := xor_bd hz.1 hz.2 (show 0 ≤ z / 64 by omega) (by omega)
  omega
def C_spec_l20Rd_odd : Con := { ps := [.box (.ty (.st .reader)), .ro .i], out := fun x => let r : Reader := x.1; let n : Int := x.2.1; .req (0 ≤ r.p ∧ r.p ≤ 1000000000000 ∧ n ≤ 1000000) (.all Bool fun b => .all Int fun p => .giv (r.p ≤ p ∧ p ≤ r.p + 1 ∧ (n ≤ 0 → b = false)) (.ret { val := ab b, wr := [(0, 1, .c (ci p))] })), det := false }
abbrev L_spec_l20Rd_odd : List (Nat × Con) := [(61, C_spec_l20Rd_pick)]
def G_spec_l20Rd_odd : Cfg := GK L_spec_l20Rd_odd
def an_spec_l20Rd_odd : PTL C_spec_l20Rd_odd.ps → Nat → Option Ann := fun _ _ => none
theorem vc_spec_l20Rd_odd (r : Reader) (n : Int) : (KP Tryz.f63 G_spec_l20Rd_odd C_spec_l20Rd_odd an_spec_l20Rd_odd (r, n, ())) = ((decide (0 < n) = true →
 (0 ≤ r.p ∧ r.p ≤ 1000000000000) ∧ i64 (n - 1) ∧ (∃ (a : Bool), (∃ (c : Int), (decide (pickF r.b r.p n = n - 1) = a ∧ r.b = r.b ∧ r.p + 1 = c ∧ True) ∧ r.p ≤ c ∧ c ≤ r.p + 1 ∧ (n ≤ 0 →
 a = false)))) ∧ (decide (0 < n) = false →
 (∃ (d : Bool), (∃ (e : Int), (false = d ∧ r.b = r.b ∧ r.p = e ∧ True) ∧ r.p ≤ e ∧ e ≤ r.p + 1 ∧ (n ≤ 0 →
 d = false))))) := by kernel_rfl
theorem det_spec_l20Rd_odd : C_spec_l20Rd_odd.det = true → ∀ x, (C_spec_l20Rd_odd.out x).Det := fun h => absurd h Bool.false_ne_true
theorem ok_spec_l20Rd_odd : ConOK Tryz.prog 63 C_spec_l20Rd_odd := by
 refine con_q (l := L_spec_l20Rd_odd) ⟨⟨ok_spec_l20Rd_pick, det_spec_l20Rd_pick⟩, trivial⟩ Tryz.func63 rfl (by decide) (by kernel_rfl) rfl an_spec_l20Rd_odd fun x ho hx => ?_
 obtain ⟨r, n, ⟨⟩⟩ := x
 refine Keeps.of (vc_spec_l20Rd_odd r n) ?_
 revert r n ho hx
 show ∀ (r : Reader) (n : Int), _
 intro r n ho hx
 dsimp only [C_spec_l20Rd_odd, okPTL, okPT, Ok, Ty.cells, SN.cells, OkL, OkC, okI, ci, cb, cs, cl] at ho
 dsimp only [C_spec_l20Rd_odd, vc, v1, decB, SR.pre] at hx
 (try delta i64 LN); simp only [decide_eq_true_eq, decide_eq_false_iff_not, Bool.not_eq_true', Bool.not_eq_false', and_true, true_and, and_assoc, Int.toNat_natCast, exists_eq_left', exists_eq_left, exists_and_left, Int.not_lt, Int.not_le, Bool.false_eq_true, false_implies, implies_true, forall_const, List.length_append, List.length_cons, List.length_nil, Int.sub_add_cancel, Int.add_sub_cancel]
 have := pickF_bd r.b r.p n
 omega
def C_laws_alive : Con := { ps := [], out := fun x => vc .bool true, det := true }
abbrev L_laws_alive : List (Nat × Con) := [(39, C_impl_AlignUp)]
def G_laws_alive : Cfg := GK L_laws_alive
def an_laws_alive : PTL C_laws_alive.ps → Nat → Option Ann := fun _ _ => none
theorem vc_laws_alive  : (KP Tryz.f10 G_laws_alive C_laws_alive an_laws_alive (())) = (decide (alignUp 5 4 = 8) = true ∧ True) := by kernel_rfl
theorem det_laws_alive : C_laws_alive.det = true → ∀ x, (C_laws_alive.out x).Det := fun _ _ => Det.vc'
theorem ok_laws_alive : ConOK Tryz.prog 10 C_laws_alive := by
 refine con_q (l := L_laws_alive) ⟨⟨ok_impl_AlignUp, det_impl_AlignUp⟩, trivial⟩ Tryz.func10 rfl (by decide) (by kernel_rfl) rfl an_laws_alive fun x ho hx => ?_
 obtain _ := x
 refine Keeps.of (vc_laws_alive ) ?_
 dsimp only [C_laws_alive, okPTL, okPT, Ok, Ty.cells, SN.cells, OkL, OkC, okI, ci, cb, cs, cl] at ho
 dsimp only [C_laws_alive, vc, v1, decB, SR.pre] at hx
 (try delta i64 LN); simp only [decide_eq_true_eq, decide_eq_false_iff_not, Bool.not_eq_true', Bool.not_eq_false', and_true, true_and, and_assoc, Int.toNat_natCast, exists_eq_left', exists_eq_left, exists_and_left, Int.not_lt, Int.not_le, Bool.false_eq_true, false_implies, implies_true, forall_const, List.length_append, List.length_cons, List.length_nil, Int.sub_add_cancel, Int.add_sub_cancel]
 decide
end Go.Proofs.YtpgglbnagphgoaaGreat
