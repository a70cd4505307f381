/- The laws' families: copies, sizes, comparisons, marks. -/
import Derived.Test.YtpgglbnagphgoaaGreatFamDQ
set_option linter.unusedVariables false
set_option linter.unusedSimpArgs false
set_option maxRecDepth 200000
set_option maxHeartbeats 4000000
namespace Go.Proofs.YtpgglbnagphgoaaGreat
open Go Go.RowKit


def C_laws_markText : Con := { ps := [.ro .i], out := fun x => let k : Int := x.1; .req (0 ≤ k ∧ k ≤ 1000000000000) (vc .str (markT k)), det := true }
abbrev L_laws_markText : List (Nat × Con) := []
def G_laws_markText : Cfg := GK L_laws_markText
def an_laws_markText : PTL C_laws_markText.ps → Nat → Option Ann := fun x kk_ => let k : Int := x.1; if kk_ = 4 then some (.all (Nat) fun f => .all (Int) fun m => .all (ByteArray) fun o => .giv (0 ≤ m ∧ m < 10 ^ f ∧ digA f m o = digA 20 k (strOf []) ∧ o.size + f = 20) (.mk [(0, ai m), (3, ax o)] [] (f))) else none
theorem vc_laws_markText (k : Int) : (KP Tryz.f96 G_laws_markText C_laws_markText an_laws_markText (k, ())) = ((decide (k ≤ 0) = true →
 ByteArray.mk (@Array.mk UInt8 [(109 : UInt8), (48 : UInt8)]) = markT k ∧ True) ∧ (decide (k ≤ 0) = false →
 (∃ (a : Nat), (∃ (b : Int), (∃ (c : ByteArray), k = b ∧ ByteArray.mk (@Array.mk UInt8 ([] : List UInt8)) = c ∧ (0 ≤ b ∧ b < @HPow.hPow Int Nat Int _ (10 : Int) a ∧ digA a b c = digA 20 k (strOf ([] : List Int)) ∧ ByteArray.size c + a = 20) ∧ True))) ∧ (∀ (d : Nat), (∀ (e : Int), (∀ (f : ByteArray), 0 ≤ e ∧ e < @HPow.hPow Int Nat Int _ (10 : Int) d ∧ digA d e f = digA 20 k (strOf ([] : List Int)) ∧ ByteArray.size f + d = 20 →
 (decide (0 < e) = true →
 (0 ≤ e ∧ (0 : Int) < (10 : Int)) ∧ i64 (48 + e % 10) ∧ [(48 + e % 10) % (256 : Ty.den Ty.u)].length ≤ 1000000000000 ∧ ByteArray.size (strOf [(48 + e % 10) % (256 : Ty.den Ty.u)]) + ByteArray.size f ≤ 9223372036854775807 ∧ (0 ≤ e ∧ (0 : Int) < (10 : Int)) ∧ (∃ (g : Nat), (∃ (h : Int), (∃ (i : ByteArray), e / 10 = h ∧ strOf [(48 + e % 10) % (256 : Ty.den Ty.u)] ++ f = i ∧ (0 ≤ h ∧ h < @HPow.hPow Int Nat Int _ (10 : Int) g ∧ digA g h i = digA 20 k (strOf ([] : List Int)) ∧ ByteArray.size i + g = 20) ∧ g < d)))) ∧ (decide (0 < e) = false →
 1 + ByteArray.size f ≤ 9223372036854775807 ∧ ByteArray.mk (@Array.mk UInt8 [(109 : UInt8)]) ++ f = markT k ∧ True)))))) := by kernel_rfl
theorem det_laws_markText : C_laws_markText.det = true → ∀ x, (C_laws_markText.out x).Det := fun _ x => by simp only [C_laws_markText]; repeat (first | exact Det.ret _ | exact Det.vc' | apply Det.req)
theorem ok_laws_markText : ConOK Tryz.prog 96 C_laws_markText := by
 refine con_q (l := L_laws_markText) trivial Tryz.func96 rfl (by decide) (by kernel_rfl) rfl an_laws_markText fun x ho hx => ?_
 obtain ⟨k, ⟨⟩⟩ := x
 refine Keeps.of (vc_laws_markText k) ?_
 revert k ho hx
 show ∀ (k : Int), _
 intro k ho hx
 dsimp only [C_laws_markText, okPTL, okPT, Ok, Ty.cells, SN.cells, OkL, OkC, okI, ci, cb, cs, cl] at ho
 dsimp only [C_laws_markText, vc, v1, decB, SR.pre] at hx
 (try delta i64 LN); simp only [decide_eq_true_eq, decide_eq_false_iff_not, Bool.not_eq_true', Bool.not_eq_false', and_true, true_and, and_assoc, Int.toNat_natCast, exists_eq_left', exists_eq_left, exists_and_left, Int.not_lt, Int.not_le, Bool.false_eq_true, false_implies, implies_true, forall_const, List.length_append, List.length_cons, List.length_nil, Int.sub_add_cancel, Int.add_sub_cancel]
 have e0 : strOf [] = ⟨⟨[]⟩⟩ := rfl
 refine ⟨fun h => by rw [markT, if_pos h]; rfl, fun h => ⟨by omega, ⟨20, by omega, e0 ▸ rfl, rfl⟩, fun f m o ⟨h1, h2, h3, h4⟩ => ⟨fun hm => ?_, fun hm => ?_⟩⟩⟩
 ·cases f with
  | zero => simp at h2; omega
  | succ f =>
   rw [Int.pow_succ] at h2
   simp only [digA, if_pos hm] at h3
   have e1 : (strOf [(48 + m % 10) % 256]).size = 1 := strOf_len _
   have e2 : (strOf [(48 + m % 10) % 256] ++ o).size = 1 + o.size := by rw [ba_len, e1]
   refine ⟨h1, by omega, by omega, by omega, by omega, by omega, h1, by omega, by omega, f, by omega, h3, by omega, by omega⟩
 ·refine ⟨by omega, ?_⟩
  have : digA f m o = o := by cases f with
   | zero => rfl
   | succ f => rw [digA, if_neg (by omega)]
  rw [markT, if_neg (by omega), ← h3, this]
  rfl
def C_laws_toByteS : Con := { ps := [.ro (.list .u)], out := fun x => let a : List (Int) := x.1; .req ((a.length : Int) ≤ 1048576) (newL .u a), det := true }
abbrev L_laws_toByteS : List (Nat × Con) := []
def G_laws_toByteS : Cfg := GK L_laws_toByteS
def an_laws_toByteS : PTL C_laws_toByteS.ps → Nat → Option Ann := fun x kk_ => let a : List (Int) := x.1; if kk_ = 3 then some (.all (Int) fun i => .giv (0 ≤ i ∧ i ≤ a.length) (.mk [(4, ai i), (3, asl 20), (0, al .u a)] [(20, .row (some 5) .u (a.take i.toNat ++ List.replicate (a.length - i.toNat) 0) true)] ((a.length - i.toNat)))) else none
theorem vc_laws_toByteS (a : List (Int)) : (KP Tryz.f125 G_laws_toByteS C_laws_toByteS an_laws_toByteS (a, ())) = (a.length ≤ 9223372036854775807 →
 (LN a = LN a ∧ 0 ≤ LN a ∧ LN a ≤ 1000000000000 ∧ @Nat.cast Int _ (1 : Nat) * LN a ≤ 140737488355328) ∧ (∃ (b : Int), 0 = b ∧ a = a ∧ @repl Int (LN a) (0 : Int) = a.take b.toNat ++ @List.replicate Int (a.length - b.toNat) (0 : Int) ∧ (0 ≤ b ∧ b ≤ LN a) ∧ True) ∧ (∀ (c : Int), 0 ≤ c ∧ c ≤ LN a →
 a.length ≤ 9223372036854775807 →
 (decide (c < LN a) = true →
 (0 ≤ c ∧ c < LN a) ∧ (∀ (d : Int), a[c.toNat]? = some d →
 Ok (Ty.int IntKind.u8) d →
 (0 ≤ c ∧ c < LN (a.take c.toNat ++ @List.replicate Int (a.length - c.toNat) (0 : Int))) ∧ (∀ (e : Int), (a.take c.toNat ++ @List.replicate Int (a.length - c.toNat) (0 : Int))[c.toNat]? = some e →
 i64 (c + 1) ∧ (∃ (f : Int), c + 1 = f ∧ a = a ∧ (a.take c.toNat ++ @List.replicate Int (a.length - c.toNat) (0 : Int)).set c.toNat d = a.take f.toNat ++ @List.replicate Int (a.length - f.toNat) (0 : Int) ∧ (0 ≤ f ∧ f ≤ LN a) ∧ a.length - f.toNat < a.length - c.toNat)))) ∧ (decide (c < LN a) = false →
 a.take c.toNat ++ @List.replicate Int (a.length - c.toNat) (0 : Int) = a ∧ True))) := by kernel_rfl
theorem det_laws_toByteS : C_laws_toByteS.det = true → ∀ x, (C_laws_toByteS.out x).Det := fun _ x => by simp only [C_laws_toByteS]; repeat (first | exact Det.ret _ | exact Det.vc' | apply Det.req)
theorem ok_laws_toByteS : ConOK Tryz.prog 125 C_laws_toByteS := by
 refine con_q (l := L_laws_toByteS) trivial Tryz.func125 rfl (by decide) (by kernel_rfl) rfl an_laws_toByteS fun x ho hx => ?_
 obtain ⟨a, ⟨⟩⟩ := x
 refine Keeps.of (vc_laws_toByteS a) ?_
 revert a ho hx
 show ∀ (a : List (Int)), _
 intro a ho hx
 dsimp only [C_laws_toByteS, okPTL, okPT, Ok, Ty.cells, SN.cells, OkL, OkC, okI, ci, cb, cs, cl] at ho
 dsimp only [C_laws_toByteS, vc, v1, decB, SR.pre] at hx
 (try delta i64 LN); simp only [VBt]; (repeat' first | intro _ | apply And.intro); all_goals (try omega); all_goals first | exact repl_fill | exact set_fill' ‹_› (by omega) | exact fill_full' (by omega) | (simp only [List.length_take, List.length_replicate, mkd_len, List.length_set, List.length_append]; omega)
def C_laws_szByteS : Con := { ps := [.ro (.list .u), .ro .i], out := fun x => let a : List (Int) := x.1; let left : Int := x.2.1; .req (0 ≤ left ∧ left ≤ 1048576) (vc .i (szR a.length left)), det := true }
abbrev L_laws_szByteS : List (Nat × Con) := []
def G_laws_szByteS : Cfg := GK L_laws_szByteS
def an_laws_szByteS : PTL C_laws_szByteS.ps → Nat → Option Ann := fun _ _ => none
theorem vc_laws_szByteS (a : List (Int)) (left : Int) : (KP Tryz.f123 G_laws_szByteS C_laws_szByteS an_laws_szByteS (a, left, ())) = (a.length ≤ 9223372036854775807 →
 i64 (left - LN a) ∧ (decide (left - LN a < 0) = true →
 (- (1 : Int)) = szR (LN a) left ∧ True) ∧ (decide (left - LN a < 0) = false →
 left - LN a = szR (LN a) left ∧ True)) := by kernel_rfl
theorem det_laws_szByteS : C_laws_szByteS.det = true → ∀ x, (C_laws_szByteS.out x).Det := fun _ x => by simp only [C_laws_szByteS]; repeat (first | exact Det.ret _ | exact Det.vc' | apply Det.req)
theorem ok_laws_szByteS : ConOK Tryz.prog 123 C_laws_szByteS := by
 refine con_q (l := L_laws_szByteS) trivial Tryz.func123 rfl (by decide) (by kernel_rfl) rfl an_laws_szByteS fun x ho hx => ?_
 obtain ⟨a, left, ⟨⟩⟩ := x
 refine Keeps.of (vc_laws_szByteS a left) ?_
 revert a left ho hx
 show ∀ (a : List (Int)) (left : Int), _
 intro a left ho hx
 dsimp only [C_laws_szByteS, okPTL, okPT, Ok, Ty.cells, SN.cells, OkL, OkC, okI, ci, cb, cs, cl] at ho
 dsimp only [C_laws_szByteS, vc, v1, decB, SR.pre] at hx
 (try delta i64 LN); simp only [VBt]; (repeat' first | intro _ | apply And.intro); all_goals (try omega); all_goals (unfold szR; split <;> omega)
def C_laws_eqByteS : Con := { ps := [.ro (.list .u), .ro (.list .u)], out := fun x => let a : List (Int) := x.1; let b : List (Int) := x.2.1; vc .bool (decide (a = b)), det := true }
abbrev L_laws_eqByteS : List (Nat × Con) := []
def G_laws_eqByteS : Cfg := GK L_laws_eqByteS
def an_laws_eqByteS : PTL C_laws_eqByteS.ps → Nat → Option Ann := fun x kk_ => let a : List (Int) := x.1; let b : List (Int) := x.2.1; if kk_ = 4 then some (.all (Int) fun i => .giv (0 ≤ i ∧ i ≤ a.length ∧ a.length = b.length ∧ a.take i.toNat = b.take i.toNat) (.mk [(5, ai i), (0, al .u a), (1, al .u b)] [] ((a.length - i.toNat)))) else none
theorem vc_laws_eqByteS (a : List (Int)) (b : List (Int)) : (KP Tryz.f118 G_laws_eqByteS C_laws_eqByteS an_laws_eqByteS (a, b, ())) = (a.length ≤ 9223372036854775807 →
 b.length ≤ 9223372036854775807 →
 (decide (LN a ≠ LN b) = true →
 false = decide (a = b) ∧ True) ∧ (decide (LN a ≠ LN b) = false →
 (∃ (c : Int), 0 = c ∧ a = a ∧ b = b ∧ (0 ≤ c ∧ c ≤ LN a ∧ a.length = b.length ∧ a.take c.toNat = b.take c.toNat) ∧ True) ∧ (∀ (d : Int), 0 ≤ d ∧ d ≤ LN a ∧ a.length = b.length ∧ a.take d.toNat = b.take d.toNat →
 a.length ≤ 9223372036854775807 →
 (decide (d < LN a) = true →
 (0 ≤ d ∧ d < LN a) ∧ (∀ (e : Int), a[d.toNat]? = some e →
 Ok (Ty.int IntKind.u8) e →
 (0 ≤ d ∧ d < LN b) ∧ (∀ (f : Int), b[d.toNat]? = some f →
 Ok (Ty.int IntKind.u8) f →
 (decide (e ≠ f) = true →
 false = decide (a = b) ∧ True) ∧ (decide (e ≠ f) = false →
 i64 (d + 1) ∧ (∃ (g : Int), d + 1 = g ∧ a = a ∧ b = b ∧ (0 ≤ g ∧ g ≤ LN a ∧ a.length = b.length ∧ a.take g.toNat = b.take g.toNat) ∧ a.length - g.toNat < a.length - d.toNat))))) ∧ (decide (d < LN a) = false →
 true = decide (a = b) ∧ True)))) := by kernel_rfl
theorem det_laws_eqByteS : C_laws_eqByteS.det = true → ∀ x, (C_laws_eqByteS.out x).Det := fun _ _ => Det.vc'
theorem ok_laws_eqByteS : ConOK Tryz.prog 118 C_laws_eqByteS := by
 refine con_q (l := L_laws_eqByteS) trivial Tryz.func118 rfl (by decide) (by kernel_rfl) rfl an_laws_eqByteS fun x ho hx => ?_
 obtain ⟨a, b, ⟨⟩⟩ := x
 refine Keeps.of (vc_laws_eqByteS a b) ?_
 revert a b ho hx
 show ∀ (a : List (Int)) (b : List (Int)), _
 intro a b ho hx
 dsimp only [C_laws_eqByteS, okPTL, okPT, Ok, Ty.cells, SN.cells, OkL, OkC, okI, ci, cb, cs, cl] at ho
 dsimp only [C_laws_eqByteS, vc, v1, decB, SR.pre] at hx
 (try delta i64 LN); simp only [VBt]; (repeat' first | intro _ | apply And.intro); all_goals (try omega); all_goals first | grind [take_all', take_next, take_diff] | exact take_next2 (by omega) (by assumption) (by assumption) (by assumption) (by assumption) | exact take_diff2 (by assumption) (by assumption) (by assumption)
def C_laws_markByteS : Con := { ps := [.row none .u, .ro .i], out := fun x => let a : List (Int) := x.1; let k : Int := x.2.1; .req (0 ≤ k ∧ k + sumI cOne a ≤ 1000000000000) (turnL .u (mkL mkU cOne a k) (k + sumI cOne a)), det := true }
abbrev L_laws_markByteS : List (Nat × Con) := []
def G_laws_markByteS : Cfg := GK L_laws_markByteS
def an_laws_markByteS : PTL C_laws_markByteS.ps → Nat → Option Ann := fun x kk_ => let a : List (Int) := x.1; let k : Int := x.2.1; if kk_ = 2 then some (.all (Int) fun i => .giv (0 ≤ i ∧ i ≤ a.length) (.mk [(5, ai i), (1, ai (k + sumI cOne (a.take i.toNat))), (0, asl 0)] [(0, .row none .u (mkd mkU cOne a k i.toNat) true)] ((a.length - i.toNat)))) else none
theorem vc_laws_markByteS (a : List (Int)) (k : Int) : (KP Tryz.f97 G_laws_markByteS C_laws_markByteS an_laws_markByteS (a, k, ())) = ((∃ (b : Int), 0 = b ∧ k = k + @sumI Int (@cOne Int) (a.take b.toNat) ∧ a = @mkd Int mkU (@cOne Int) a k b.toNat ∧ (0 ≤ b ∧ b ≤ LN a) ∧ True) ∧ (∀ (c : Int), 0 ≤ c ∧ c ≤ LN a →
 (@mkd Int mkU (@cOne Int) a k c.toNat).length ≤ 9223372036854775807 →
 (decide (c < LN (@mkd Int mkU (@cOne Int) a k c.toNat)) = true →
 (0 ≤ c ∧ c < LN (@mkd Int mkU (@cOne Int) a k c.toNat)) ∧ (∀ (d : Int), (@mkd Int mkU (@cOne Int) a k c.toNat)[c.toNat]? = some d →
 i64 (k + @sumI Int (@cOne Int) (a.take c.toNat) + 1) ∧ i64 (c + 1) ∧ (∃ (e : Int), c + 1 = e ∧ k + @sumI Int (@cOne Int) (a.take c.toNat) + 1 = k + @sumI Int (@cOne Int) (a.take e.toNat) ∧ (@mkd Int mkU (@cOne Int) a k c.toNat).set c.toNat ((k + @sumI Int (@cOne Int) (a.take c.toNat)) % (256 : Ty.den Ty.u)) = @mkd Int mkU (@cOne Int) a k e.toNat ∧ (0 ≤ e ∧ e ≤ LN a) ∧ a.length - e.toNat < a.length - c.toNat))) ∧ (decide (c < LN (@mkd Int mkU (@cOne Int) a k c.toNat)) = false →
 k + @sumI Int (@cOne Int) (a.take c.toNat) = k + @sumI Int (@cOne Int) a ∧ @mkd Int mkU (@cOne Int) a k c.toNat = @mkL Int mkU (@cOne Int) a k ∧ True))) := by kernel_rfl
theorem det_laws_markByteS : C_laws_markByteS.det = true → ∀ x, (C_laws_markByteS.out x).Det := fun _ x => by simp only [C_laws_markByteS]; repeat (first | exact Det.ret _ | exact Det.vc' | apply Det.req)
theorem ok_laws_markByteS : ConOK Tryz.prog 97 C_laws_markByteS := by
 refine con_q (l := L_laws_markByteS) trivial Tryz.func97 rfl (by decide) (by kernel_rfl) rfl an_laws_markByteS fun x ho hx => ?_
 obtain ⟨a, k, ⟨⟩⟩ := x
 refine Keeps.of (vc_laws_markByteS a k) ?_
 revert a k ho hx
 show ∀ (a : List (Int)) (k : Int), _
 intro a k ho hx
 dsimp only [C_laws_markByteS, okPTL, okPT, Ok, Ty.cells, SN.cells, OkL, OkC, okI, ci, cb, cs, cl] at ho
 dsimp only [C_laws_markByteS, vc, v1, decB, SR.pre] at hx
 have cn : ∀ x : Int, 0 ≤ cOne x := cOne_nn
 have cl := sumI_le cn a
 have cs := sumI_nn cn
 (try delta i64 LN); simp only [VBt]; (repeat' first | intro _ | apply And.intro); all_goals (try omega); all_goals first | (simp only [List.length_take, List.length_replicate, mkd_len, List.length_set, List.length_append]; omega) | grind [mkd_len, mkd_get, mkd_set', mkd_full', mkd_zero, sumI_next, sumI_all, cOne, c4, sumI, mkU, mkI, mkSt]
def C_laws_heldByteS : Con := { ps := [.ro (.list .u), .ro .i], out := fun x => let a : List (Int) := x.1; let k : Int := x.2.1; .req (0 ≤ k ∧ k + sumI cOne a ≤ 1000000000000) (vc .i (hdL hU a k)), det := true }
abbrev L_laws_heldByteS : List (Nat × Con) := []
def G_laws_heldByteS : Cfg := GK L_laws_heldByteS
def an_laws_heldByteS : PTL C_laws_heldByteS.ps → Nat → Option Ann := fun x kk_ => let a : List (Int) := x.1; let k : Int := x.2.1; if kk_ = 2 then some (.all (Int) fun i => .all (Int) fun m => .giv (0 ≤ i ∧ i ≤ a.length ∧ 0 ≤ m ∧ m + sumI cOne (a.drop i.toNat) ≤ 1000000000000 ∧ hdL hU a k = hdL hU (a.drop i.toNat) m) (.mk [(5, ai i), (1, ai m), (0, al .u a)] [] ((a.length - i.toNat)))) else none
theorem vc_laws_heldByteS (a : List (Int)) (k : Int) : (KP Tryz.f99 G_laws_heldByteS C_laws_heldByteS an_laws_heldByteS (a, k, ())) = ((∃ (b : Int), (∃ (c : Int), 0 = b ∧ k = c ∧ a = a ∧ (0 ≤ b ∧ b ≤ LN a ∧ 0 ≤ c ∧ c + @sumI Int (@cOne Int) (a.drop b.toNat) ≤ 1000000000000 ∧ @hdL Int hU a k = @hdL Int hU (a.drop b.toNat) c) ∧ True)) ∧ (∀ (d : Int), (∀ (e : Int), 0 ≤ d ∧ d ≤ LN a ∧ 0 ≤ e ∧ e + @sumI Int (@cOne Int) (a.drop d.toNat) ≤ 1000000000000 ∧ @hdL Int hU a k = @hdL Int hU (a.drop d.toNat) e →
 a.length ≤ 9223372036854775807 →
 (decide (d < LN a) = true →
 (0 ≤ d ∧ d < LN a) ∧ (∀ (f : Int), a[d.toNat]? = some f →
 Ok (Ty.int IntKind.u8) f →
 (decide (f ≠ e % (256 : Ty.den Ty.u)) = true →
 (- (1 : Int)) = @hdL Int hU a k ∧ True) ∧ (decide (f ≠ e % (256 : Ty.den Ty.u)) = false →
 i64 (e + 1) ∧ i64 (d + 1) ∧ (∃ (g : Int), (∃ (h : Int), d + 1 = g ∧ e + 1 = h ∧ a = a ∧ (0 ≤ g ∧ g ≤ LN a ∧ 0 ≤ h ∧ h + @sumI Int (@cOne Int) (a.drop g.toNat) ≤ 1000000000000 ∧ @hdL Int hU a k = @hdL Int hU (a.drop g.toNat) h) ∧ a.length - g.toNat < a.length - d.toNat))))) ∧ (decide (d < LN a) = false →
 e = @hdL Int hU a k ∧ True)))) := by kernel_rfl
theorem det_laws_heldByteS : C_laws_heldByteS.det = true → ∀ x, (C_laws_heldByteS.out x).Det := fun _ x => by simp only [C_laws_heldByteS]; repeat (first | exact Det.ret _ | exact Det.vc' | apply Det.req)
theorem ok_laws_heldByteS : ConOK Tryz.prog 99 C_laws_heldByteS := by
 refine con_q (l := L_laws_heldByteS) trivial Tryz.func99 rfl (by decide) (by kernel_rfl) rfl an_laws_heldByteS fun x ho hx => ?_
 obtain ⟨a, k, ⟨⟩⟩ := x
 refine Keeps.of (vc_laws_heldByteS a k) ?_
 revert a k ho hx
 show ∀ (a : List (Int)) (k : Int), _
 intro a k ho hx
 dsimp only [C_laws_heldByteS, okPTL, okPT, Ok, Ty.cells, SN.cells, OkL, OkC, okI, ci, cb, cs, cl] at ho
 dsimp only [C_laws_heldByteS, vc, v1, decB, SR.pre] at hx
 have cn : ∀ x : Int, 0 ≤ cOne x := cOne_nn
 have cs := sumI_nn cn
 (try delta i64 LN); simp only [VBt]; (repeat' first | intro _ | apply And.intro); all_goals (try omega); all_goals first | (simp only [List.length_take, List.length_replicate, mkd_len, List.length_set, List.length_append]; omega) | grind [hdL_drop, sumI_drop, drop_end, hdL, sumI, hU, hI, hSt, cOne, c4]
end Go.Proofs.YtpgglbnagphgoaaGreat
