/- The laws' families: objects. -/
import Derived.Test.YtpgglbnagphgoaaGreatFamBQ
import Derived.Test.YtpgglbnagphgoaaGreatLibQ
set_option linter.unusedVariables false
set_option linter.unusedSimpArgs false
set_option maxRecDepth 200000
set_option maxHeartbeats 4000000
namespace Go.Proofs.YtpgglbnagphgoaaGreat
open Go Go.RowKit


def C_laws_toFixup : Con := { ps := [.ro (.st .fixup)], out := fun x => let a : Fixup := x.1; newS .fixup a, det := true }
abbrev L_laws_toFixup : List (Nat × Con) := []
def G_laws_toFixup : Cfg := GK L_laws_toFixup
def an_laws_toFixup : PTL C_laws_toFixup.ps → Nat → Option Ann := fun _ _ => none
theorem vc_laws_toFixup (a : Fixup) : (KP Tryz.f139 G_laws_toFixup C_laws_toFixup an_laws_toFixup (a, ())) = (a.at_ = a.at_ ∧ a.kind = a.kind ∧ a.to = a.to ∧ a.add = a.add ∧ True) := by kernel_rfl
theorem det_laws_toFixup : C_laws_toFixup.det = true → ∀ x, (C_laws_toFixup.out x).Det := fun _ _ => Det.ret _
theorem ok_laws_toFixup : ConOK Tryz.prog 139 C_laws_toFixup := by
 refine con_q (l := L_laws_toFixup) trivial Tryz.func139 rfl (by decide) (by kernel_rfl) rfl an_laws_toFixup fun x ho hx => ?_
 obtain ⟨a, ⟨⟩⟩ := x
 refine Keeps.of (vc_laws_toFixup a) ?_
 revert a ho hx
 show ∀ (a : Fixup), _
 intro a ho hx
 dsimp only [C_laws_toFixup, okPTL, okPT, Ok, Ty.cells, SN.cells, OkL, OkC, okI, ci, cb, cs, cl] at ho
 dsimp only [C_laws_toFixup, vc, v1, decB, SR.pre] at hx
 (try delta i64 LN); simp only [VBt]; (repeat' first | intro _ | apply And.intro); all_goals (try omega); all_goals (try grind [szIm, szMe, szHa, szPa, szSe, szSy, szOb, szMb])
def C_laws_eqFixup : Con := { ps := [.ro (.st .fixup), .ro (.st .fixup)], out := fun x => let a : Fixup := x.1; let b : Fixup := x.2.1; vc .bool (decide (a = b)), det := true }
abbrev L_laws_eqFixup : List (Nat × Con) := []
def G_laws_eqFixup : Cfg := GK L_laws_eqFixup
def an_laws_eqFixup : PTL C_laws_eqFixup.ps → Nat → Option Ann := fun _ _ => none
theorem vc_laws_eqFixup (a : Fixup) (b : Fixup) : (KP Tryz.f127 G_laws_eqFixup C_laws_eqFixup an_laws_eqFixup (a, b, ())) = ((decide (a.at_ ≠ b.at_) = true →
 false = decide (a = b) ∧ True) ∧ (decide (a.at_ ≠ b.at_) = false →
 (decide (a.kind ≠ b.kind) = true →
 false = decide (a = b) ∧ True) ∧ (decide (a.kind ≠ b.kind) = false →
 (decide (a.to ≠ b.to) = true →
 false = decide (a = b) ∧ True) ∧ (decide (a.to ≠ b.to) = false →
 (decide (a.add ≠ b.add) = true →
 false = decide (a = b) ∧ True) ∧ (decide (a.add ≠ b.add) = false →
 true = decide (a = b) ∧ True))))) := by kernel_rfl
theorem det_laws_eqFixup : C_laws_eqFixup.det = true → ∀ x, (C_laws_eqFixup.out x).Det := fun _ _ => Det.vc'
theorem ok_laws_eqFixup : ConOK Tryz.prog 127 C_laws_eqFixup := by
 refine con_q (l := L_laws_eqFixup) trivial Tryz.func127 rfl (by decide) (by kernel_rfl) rfl an_laws_eqFixup fun x ho hx => ?_
 obtain ⟨a, b, ⟨⟩⟩ := x
 refine Keeps.of (vc_laws_eqFixup a b) ?_
 revert a b ho hx
 show ∀ (a : Fixup) (b : Fixup), _
 intro a b ho hx
 dsimp only [C_laws_eqFixup, okPTL, okPT, Ok, Ty.cells, SN.cells, OkL, OkC, okI, ci, cb, cs, cl] at ho
 dsimp only [C_laws_eqFixup, vc, v1, decB, SR.pre] at hx
 (try delta i64 LN); simp only [VBt]; (repeat' first | intro _ | apply And.intro); all_goals (try omega); all_goals (first | grind [cases Img] | (cases a; cases b; simp_all; done) | (obtain ⟨⟨_, _⟩, _⟩ := a; obtain ⟨⟨_, _⟩, _⟩ := b; simp_all; done) | (obtain ⟨_, _, _⟩ := a; obtain ⟨_, _, _⟩ := b; simp_all; done) | (obtain ⟨_, ⟨_, _⟩⟩ := a; obtain ⟨_, ⟨_, _⟩⟩ := b; simp_all; done) | skip)
def C_laws_toFixupS : Con := { ps := [.ro (.list (.st .fixup))], out := fun x => let a : List (Fixup) := x.1; .req ((a.length : Int) ≤ 1048576) (newL (.st .fixup) a), det := true }
abbrev L_laws_toFixupS : List (Nat × Con) := [(139, C_laws_toFixup)]
def G_laws_toFixupS : Cfg := GK L_laws_toFixupS
def an_laws_toFixupS : PTL C_laws_toFixupS.ps → Nat → Option Ann := fun x kk_ => let a : List (Fixup) := x.1; if kk_ = 3 then some (.all (Int) fun i => .giv (0 ≤ i ∧ i ≤ a.length) (.mk [(4, ai i), (3, asl 20), (0, al (.st .fixup) a)] [(20, .row (some 71) (.st .fixup) (a.take i.toNat ++ List.replicate (a.length - i.toNat) (⟨0, 0, 0, 0⟩ : Fixup)) true)] ((a.length - i.toNat)))) else none
theorem vc_laws_toFixupS (a : List (Fixup)) : (KP Tryz.f126 G_laws_toFixupS C_laws_toFixupS an_laws_toFixupS (a, ())) = (a.length ≤ 9223372036854775807 →
 (LN a = LN a ∧ 0 ≤ LN a ∧ LN a ≤ 1000000000000 ∧ @Nat.cast Int _ (32 : Nat) * LN a ≤ 140737488355328) ∧ (∃ (b : Int), 0 = b ∧ a = a ∧ @repl Fixup (LN a) (Fixup.mk 0 0 0 0) = a.take b.toNat ++ @List.replicate Fixup (a.length - b.toNat) (Fixup.mk 0 0 0 0) ∧ (0 ≤ b ∧ b ≤ LN a) ∧ True) ∧ (∀ (c : Int), 0 ≤ c ∧ c ≤ LN a →
 a.length ≤ 9223372036854775807 →
 (decide (c < LN a) = true →
 (0 ≤ c ∧ c < LN a) ∧ (∀ (d : Fixup), a[c.toNat]? = some d →
 Ok (Ty.st SN.fixup) d →
 (0 ≤ c ∧ c < LN (a.take c.toNat ++ @List.replicate Fixup (a.length - c.toNat) (Fixup.mk 0 0 0 0))) ∧ (∀ (e : Fixup), (a.take c.toNat ++ @List.replicate Fixup (a.length - c.toNat) (Fixup.mk 0 0 0 0))[c.toNat]? = some e →
 i64 (c + 1) ∧ (∃ (f : Int), c + 1 = f ∧ a = a ∧ (a.take c.toNat ++ @List.replicate Fixup (a.length - c.toNat) (Fixup.mk 0 0 0 0)).set c.toNat d = a.take f.toNat ++ @List.replicate Fixup (a.length - f.toNat) (Fixup.mk 0 0 0 0) ∧ (0 ≤ f ∧ f ≤ LN a) ∧ a.length - f.toNat < a.length - c.toNat)))) ∧ (decide (c < LN a) = false →
 a.take c.toNat ++ @List.replicate Fixup (a.length - c.toNat) (Fixup.mk 0 0 0 0) = a ∧ True))) := by kernel_rfl
theorem det_laws_toFixupS : C_laws_toFixupS.det = true → ∀ x, (C_laws_toFixupS.out x).Det := fun _ x => by simp only [C_laws_toFixupS]; repeat (first | exact Det.ret _ | exact Det.vc' | apply Det.req)
theorem ok_laws_toFixupS : ConOK Tryz.prog 126 C_laws_toFixupS := by
 refine con_q (l := L_laws_toFixupS) ⟨⟨ok_laws_toFixup, det_laws_toFixup⟩, trivial⟩ Tryz.func126 rfl (by decide) (by kernel_rfl) rfl an_laws_toFixupS fun x ho hx => ?_
 obtain ⟨a, ⟨⟩⟩ := x
 refine Keeps.of (vc_laws_toFixupS a) ?_
 revert a ho hx
 show ∀ (a : List (Fixup)), _
 intro a ho hx
 dsimp only [C_laws_toFixupS, okPTL, okPT, Ok, Ty.cells, SN.cells, OkL, OkC, okI, ci, cb, cs, cl] at ho
 dsimp only [C_laws_toFixupS, vc, v1, decB, SR.pre] at hx
 (try delta i64 LN); simp only [VBt]; (repeat' first | intro _ | apply And.intro); all_goals (try omega); all_goals first | exact repl_fill | exact set_fill' ‹_› (by omega) | exact fill_full' (by omega) | (simp only [List.length_take, List.length_replicate, mkd_len, List.length_set, List.length_append]; omega)
def C_laws_szFixupS : Con := { ps := [.ro (.list (.st .fixup)), .ro .i], out := fun x => let a : List (Fixup) := x.1; let left : Int := x.2.1; .req (0 ≤ left ∧ left ≤ 1048576) (vc .i (szR a.length left)), det := true }
abbrev L_laws_szFixupS : List (Nat × Con) := []
def G_laws_szFixupS : Cfg := GK L_laws_szFixupS
def an_laws_szFixupS : PTL C_laws_szFixupS.ps → Nat → Option Ann := fun _ _ => none
theorem vc_laws_szFixupS (a : List (Fixup)) (left : Int) : (KP Tryz.f124 G_laws_szFixupS C_laws_szFixupS an_laws_szFixupS (a, left, ())) = (a.length ≤ 9223372036854775807 →
 i64 (left - LN a) ∧ (decide (left - LN a < 0) = true →
 (- (1 : Int)) = szR (LN a) left ∧ True) ∧ (decide (left - LN a < 0) = false →
 left - LN a = szR (LN a) left ∧ True)) := by kernel_rfl
theorem det_laws_szFixupS : C_laws_szFixupS.det = true → ∀ x, (C_laws_szFixupS.out x).Det := fun _ x => by simp only [C_laws_szFixupS]; repeat (first | exact Det.ret _ | exact Det.vc' | apply Det.req)
theorem ok_laws_szFixupS : ConOK Tryz.prog 124 C_laws_szFixupS := by
 refine con_q (l := L_laws_szFixupS) trivial Tryz.func124 rfl (by decide) (by kernel_rfl) rfl an_laws_szFixupS fun x ho hx => ?_
 obtain ⟨a, left, ⟨⟩⟩ := x
 refine Keeps.of (vc_laws_szFixupS a left) ?_
 revert a left ho hx
 show ∀ (a : List (Fixup)) (left : Int), _
 intro a left ho hx
 dsimp only [C_laws_szFixupS, okPTL, okPT, Ok, Ty.cells, SN.cells, OkL, OkC, okI, ci, cb, cs, cl] at ho
 dsimp only [C_laws_szFixupS, vc, v1, decB, SR.pre] at hx
 (try delta i64 LN); simp only [VBt]; (repeat' first | intro _ | apply And.intro); all_goals (try omega); all_goals (unfold szR; split <;> omega)
def C_laws_eqFixupS : Con := { ps := [.ro (.list (.st .fixup)), .ro (.list (.st .fixup))], out := fun x => let a : List (Fixup) := x.1; let b : List (Fixup) := x.2.1; vc .bool (decide (a = b)), det := true }
abbrev L_laws_eqFixupS : List (Nat × Con) := [(127, C_laws_eqFixup)]
def G_laws_eqFixupS : Cfg := GK L_laws_eqFixupS
def an_laws_eqFixupS : PTL C_laws_eqFixupS.ps → Nat → Option Ann := fun x kk_ => let a : List (Fixup) := x.1; let b : List (Fixup) := x.2.1; if kk_ = 4 then some (.all (Int) fun i => .giv (0 ≤ i ∧ i ≤ a.length ∧ a.length = b.length ∧ a.take i.toNat = b.take i.toNat) (.mk [(5, ai i), (0, al (.st .fixup) a), (1, al (.st .fixup) b)] [] ((a.length - i.toNat)))) else none
theorem vc_laws_eqFixupS (a : List (Fixup)) (b : List (Fixup)) : (KP Tryz.f119 G_laws_eqFixupS C_laws_eqFixupS an_laws_eqFixupS (a, b, ())) = (a.length ≤ 9223372036854775807 →
 b.length ≤ 9223372036854775807 →
 (decide (LN a ≠ LN b) = true →
 false = decide (a = b) ∧ True) ∧ (decide (LN a ≠ LN b) = false →
 (∃ (c : Int), 0 = c ∧ a = a ∧ b = b ∧ (0 ≤ c ∧ c ≤ LN a ∧ a.length = b.length ∧ a.take c.toNat = b.take c.toNat) ∧ True) ∧ (∀ (d : Int), 0 ≤ d ∧ d ≤ LN a ∧ a.length = b.length ∧ a.take d.toNat = b.take d.toNat →
 a.length ≤ 9223372036854775807 →
 (decide (d < LN a) = true →
 (0 ≤ d ∧ d < LN a) ∧ (∀ (e : Fixup), a[d.toNat]? = some e →
 Ok (Ty.st SN.fixup) e →
 (0 ≤ d ∧ d < LN b) ∧ (∀ (f : Fixup), b[d.toNat]? = some f →
 Ok (Ty.st SN.fixup) f →
 (Bool.not (decide (e = f)) = true →
 false = decide (a = b) ∧ True) ∧ (Bool.not (decide (e = f)) = false →
 i64 (d + 1) ∧ (∃ (g : Int), d + 1 = g ∧ a = a ∧ b = b ∧ (0 ≤ g ∧ g ≤ LN a ∧ a.length = b.length ∧ a.take g.toNat = b.take g.toNat) ∧ a.length - g.toNat < a.length - d.toNat))))) ∧ (decide (d < LN a) = false →
 true = decide (a = b) ∧ True)))) := by kernel_rfl
theorem det_laws_eqFixupS : C_laws_eqFixupS.det = true → ∀ x, (C_laws_eqFixupS.out x).Det := fun _ _ => Det.vc'
theorem ok_laws_eqFixupS : ConOK Tryz.prog 119 C_laws_eqFixupS := by
 refine con_q (l := L_laws_eqFixupS) ⟨⟨ok_laws_eqFixup, det_laws_eqFixup⟩, trivial⟩ Tryz.func119 rfl (by decide) (by kernel_rfl) rfl an_laws_eqFixupS fun x ho hx => ?_
 obtain ⟨a, b, ⟨⟩⟩ := x
 refine Keeps.of (vc_laws_eqFixupS a b) ?_
 revert a b ho hx
 show ∀ (a : List (Fixup)) (b : List (Fixup)), _
 intro a b ho hx
 dsimp only [C_laws_eqFixupS, okPTL, okPT, Ok, Ty.cells, SN.cells, OkL, OkC, okI, ci, cb, cs, cl] at ho
 dsimp only [C_laws_eqFixupS, vc, v1, decB, SR.pre] at hx
 (try delta i64 LN); simp only [VBt]; (repeat' first | intro _ | apply And.intro); all_goals (try omega); all_goals first | grind [take_all', take_next, take_diff] | exact take_next2 (by omega) (by assumption) (by assumption) (by assumption) (by assumption) | exact take_diff2 (by assumption) (by assumption) (by assumption)
def C_laws_markFixupS : Con := { ps := [.row none (.st .fixup), .ro .i], out := fun x => let a : List (Fixup) := x.1; let k : Int := x.2.1; .req (0 ≤ k ∧ k + sumI c4 a ≤ 1000000000000) (turnL (.st .fixup) (mkL mkFx c4 a k) (k + sumI c4 a)), det := true }
abbrev L_laws_markFixupS : List (Nat × Con) := []
def G_laws_markFixupS : Cfg := GK L_laws_markFixupS
def an_laws_markFixupS : PTL C_laws_markFixupS.ps → Nat → Option Ann := fun x kk_ => let a : List (Fixup) := x.1; let k : Int := x.2.1; if kk_ = 2 then some (.all (Int) fun i => .giv (0 ≤ i ∧ i ≤ a.length) (.mk [(5, ai i), (1, ai (k + sumI c4 (a.take i.toNat))), (0, asl 0)] [(0, .row none (.st .fixup) (mkd mkFx c4 a k i.toNat) true)] ((a.length - i.toNat)))) else none
theorem vc_laws_markFixupS (a : List (Fixup)) (k : Int) : (KP Tryz.f98 G_laws_markFixupS C_laws_markFixupS an_laws_markFixupS (a, k, ())) = ((∃ (b : Int), 0 = b ∧ k = k + @sumI Fixup (@c4 Fixup) (a.take b.toNat) ∧ a = @mkd Fixup mkFx (@c4 Fixup) a k b.toNat ∧ (0 ≤ b ∧ b ≤ LN a) ∧ True) ∧ (∀ (c : Int), 0 ≤ c ∧ c ≤ LN a →
 (@mkd Fixup mkFx (@c4 Fixup) a k c.toNat).length ≤ 9223372036854775807 →
 (decide (c < LN (@mkd Fixup mkFx (@c4 Fixup) a k c.toNat)) = true →
 (0 ≤ c ∧ c < LN (@mkd Fixup mkFx (@c4 Fixup) a k c.toNat)) ∧ (∀ (d : Fixup), (@mkd Fixup mkFx (@c4 Fixup) a k c.toNat)[c.toNat]? = some d →
 i64 (k + @sumI Fixup (@c4 Fixup) (a.take c.toNat) + 1) ∧ (0 ≤ c ∧ c < LN ((@mkd Fixup mkFx (@c4 Fixup) a k c.toNat).set c.toNat (Fixup.mk (k + @sumI Fixup (@c4 Fixup) (a.take c.toNat)) d.kind d.to d.add))) ∧ (∀ (e : Fixup), ((@mkd Fixup mkFx (@c4 Fixup) a k c.toNat).set c.toNat (Fixup.mk (k + @sumI Fixup (@c4 Fixup) (a.take c.toNat)) d.kind d.to d.add))[c.toNat]? = some e →
 i64 (k + @sumI Fixup (@c4 Fixup) (a.take c.toNat) + 1 + 1) ∧ (0 ≤ c ∧ c < LN (((@mkd Fixup mkFx (@c4 Fixup) a k c.toNat).set c.toNat (Fixup.mk (k + @sumI Fixup (@c4 Fixup) (a.take c.toNat)) d.kind d.to d.add)).set c.toNat (Fixup.mk e.at_ (k + @sumI Fixup (@c4 Fixup) (a.take c.toNat) + 1) e.to e.add))) ∧ (∀ (f : Fixup), (((@mkd Fixup mkFx (@c4 Fixup) a k c.toNat).set c.toNat (Fixup.mk (k + @sumI Fixup (@c4 Fixup) (a.take c.toNat)) d.kind d.to d.add)).set c.toNat (Fixup.mk e.at_ (k + @sumI Fixup (@c4 Fixup) (a.take c.toNat) + 1) e.to e.add))[c.toNat]? = some f →
 i64 (k + @sumI Fixup (@c4 Fixup) (a.take c.toNat) + 1 + 1 + 1) ∧ (0 ≤ c ∧ c < LN ((((@mkd Fixup mkFx (@c4 Fixup) a k c.toNat).set c.toNat (Fixup.mk (k + @sumI Fixup (@c4 Fixup) (a.take c.toNat)) d.kind d.to d.add)).set c.toNat (Fixup.mk e.at_ (k + @sumI Fixup (@c4 Fixup) (a.take c.toNat) + 1) e.to e.add)).set c.toNat (Fixup.mk f.at_ f.kind (k + @sumI Fixup (@c4 Fixup) (a.take c.toNat) + 1 + 1) f.add))) ∧ (∀ (g : Fixup), ((((@mkd Fixup mkFx (@c4 Fixup) a k c.toNat).set c.toNat (Fixup.mk (k + @sumI Fixup (@c4 Fixup) (a.take c.toNat)) d.kind d.to d.add)).set c.toNat (Fixup.mk e.at_ (k + @sumI Fixup (@c4 Fixup) (a.take c.toNat) + 1) e.to e.add)).set c.toNat (Fixup.mk f.at_ f.kind (k + @sumI Fixup (@c4 Fixup) (a.take c.toNat) + 1 + 1) f.add))[c.toNat]? = some g →
 i64 (k + @sumI Fixup (@c4 Fixup) (a.take c.toNat) + 1 + 1 + 1 + 1) ∧ i64 (c + 1) ∧ (∃ (h : Int), c + 1 = h ∧ k + @sumI Fixup (@c4 Fixup) (a.take c.toNat) + 1 + 1 + 1 + 1 = k + @sumI Fixup (@c4 Fixup) (a.take h.toNat) ∧ ((((@mkd Fixup mkFx (@c4 Fixup) a k c.toNat).set c.toNat (Fixup.mk (k + @sumI Fixup (@c4 Fixup) (a.take c.toNat)) d.kind d.to d.add)).set c.toNat (Fixup.mk e.at_ (k + @sumI Fixup (@c4 Fixup) (a.take c.toNat) + 1) e.to e.add)).set c.toNat (Fixup.mk f.at_ f.kind (k + @sumI Fixup (@c4 Fixup) (a.take c.toNat) + 1 + 1) f.add)).set c.toNat (Fixup.mk g.at_ g.kind g.to (k + @sumI Fixup (@c4 Fixup) (a.take c.toNat) + 1 + 1 + 1)) = @mkd Fixup mkFx (@c4 Fixup) a k h.toNat ∧ (0 ≤ h ∧ h ≤ LN a) ∧ a.length - h.toNat < a.length - c.toNat)))))) ∧ (decide (c < LN (@mkd Fixup mkFx (@c4 Fixup) a k c.toNat)) = false →
 k + @sumI Fixup (@c4 Fixup) (a.take c.toNat) = k + @sumI Fixup (@c4 Fixup) a ∧ @mkd Fixup mkFx (@c4 Fixup) a k c.toNat = @mkL Fixup mkFx (@c4 Fixup) a k ∧ True))) := by kernel_rfl
theorem det_laws_markFixupS : C_laws_markFixupS.det = true → ∀ x, (C_laws_markFixupS.out x).Det := fun _ x => by simp only [C_laws_markFixupS]; repeat (first | exact Det.ret _ | exact Det.vc' | apply Det.req)
theorem ok_laws_markFixupS : ConOK Tryz.prog 98 C_laws_markFixupS := by
 refine con_q (l := L_laws_markFixupS) trivial Tryz.func98 rfl (by decide) (by kernel_rfl) rfl an_laws_markFixupS fun x ho hx => ?_
 obtain ⟨a, k, ⟨⟩⟩ := x
 refine Keeps.of (vc_laws_markFixupS a k) ?_
 revert a k ho hx
 show ∀ (a : List (Fixup)) (k : Int), _
 intro a k ho hx
 dsimp only [C_laws_markFixupS, okPTL, okPT, Ok, Ty.cells, SN.cells, OkL, OkC, okI, ci, cb, cs, cl] at ho
 dsimp only [C_laws_markFixupS, vc, v1, decB, SR.pre] at hx
 have cn : ∀ x : Fixup, 0 ≤ c4 x := c4_nn
 have cl := sumI_le cn a
 have cs := sumI_nn cn
 (try delta i64 LN); simp only [VBt]; (repeat' first | intro _ | apply And.intro); all_goals (try omega); all_goals first | (simp only [List.length_take, List.length_replicate, mkd_len, List.length_set, List.length_append]; omega) | exact mkd_full' (by omega) | exact (mkd_zero _ _).symm | exact mkd_set' (by assumption) (by omega) (by subst_vars; simp [mkRg, mkFx, mkSy, mkPa, mkSe, mkMb, mkOb, mkIL, Int.add_assoc]) | (try grind [mkd_len, mkd_get, mkd_zero, sumI_next, sumI_all, cOne, c4, cPa, cSe, cOb, cMb, cIL, sumI])
def C_laws_heldFixupS : Con := { ps := [.ro (.list (.st .fixup)), .ro .i], out := fun x => let a : List (Fixup) := x.1; let k : Int := x.2.1; .req (0 ≤ k ∧ k + sumI c4 a ≤ 1000000000000) (vc .i (hdL hFx a k)), det := true }
abbrev L_laws_heldFixupS : List (Nat × Con) := []
def G_laws_heldFixupS : Cfg := GK L_laws_heldFixupS
def an_laws_heldFixupS : PTL C_laws_heldFixupS.ps → Nat → Option Ann := fun x kk_ => let a : List (Fixup) := x.1; let k : Int := x.2.1; if kk_ = 2 then some (.all (Int) fun i => .all (Int) fun m => .giv (0 ≤ i ∧ i ≤ a.length ∧ 0 ≤ m ∧ m + sumI c4 (a.drop i.toNat) ≤ 1000000000000 ∧ hdL hFx a k = hdL hFx (a.drop i.toNat) m) (.mk [(5, ai i), (1, ai m), (0, al (.st .fixup) a)] [] ((a.length - i.toNat)))) else none
theorem vc_laws_heldFixupS (a : List (Fixup)) (k : Int) : (KP Tryz.f100 G_laws_heldFixupS C_laws_heldFixupS an_laws_heldFixupS (a, k, ())) = ((∃ (b : Int), (∃ (c : Int), 0 = b ∧ k = c ∧ a = a ∧ (0 ≤ b ∧ b ≤ LN a ∧ 0 ≤ c ∧ c + @sumI Fixup (@c4 Fixup) (a.drop b.toNat) ≤ 1000000000000 ∧ @hdL Fixup hFx a k = @hdL Fixup hFx (a.drop b.toNat) c) ∧ True)) ∧ (∀ (d : Int), (∀ (e : Int), 0 ≤ d ∧ d ≤ LN a ∧ 0 ≤ e ∧ e + @sumI Fixup (@c4 Fixup) (a.drop d.toNat) ≤ 1000000000000 ∧ @hdL Fixup hFx a k = @hdL Fixup hFx (a.drop d.toNat) e →
 a.length ≤ 9223372036854775807 →
 (decide (d < LN a) = true →
 (0 ≤ d ∧ d < LN a) ∧ (∀ (f : Fixup), a[d.toNat]? = some f →
 Ok (Ty.st SN.fixup) f →
 (decide (f.at_ ≠ e) = true →
 (- (1 : Int)) = @hdL Fixup hFx a k ∧ True) ∧ (decide (f.at_ ≠ e) = false →
 i64 (e + 1) ∧ (0 ≤ d ∧ d < LN a) ∧ (∀ (g : Fixup), a[d.toNat]? = some g →
 Ok (Ty.st SN.fixup) g →
 (decide (g.kind ≠ e + 1) = true →
 (- (1 : Int)) = @hdL Fixup hFx a k ∧ True) ∧ (decide (g.kind ≠ e + 1) = false →
 i64 (e + 1 + 1) ∧ (0 ≤ d ∧ d < LN a) ∧ (∀ (h : Fixup), a[d.toNat]? = some h →
 Ok (Ty.st SN.fixup) h →
 (decide (h.to ≠ e + 1 + 1) = true →
 (- (1 : Int)) = @hdL Fixup hFx a k ∧ True) ∧ (decide (h.to ≠ e + 1 + 1) = false →
 i64 (e + 1 + 1 + 1) ∧ (0 ≤ d ∧ d < LN a) ∧ (∀ (i : Fixup), a[d.toNat]? = some i →
 Ok (Ty.st SN.fixup) i →
 (decide (i.add ≠ e + 1 + 1 + 1) = true →
 (- (1 : Int)) = @hdL Fixup hFx a k ∧ True) ∧ (decide (i.add ≠ e + 1 + 1 + 1) = false →
 i64 (e + 1 + 1 + 1 + 1) ∧ i64 (d + 1) ∧ (∃ (j : Int), (∃ (l : Int), d + 1 = j ∧ e + 1 + 1 + 1 + 1 = l ∧ a = a ∧ (0 ≤ j ∧ j ≤ LN a ∧ 0 ≤ l ∧ l + @sumI Fixup (@c4 Fixup) (a.drop j.toNat) ≤ 1000000000000 ∧ @hdL Fixup hFx a k = @hdL Fixup hFx (a.drop j.toNat) l) ∧ a.length - j.toNat < a.length - d.toNat))))))))))) ∧ (decide (d < LN a) = false →
 e = @hdL Fixup hFx a k ∧ True)))) := by kernel_rfl
theorem det_laws_heldFixupS : C_laws_heldFixupS.det = true → ∀ x, (C_laws_heldFixupS.out x).Det := fun _ x => by simp only [C_laws_heldFixupS]; repeat (first | exact Det.ret _ | exact Det.vc' | apply Det.req)
theorem ok_laws_heldFixupS : ConOK Tryz.prog 100 C_laws_heldFixupS := by
 refine con_q (l := L_laws_heldFixupS) trivial Tryz.func100 rfl (by decide) (by kernel_rfl) rfl an_laws_heldFixupS fun x ho hx => ?_
 obtain ⟨a, k, ⟨⟩⟩ := x
 refine Keeps.of (vc_laws_heldFixupS a k) ?_
 revert a k ho hx
 show ∀ (a : List (Fixup)) (k : Int), _
 intro a k ho hx
 dsimp only [C_laws_heldFixupS, okPTL, okPT, Ok, Ty.cells, SN.cells, OkL, OkC, okI, ci, cb, cs, cl] at ho
 dsimp only [C_laws_heldFixupS, vc, v1, decB, SR.pre] at hx
 have cn : ∀ x : Fixup, 0 ≤ c4 x := c4_nn
 have cs := sumI_nn cn
 (try delta i64 LN); simp +contextual only [VBt]; (repeat' first | intro _ | apply And.intro); all_goals (try omega); all_goals first | (simp only [List.length_take, List.length_replicate, mkd_len, List.length_set, List.length_append]; omega) | (try grind [hdL_drop, sumI_drop, drop_end, hdL, sumI, cOne, c4, cPa, cSe, cOb, cMb, cIL, hRg, hFx, hSy, hPa, hSe, hOb, hMb, hIL])
def C_laws_toSection : Con := { ps := [.ro (.st .sect)], out := fun x => let a : Sect := x.1; .req (szSe a ≤ 1048576) (newS .sect a), det := true }
abbrev L_laws_toSection : List (Nat × Con) := [(125, C_laws_toByteS), (126, C_laws_toFixupS)]
def G_laws_toSection : Cfg := GK L_laws_toSection
def an_laws_toSection : PTL C_laws_toSection.ps → Nat → Option Ann := fun _ _ => none
theorem vc_laws_toSection (a : Sect) : (KP Tryz.f116 G_laws_toSection C_laws_toSection an_laws_toSection (a, ())) = (LN a.bytes ≤ 1048576 ∧ LN a.fixups ≤ 1048576 ∧ a.name = a.name ∧ a.kind = a.kind ∧ a.align = a.align ∧ a.size = a.size ∧ a.bytes = a.bytes ∧ a.fixups = a.fixups ∧ True) := by kernel_rfl
theorem det_laws_toSection : C_laws_toSection.det = true → ∀ x, (C_laws_toSection.out x).Det := fun _ x => by simp only [C_laws_toSection]; repeat (first | exact Det.ret _ | exact Det.vc' | apply Det.req)
theorem ok_laws_toSection : ConOK Tryz.prog 116 C_laws_toSection := by
 refine con_q (l := L_laws_toSection) ⟨⟨ok_laws_toByteS, det_laws_toByteS⟩, ⟨⟨ok_laws_toFixupS, det_laws_toFixupS⟩, trivial⟩⟩ Tryz.func116 rfl (by decide) (by kernel_rfl) rfl an_laws_toSection fun x ho hx => ?_
 obtain ⟨a, ⟨⟩⟩ := x
 refine Keeps.of (vc_laws_toSection a) ?_
 revert a ho hx
 show ∀ (a : Sect), _
 intro a ho hx
 dsimp only [C_laws_toSection, okPTL, okPT, Ok, Ty.cells, SN.cells, OkL, OkC, okI, ci, cb, cs, cl] at ho
 dsimp only [C_laws_toSection, vc, v1, decB, SR.pre] at hx
 (try delta i64 LN); simp only [VBt]; (repeat' first | intro _ | apply And.intro); all_goals (try omega); all_goals (try grind [szIm, szMe, szHa, szPa, szSe, szSy, szOb, szMb])
def C_laws_szSection : Con := { ps := [.ro (.st .sect), .ro .i], out := fun x => let a : Sect := x.1; let left : Int := x.2.1; .req (0 ≤ left ∧ left ≤ 1048576) (vc .i (szR (szSe a) left)), det := true }
abbrev L_laws_szSection : List (Nat × Con) := [(123, C_laws_szByteS), (124, C_laws_szFixupS)]
def G_laws_szSection : Cfg := GK L_laws_szSection
def an_laws_szSection : PTL C_laws_szSection.ps → Nat → Option Ann := fun _ _ => none
theorem vc_laws_szSection (a : Sect) (left : Int) : (KP Tryz.f114 G_laws_szSection C_laws_szSection an_laws_szSection (a, left, ())) = (ByteArray.size a.name ≤ 9223372036854775807 →
 i64 (left - @Nat.cast Int _ (ByteArray.size a.name)) ∧ (decide (left - @Nat.cast Int _ (ByteArray.size a.name) < 0) = true →
 (- (1 : Int)) = szR (szSe a) left ∧ True) ∧ (decide (left - @Nat.cast Int _ (ByteArray.size a.name) < 0) = false →
 (0 ≤ left - @Nat.cast Int _ (ByteArray.size a.name) ∧ left - @Nat.cast Int _ (ByteArray.size a.name) ≤ 1048576) ∧ (decide (szR (LN a.bytes) (left - @Nat.cast Int _ (ByteArray.size a.name)) < 0) = true →
 (- (1 : Int)) = szR (szSe a) left ∧ True) ∧ (decide (szR (LN a.bytes) (left - @Nat.cast Int _ (ByteArray.size a.name)) < 0) = false →
 (0 ≤ szR (LN a.bytes) (left - @Nat.cast Int _ (ByteArray.size a.name)) ∧ szR (LN a.bytes) (left - @Nat.cast Int _ (ByteArray.size a.name)) ≤ 1048576) ∧ (decide (szR (LN a.fixups) (szR (LN a.bytes) (left - @Nat.cast Int _ (ByteArray.size a.name))) < 0) = true →
 (- (1 : Int)) = szR (szSe a) left ∧ True) ∧ (decide (szR (LN a.fixups) (szR (LN a.bytes) (left - @Nat.cast Int _ (ByteArray.size a.name))) < 0) = false →
 szR (LN a.fixups) (szR (LN a.bytes) (left - @Nat.cast Int _ (ByteArray.size a.name))) = szR (szSe a) left ∧ True)))) := by kernel_rfl
theorem det_laws_szSection : C_laws_szSection.det = true → ∀ x, (C_laws_szSection.out x).Det := fun _ x => by simp only [C_laws_szSection]; repeat (first | exact Det.ret _ | exact Det.vc' | apply Det.req)
theorem ok_laws_szSection : ConOK Tryz.prog 114 C_laws_szSection := by
 refine con_q (l := L_laws_szSection) ⟨⟨ok_laws_szByteS, det_laws_szByteS⟩, ⟨⟨ok_laws_szFixupS, det_laws_szFixupS⟩, trivial⟩⟩ Tryz.func114 rfl (by decide) (by kernel_rfl) rfl an_laws_szSection fun x ho hx => ?_
 obtain ⟨a, left, ⟨⟩⟩ := x
 refine Keeps.of (vc_laws_szSection a left) ?_
 revert a left ho hx
 show ∀ (a : Sect) (left : Int), _
 intro a left ho hx
 dsimp only [C_laws_szSection, okPTL, okPT, Ok, Ty.cells, SN.cells, OkL, OkC, okI, ci, cb, cs, cl] at ho
 dsimp only [C_laws_szSection, vc, v1, decB, SR.pre] at hx
 (try delta i64 LN); simp only [VBt]; (repeat' first | intro _ | apply And.intro); all_goals (try omega); all_goals (try grind [szR, szIm, szMe, szHa, szPa, szSe, szSy, szOb, szMb])
def C_laws_eqSection : Con := { ps := [.ro (.st .sect), .ro (.st .sect)], out := fun x => let a : Sect := x.1; let b : Sect := x.2.1; vc .bool (decide (a = b)), det := true }
abbrev L_laws_eqSection : List (Nat × Con) := [(118, C_laws_eqByteS), (119, C_laws_eqFixupS)]
def G_laws_eqSection : Cfg := GK L_laws_eqSection
def an_laws_eqSection : PTL C_laws_eqSection.ps → Nat → Option Ann := fun _ _ => none
theorem vc_laws_eqSection (a : Sect) (b : Sect) : (KP Tryz.f94 G_laws_eqSection C_laws_eqSection an_laws_eqSection (a, b, ())) = ((decide (a.name ≠ b.name) = true →
 false = decide (a = b) ∧ True) ∧ (decide (a.name ≠ b.name) = false →
 (decide (a.kind ≠ b.kind) = true →
 false = decide (a = b) ∧ True) ∧ (decide (a.kind ≠ b.kind) = false →
 (decide (a.align ≠ b.align) = true →
 false = decide (a = b) ∧ True) ∧ (decide (a.align ≠ b.align) = false →
 (Bool.not (decide (a.bytes = b.bytes)) = true →
 false = decide (a = b) ∧ True) ∧ (Bool.not (decide (a.bytes = b.bytes)) = false →
 (decide (a.size ≠ b.size) = true →
 false = decide (a = b) ∧ True) ∧ (decide (a.size ≠ b.size) = false →
 (Bool.not (decide (a.fixups = b.fixups)) = true →
 false = decide (a = b) ∧ True) ∧ (Bool.not (decide (a.fixups = b.fixups)) = false →
 true = decide (a = b) ∧ True))))))) := by kernel_rfl
theorem det_laws_eqSection : C_laws_eqSection.det = true → ∀ x, (C_laws_eqSection.out x).Det := fun _ _ => Det.vc'
theorem ok_laws_eqSection : ConOK Tryz.prog 94 C_laws_eqSection := by
 refine con_q (l := L_laws_eqSection) ⟨⟨ok_laws_eqByteS, det_laws_eqByteS⟩, ⟨⟨ok_laws_eqFixupS, det_laws_eqFixupS⟩, trivial⟩⟩ Tryz.func94 rfl (by decide) (by kernel_rfl) rfl an_laws_eqSection fun x ho hx => ?_
 obtain ⟨a, b, ⟨⟩⟩ := x
 refine Keeps.of (vc_laws_eqSection a b) ?_
 revert a b ho hx
 show ∀ (a : Sect) (b : Sect), _
 intro a b ho hx
 dsimp only [C_laws_eqSection, okPTL, okPT, Ok, Ty.cells, SN.cells, OkL, OkC, okI, ci, cb, cs, cl] at ho
 dsimp only [C_laws_eqSection, vc, v1, decB, SR.pre] at hx
 (try delta i64 LN); simp only [VBt]; (repeat' first | intro _ | apply And.intro); all_goals (try omega); all_goals (first | grind [cases Img] | (cases a; cases b; simp_all; done) | (obtain ⟨⟨_, _⟩, _⟩ := a; obtain ⟨⟨_, _⟩, _⟩ := b; simp_all; done) | (obtain ⟨_, _, _⟩ := a; obtain ⟨_, _, _⟩ := b; simp_all; done) | (obtain ⟨_, ⟨_, _⟩⟩ := a; obtain ⟨_, ⟨_, _⟩⟩ := b; simp_all; done) | skip)
def C_laws_toSectionS : Con := { ps := [.ro (.list (.st .sect))], out := fun x => let a : List (Sect) := x.1; .req ((a.length + sumI szSe a : Int) ≤ 1048576) (newL (.st .sect) a), det := true }
abbrev L_laws_toSectionS : List (Nat × Con) := [(116, C_laws_toSection)]
def G_laws_toSectionS : Cfg := GK L_laws_toSectionS
def an_laws_toSectionS : PTL C_laws_toSectionS.ps → Nat → Option Ann := fun x kk_ => let a : List (Sect) := x.1; if kk_ = 3 then some (.all (Int) fun i => .giv (0 ≤ i ∧ i ≤ a.length) (.mk [(4, ai i), (3, asl 20), (0, al (.st .sect) a)] [(20, .row (some 69) (.st .sect) (a.take i.toNat ++ List.replicate (a.length - i.toNat) (⟨⟨⟨[]⟩⟩, 0, 0, [], 0, []⟩ : Sect)) true)] ((a.length - i.toNat)))) else none
theorem vc_laws_toSectionS (a : List (Sect)) : (KP Tryz.f92 G_laws_toSectionS C_laws_toSectionS an_laws_toSectionS (a, ())) = (a.length ≤ 9223372036854775807 →
 (LN a = LN a ∧ 0 ≤ LN a ∧ LN a ≤ 1000000000000 ∧ @Nat.cast Int _ (88 : Nat) * LN a ≤ 140737488355328) ∧ (∃ (b : Int), 0 = b ∧ a = a ∧ @repl Sect (LN a) (Sect.mk (ByteArray.mk (@Array.mk UInt8 ([] : List UInt8))) 0 0 ([] : List Int) 0 ([] : List Fixup)) = a.take b.toNat ++ @List.replicate Sect (a.length - b.toNat) (Sect.mk (ByteArray.mk (@Array.mk UInt8 ([] : List UInt8))) 0 0 ([] : List Int) 0 ([] : List Fixup)) ∧ (0 ≤ b ∧ b ≤ LN a) ∧ True) ∧ (∀ (c : Int), 0 ≤ c ∧ c ≤ LN a →
 a.length ≤ 9223372036854775807 →
 (decide (c < LN a) = true →
 (0 ≤ c ∧ c < LN a) ∧ (∀ (d : Sect), a[c.toNat]? = some d →
 Ok (Ty.st SN.sect) d →
 szSe d ≤ 1048576 ∧ (0 ≤ c ∧ c < LN (a.take c.toNat ++ @List.replicate Sect (a.length - c.toNat) (Sect.mk (ByteArray.mk (@Array.mk UInt8 ([] : List UInt8))) 0 0 ([] : List Int) 0 ([] : List Fixup)))) ∧ (∀ (e : Sect), (a.take c.toNat ++ @List.replicate Sect (a.length - c.toNat) (Sect.mk (ByteArray.mk (@Array.mk UInt8 ([] : List UInt8))) 0 0 ([] : List Int) 0 ([] : List Fixup)))[c.toNat]? = some e →
 i64 (c + 1) ∧ (∃ (f : Int), c + 1 = f ∧ a = a ∧ (a.take c.toNat ++ @List.replicate Sect (a.length - c.toNat) (Sect.mk (ByteArray.mk (@Array.mk UInt8 ([] : List UInt8))) 0 0 ([] : List Int) 0 ([] : List Fixup))).set c.toNat d = a.take f.toNat ++ @List.replicate Sect (a.length - f.toNat) (Sect.mk (ByteArray.mk (@Array.mk UInt8 ([] : List UInt8))) 0 0 ([] : List Int) 0 ([] : List Fixup)) ∧ (0 ≤ f ∧ f ≤ LN a) ∧ a.length - f.toNat < a.length - c.toNat)))) ∧ (decide (c < LN a) = false →
 a.take c.toNat ++ @List.replicate Sect (a.length - c.toNat) (Sect.mk (ByteArray.mk (@Array.mk UInt8 ([] : List UInt8))) 0 0 ([] : List Int) 0 ([] : List Fixup)) = a ∧ True))) := by kernel_rfl
theorem det_laws_toSectionS : C_laws_toSectionS.det = true → ∀ x, (C_laws_toSectionS.out x).Det := fun _ x => by simp only [C_laws_toSectionS]; repeat (first | exact Det.ret _ | exact Det.vc' | apply Det.req)
theorem ok_laws_toSectionS : ConOK Tryz.prog 92 C_laws_toSectionS := by
 refine con_q (l := L_laws_toSectionS) ⟨⟨ok_laws_toSection, det_laws_toSection⟩, trivial⟩ Tryz.func92 rfl (by decide) (by kernel_rfl) rfl an_laws_toSectionS fun x ho hx => ?_
 obtain ⟨a, ⟨⟩⟩ := x
 refine Keeps.of (vc_laws_toSectionS a) ?_
 revert a ho hx
 show ∀ (a : List (Sect)), _
 intro a ho hx
 dsimp only [C_laws_toSectionS, okPTL, okPT, Ok, Ty.cells, SN.cells, OkL, OkC, okI, ci, cb, cs, cl] at ho
 dsimp only [C_laws_toSectionS, vc, v1, decB, SR.pre] at hx
 have cs := sumI_nn (f := szSe) szSe_nn a
 have ca := fun k x => sumI_at (f := szSe) szSe_nn (l := a) (k := k) (x := x)
 (try delta i64 LN); simp only [VBt]; (repeat' first | intro _ | apply And.intro); all_goals (try omega); all_goals first | exact repl_fill | exact set_fill' ‹_› (by omega) | exact fill_full' (by omega) | (simp only [List.length_take, List.length_replicate, mkd_len, List.length_set, List.length_append]; omega) | (try grind [sumI_at, szPa, szSe, szOb, szSy, szMb])
def C_laws_szSectionS : Con := { ps := [.ro (.list (.st .sect)), .ro .i], out := fun x => let a : List (Sect) := x.1; let left : Int := x.2.1; .req (0 ≤ left ∧ left ≤ 1048576) (vc .i (szR (a.length + sumI szSe a : Int) left)), det := true }
abbrev L_laws_szSectionS : List (Nat × Con) := [(114, C_laws_szSection)]
def G_laws_szSectionS : Cfg := GK L_laws_szSectionS
def an_laws_szSectionS : PTL C_laws_szSectionS.ps → Nat → Option Ann := fun x kk_ => let a : List (Sect) := x.1; let left : Int := x.2.1; if kk_ = 5 then some (.all (Int) fun i => .all (Int) fun m => .giv (0 ≤ i ∧ i ≤ a.length ∧ 0 ≤ m ∧ m ≤ left ∧ szR (a.length + sumI szSe a : Int) left = szR (sumI szSe (a.drop i.toNat)) m) (.mk [(5, ai i), (1, ai m), (0, al (.st .sect) a)] [] ((a.length - i.toNat)))) else none
theorem vc_laws_szSectionS (a : List (Sect)) (left : Int) : (KP Tryz.f90 G_laws_szSectionS C_laws_szSectionS an_laws_szSectionS (a, left, ())) = (a.length ≤ 9223372036854775807 →
 i64 (left - LN a) ∧ (decide (left - LN a < 0) = true →
 (- (1 : Int)) = szR (LN a + @sumI Sect szSe a) left ∧ True) ∧ (decide (left - LN a < 0) = false →
 (∃ (b : Int), (∃ (c : Int), 0 = b ∧ left - LN a = c ∧ a = a ∧ (0 ≤ b ∧ b ≤ LN a ∧ 0 ≤ c ∧ c ≤ left ∧ szR (LN a + @sumI Sect szSe a) left = szR (@sumI Sect szSe (a.drop b.toNat)) c) ∧ True)) ∧ (∀ (d : Int), (∀ (e : Int), 0 ≤ d ∧ d ≤ LN a ∧ 0 ≤ e ∧ e ≤ left ∧ szR (LN a + @sumI Sect szSe a) left = szR (@sumI Sect szSe (a.drop d.toNat)) e →
 a.length ≤ 9223372036854775807 →
 (decide (d < LN a) = true →
 (0 ≤ d ∧ d < LN a) ∧ (∀ (f : Sect), a[d.toNat]? = some f →
 Ok (Ty.st SN.sect) f →
 (0 ≤ e ∧ e ≤ 1048576) ∧ (decide (szR (szSe f) e < 0) = true →
 (- (1 : Int)) = szR (LN a + @sumI Sect szSe a) left ∧ True) ∧ (decide (szR (szSe f) e < 0) = false →
 i64 (d + 1) ∧ (∃ (g : Int), (∃ (h : Int), d + 1 = g ∧ szR (szSe f) e = h ∧ a = a ∧ (0 ≤ g ∧ g ≤ LN a ∧ 0 ≤ h ∧ h ≤ left ∧ szR (LN a + @sumI Sect szSe a) left = szR (@sumI Sect szSe (a.drop g.toNat)) h) ∧ a.length - g.toNat < a.length - d.toNat))))) ∧ (decide (d < LN a) = false →
 e = szR (LN a + @sumI Sect szSe a) left ∧ True))))) := by kernel_rfl
theorem det_laws_szSectionS : C_laws_szSectionS.det = true → ∀ x, (C_laws_szSectionS.out x).Det := fun _ x => by simp only [C_laws_szSectionS]; repeat (first | exact Det.ret _ | exact Det.vc' | apply Det.req)
theorem ok_laws_szSectionS : ConOK Tryz.prog 90 C_laws_szSectionS := by
 refine con_q (l := L_laws_szSectionS) ⟨⟨ok_laws_szSection, det_laws_szSection⟩, trivial⟩ Tryz.func90 rfl (by decide) (by kernel_rfl) rfl an_laws_szSectionS fun x ho hx => ?_
 obtain ⟨a, left, ⟨⟩⟩ := x
 refine Keeps.of (vc_laws_szSectionS a left) ?_
 revert a left ho hx
 show ∀ (a : List (Sect)) (left : Int), _
 intro a left ho hx
 dsimp only [C_laws_szSectionS, okPTL, okPT, Ok, Ty.cells, SN.cells, OkL, OkC, okI, ci, cb, cs, cl] at ho
 dsimp only [C_laws_szSectionS, vc, v1, decB, SR.pre] at hx
 have cs := sumI_nn (f := szSe) szSe_nn
 (try delta i64 LN); simp only [VBt]; (repeat' first | intro _ | apply And.intro); all_goals (try omega); all_goals first | (unfold szR; split <;> omega) | exact szR_le2 (by first | exact szSe_nn _ | exact szSy_nn _ | exact szOb_nn _ | exact szMb_nn _) ‹_› ‹_› | (try grind [szR, sumI_drop, drop_end, sumI])
def C_laws_eqSectionS : Con := { ps := [.ro (.list (.st .sect)), .ro (.list (.st .sect))], out := fun x => let a : List (Sect) := x.1; let b : List (Sect) := x.2.1; vc .bool (decide (a = b)), det := true }
abbrev L_laws_eqSectionS : List (Nat × Con) := [(94, C_laws_eqSection)]
def G_laws_eqSectionS : Cfg := GK L_laws_eqSectionS
def an_laws_eqSectionS : PTL C_laws_eqSectionS.ps → Nat → Option Ann := fun x kk_ => let a : List (Sect) := x.1; let b : List (Sect) := x.2.1; if kk_ = 4 then some (.all (Int) fun i => .giv (0 ≤ i ∧ i ≤ a.length ∧ a.length = b.length ∧ a.take i.toNat = b.take i.toNat) (.mk [(5, ai i), (0, al (.st .sect) a), (1, al (.st .sect) b)] [] ((a.length - i.toNat)))) else none
theorem vc_laws_eqSectionS (a : List (Sect)) (b : List (Sect)) : (KP Tryz.f55 G_laws_eqSectionS C_laws_eqSectionS an_laws_eqSectionS (a, b, ())) = (a.length ≤ 9223372036854775807 →
 b.length ≤ 9223372036854775807 →
 (decide (LN a ≠ LN b) = true →
 false = decide (a = b) ∧ True) ∧ (decide (LN a ≠ LN b) = false →
 (∃ (c : Int), 0 = c ∧ a = a ∧ b = b ∧ (0 ≤ c ∧ c ≤ LN a ∧ a.length = b.length ∧ a.take c.toNat = b.take c.toNat) ∧ True) ∧ (∀ (d : Int), 0 ≤ d ∧ d ≤ LN a ∧ a.length = b.length ∧ a.take d.toNat = b.take d.toNat →
 a.length ≤ 9223372036854775807 →
 (decide (d < LN a) = true →
 (0 ≤ d ∧ d < LN a) ∧ (∀ (e : Sect), a[d.toNat]? = some e →
 Ok (Ty.st SN.sect) e →
 (0 ≤ d ∧ d < LN b) ∧ (∀ (f : Sect), b[d.toNat]? = some f →
 Ok (Ty.st SN.sect) f →
 (Bool.not (decide (e = f)) = true →
 false = decide (a = b) ∧ True) ∧ (Bool.not (decide (e = f)) = false →
 i64 (d + 1) ∧ (∃ (g : Int), d + 1 = g ∧ a = a ∧ b = b ∧ (0 ≤ g ∧ g ≤ LN a ∧ a.length = b.length ∧ a.take g.toNat = b.take g.toNat) ∧ a.length - g.toNat < a.length - d.toNat))))) ∧ (decide (d < LN a) = false →
 true = decide (a = b) ∧ True)))) := by kernel_rfl
theorem det_laws_eqSectionS : C_laws_eqSectionS.det = true → ∀ x, (C_laws_eqSectionS.out x).Det := fun _ _ => Det.vc'
theorem ok_laws_eqSectionS : ConOK Tryz.prog 55 C_laws_eqSectionS := by
 refine con_q (l := L_laws_eqSectionS) ⟨⟨ok_laws_eqSection, det_laws_eqSection⟩, trivial⟩ Tryz.func55 rfl (by decide) (by kernel_rfl) rfl an_laws_eqSectionS fun x ho hx => ?_
 obtain ⟨a, b, ⟨⟩⟩ := x
 refine Keeps.of (vc_laws_eqSectionS a b) ?_
 revert a b ho hx
 show ∀ (a : List (Sect)) (b : List (Sect)), _
 intro a b ho hx
 dsimp only [C_laws_eqSectionS, okPTL, okPT, Ok, Ty.cells, SN.cells, OkL, OkC, okI, ci, cb, cs, cl] at ho
 dsimp only [C_laws_eqSectionS, vc, v1, decB, SR.pre] at hx
 (try delta i64 LN); simp only [VBt]; (repeat' first | intro _ | apply And.intro); all_goals (try omega); all_goals first | grind [take_all', take_next, take_diff] | exact take_next2 (by omega) (by assumption) (by assumption) (by assumption) (by assumption) | exact take_diff2 (by assumption) (by assumption) (by assumption)
def C_laws_markSectionS : Con := { ps := [.row none (.st .sect), .ro .i], out := fun x => let a : List (Sect) := x.1; let k : Int := x.2.1; .req (0 ≤ k ∧ k + sumI cSe a ≤ 1000000000000) (turnL (.st .sect) (mkL mkSe cSe a k) (k + sumI cSe a)), det := true }
abbrev L_laws_markSectionS : List (Nat × Con) := [(96, C_laws_markText), (97, C_laws_markByteS), (98, C_laws_markFixupS)]
def G_laws_markSectionS : Cfg := GK L_laws_markSectionS
def an_laws_markSectionS : PTL C_laws_markSectionS.ps → Nat → Option Ann := fun x kk_ => let a : List (Sect) := x.1; let k : Int := x.2.1; if kk_ = 2 then some (.all (Int) fun i => .giv (0 ≤ i ∧ i ≤ a.length) (.mk [(5, ai i), (1, ai (k + sumI cSe (a.take i.toNat))), (0, asl 0)] [(0, .row none (.st .sect) (mkd mkSe cSe a k i.toNat) true)] ((a.length - i.toNat)))) else none
theorem vc_laws_markSectionS (a : List (Sect)) (k : Int) : (KP Tryz.f57 G_laws_markSectionS C_laws_markSectionS an_laws_markSectionS (a, k, ())) = ((∃ (b : Int), 0 = b ∧ k = k + @sumI Sect cSe (a.take b.toNat) ∧ a = @mkd Sect mkSe cSe a k b.toNat ∧ (0 ≤ b ∧ b ≤ LN a) ∧ True) ∧ (∀ (c : Int), 0 ≤ c ∧ c ≤ LN a →
 (@mkd Sect mkSe cSe a k c.toNat).length ≤ 9223372036854775807 →
 (decide (c < LN (@mkd Sect mkSe cSe a k c.toNat)) = true →
 (0 ≤ k + @sumI Sect cSe (a.take c.toNat) ∧ k + @sumI Sect cSe (a.take c.toNat) ≤ 1000000000000) ∧ (0 ≤ c ∧ c < LN (@mkd Sect mkSe cSe a k c.toNat)) ∧ (∀ (d : Sect), (@mkd Sect mkSe cSe a k c.toNat)[c.toNat]? = some d →
 i64 (k + @sumI Sect cSe (a.take c.toNat) + 1) ∧ (0 ≤ c ∧ c < LN ((@mkd Sect mkSe cSe a k c.toNat).set c.toNat (Sect.mk (markT (k + @sumI Sect cSe (a.take c.toNat))) d.kind d.align d.bytes d.size d.fixups))) ∧ (∀ (e : Sect), ((@mkd Sect mkSe cSe a k c.toNat).set c.toNat (Sect.mk (markT (k + @sumI Sect cSe (a.take c.toNat))) d.kind d.align d.bytes d.size d.fixups))[c.toNat]? = some e →
 i64 (k + @sumI Sect cSe (a.take c.toNat) + 1 + 1) ∧ (0 ≤ c ∧ c < LN (((@mkd Sect mkSe cSe a k c.toNat).set c.toNat (Sect.mk (markT (k + @sumI Sect cSe (a.take c.toNat))) d.kind d.align d.bytes d.size d.fixups)).set c.toNat (Sect.mk e.name (k + @sumI Sect cSe (a.take c.toNat) + 1) e.align e.bytes e.size e.fixups))) ∧ (∀ (f : Sect), (((@mkd Sect mkSe cSe a k c.toNat).set c.toNat (Sect.mk (markT (k + @sumI Sect cSe (a.take c.toNat))) d.kind d.align d.bytes d.size d.fixups)).set c.toNat (Sect.mk e.name (k + @sumI Sect cSe (a.take c.toNat) + 1) e.align e.bytes e.size e.fixups))[c.toNat]? = some f →
 i64 (k + @sumI Sect cSe (a.take c.toNat) + 1 + 1 + 1) ∧ (0 ≤ c ∧ c < LN ((((@mkd Sect mkSe cSe a k c.toNat).set c.toNat (Sect.mk (markT (k + @sumI Sect cSe (a.take c.toNat))) d.kind d.align d.bytes d.size d.fixups)).set c.toNat (Sect.mk e.name (k + @sumI Sect cSe (a.take c.toNat) + 1) e.align e.bytes e.size e.fixups)).set c.toNat (Sect.mk f.name f.kind (k + @sumI Sect cSe (a.take c.toNat) + 1 + 1) f.bytes f.size f.fixups))) ∧ (∀ (g : Sect), ((((@mkd Sect mkSe cSe a k c.toNat).set c.toNat (Sect.mk (markT (k + @sumI Sect cSe (a.take c.toNat))) d.kind d.align d.bytes d.size d.fixups)).set c.toNat (Sect.mk e.name (k + @sumI Sect cSe (a.take c.toNat) + 1) e.align e.bytes e.size e.fixups)).set c.toNat (Sect.mk f.name f.kind (k + @sumI Sect cSe (a.take c.toNat) + 1 + 1) f.bytes f.size f.fixups))[c.toNat]? = some g →
 Ok (Ty.st SN.sect) g →
 (∀ (h : Sect), ((((@mkd Sect mkSe cSe a k c.toNat).set c.toNat (Sect.mk (markT (k + @sumI Sect cSe (a.take c.toNat))) d.kind d.align d.bytes d.size d.fixups)).set c.toNat (Sect.mk e.name (k + @sumI Sect cSe (a.take c.toNat) + 1) e.align e.bytes e.size e.fixups)).set c.toNat (Sect.mk f.name f.kind (k + @sumI Sect cSe (a.take c.toNat) + 1 + 1) f.bytes f.size f.fixups))[c.toNat]? = some h →
 (0 ≤ k + @sumI Sect cSe (a.take c.toNat) + 1 + 1 + 1 ∧ k + @sumI Sect cSe (a.take c.toNat) + 1 + 1 + 1 + @sumI Int (@cOne Int) h.bytes ≤ 1000000000000) ∧ (0 ≤ c ∧ c < LN (((((@mkd Sect mkSe cSe a k c.toNat).set c.toNat (Sect.mk (markT (k + @sumI Sect cSe (a.take c.toNat))) d.kind d.align d.bytes d.size d.fixups)).set c.toNat (Sect.mk e.name (k + @sumI Sect cSe (a.take c.toNat) + 1) e.align e.bytes e.size e.fixups)).set c.toNat (Sect.mk f.name f.kind (k + @sumI Sect cSe (a.take c.toNat) + 1 + 1) f.bytes f.size f.fixups)).set c.toNat (Sect.mk h.name h.kind h.align (@mkL Int mkU (@cOne Int) h.bytes (k + @sumI Sect cSe (a.take c.toNat) + 1 + 1 + 1)) h.size h.fixups))) ∧ (∀ (i : Sect), (((((@mkd Sect mkSe cSe a k c.toNat).set c.toNat (Sect.mk (markT (k + @sumI Sect cSe (a.take c.toNat))) d.kind d.align d.bytes d.size d.fixups)).set c.toNat (Sect.mk e.name (k + @sumI Sect cSe (a.take c.toNat) + 1) e.align e.bytes e.size e.fixups)).set c.toNat (Sect.mk f.name f.kind (k + @sumI Sect cSe (a.take c.toNat) + 1 + 1) f.bytes f.size f.fixups)).set c.toNat (Sect.mk h.name h.kind h.align (@mkL Int mkU (@cOne Int) h.bytes (k + @sumI Sect cSe (a.take c.toNat) + 1 + 1 + 1)) h.size h.fixups))[c.toNat]? = some i →
 i64 (k + @sumI Sect cSe (a.take c.toNat) + 1 + 1 + 1 + @sumI Int (@cOne Int) h.bytes + 1) ∧ (0 ≤ c ∧ c < LN ((((((@mkd Sect mkSe cSe a k c.toNat).set c.toNat (Sect.mk (markT (k + @sumI Sect cSe (a.take c.toNat))) d.kind d.align d.bytes d.size d.fixups)).set c.toNat (Sect.mk e.name (k + @sumI Sect cSe (a.take c.toNat) + 1) e.align e.bytes e.size e.fixups)).set c.toNat (Sect.mk f.name f.kind (k + @sumI Sect cSe (a.take c.toNat) + 1 + 1) f.bytes f.size f.fixups)).set c.toNat (Sect.mk h.name h.kind h.align (@mkL Int mkU (@cOne Int) h.bytes (k + @sumI Sect cSe (a.take c.toNat) + 1 + 1 + 1)) h.size h.fixups)).set c.toNat (Sect.mk i.name i.kind i.align i.bytes (k + @sumI Sect cSe (a.take c.toNat) + 1 + 1 + 1 + @sumI Int (@cOne Int) h.bytes) i.fixups))) ∧ (∀ (j : Sect), ((((((@mkd Sect mkSe cSe a k c.toNat).set c.toNat (Sect.mk (markT (k + @sumI Sect cSe (a.take c.toNat))) d.kind d.align d.bytes d.size d.fixups)).set c.toNat (Sect.mk e.name (k + @sumI Sect cSe (a.take c.toNat) + 1) e.align e.bytes e.size e.fixups)).set c.toNat (Sect.mk f.name f.kind (k + @sumI Sect cSe (a.take c.toNat) + 1 + 1) f.bytes f.size f.fixups)).set c.toNat (Sect.mk h.name h.kind h.align (@mkL Int mkU (@cOne Int) h.bytes (k + @sumI Sect cSe (a.take c.toNat) + 1 + 1 + 1)) h.size h.fixups)).set c.toNat (Sect.mk i.name i.kind i.align i.bytes (k + @sumI Sect cSe (a.take c.toNat) + 1 + 1 + 1 + @sumI Int (@cOne Int) h.bytes) i.fixups))[c.toNat]? = some j →
 Ok (Ty.st SN.sect) j →
 (∀ (l : Sect), ((((((@mkd Sect mkSe cSe a k c.toNat).set c.toNat (Sect.mk (markT (k + @sumI Sect cSe (a.take c.toNat))) d.kind d.align d.bytes d.size d.fixups)).set c.toNat (Sect.mk e.name (k + @sumI Sect cSe (a.take c.toNat) + 1) e.align e.bytes e.size e.fixups)).set c.toNat (Sect.mk f.name f.kind (k + @sumI Sect cSe (a.take c.toNat) + 1 + 1) f.bytes f.size f.fixups)).set c.toNat (Sect.mk h.name h.kind h.align (@mkL Int mkU (@cOne Int) h.bytes (k + @sumI Sect cSe (a.take c.toNat) + 1 + 1 + 1)) h.size h.fixups)).set c.toNat (Sect.mk i.name i.kind i.align i.bytes (k + @sumI Sect cSe (a.take c.toNat) + 1 + 1 + 1 + @sumI Int (@cOne Int) h.bytes) i.fixups))[c.toNat]? = some l →
 (0 ≤ k + @sumI Sect cSe (a.take c.toNat) + 1 + 1 + 1 + @sumI Int (@cOne Int) h.bytes + 1 ∧ k + @sumI Sect cSe (a.take c.toNat) + 1 + 1 + 1 + @sumI Int (@cOne Int) h.bytes + 1 + @sumI Fixup (@c4 Fixup) l.fixups ≤ 1000000000000) ∧ i64 (c + 1) ∧ (∃ (m : Int), c + 1 = m ∧ k + @sumI Sect cSe (a.take c.toNat) + 1 + 1 + 1 + @sumI Int (@cOne Int) h.bytes + 1 + @sumI Fixup (@c4 Fixup) l.fixups = k + @sumI Sect cSe (a.take m.toNat) ∧ ((((((@mkd Sect mkSe cSe a k c.toNat).set c.toNat (Sect.mk (markT (k + @sumI Sect cSe (a.take c.toNat))) d.kind d.align d.bytes d.size d.fixups)).set c.toNat (Sect.mk e.name (k + @sumI Sect cSe (a.take c.toNat) + 1) e.align e.bytes e.size e.fixups)).set c.toNat (Sect.mk f.name f.kind (k + @sumI Sect cSe (a.take c.toNat) + 1 + 1) f.bytes f.size f.fixups)).set c.toNat (Sect.mk h.name h.kind h.align (@mkL Int mkU (@cOne Int) h.bytes (k + @sumI Sect cSe (a.take c.toNat) + 1 + 1 + 1)) h.size h.fixups)).set c.toNat (Sect.mk i.name i.kind i.align i.bytes (k + @sumI Sect cSe (a.take c.toNat) + 1 + 1 + 1 + @sumI Int (@cOne Int) h.bytes) i.fixups)).set c.toNat (Sect.mk l.name l.kind l.align l.bytes l.size (@mkL Fixup mkFx (@c4 Fixup) l.fixups (k + @sumI Sect cSe (a.take c.toNat) + 1 + 1 + 1 + @sumI Int (@cOne Int) h.bytes + 1))) = @mkd Sect mkSe cSe a k m.toNat ∧ (0 ≤ m ∧ m ≤ LN a) ∧ a.length - m.toNat < a.length - c.toNat)))))))))) ∧ (decide (c < LN (@mkd Sect mkSe cSe a k c.toNat)) = false →
 k + @sumI Sect cSe (a.take c.toNat) = k + @sumI Sect cSe a ∧ @mkd Sect mkSe cSe a k c.toNat = @mkL Sect mkSe cSe a k ∧ True))) := by kernel_rfl
theorem det_laws_markSectionS : C_laws_markSectionS.det = true → ∀ x, (C_laws_markSectionS.out x).Det := fun _ x => by simp only [C_laws_markSectionS]; repeat (first | exact Det.ret _ | exact Det.vc' | apply Det.req)
theorem ok_laws_markSectionS : ConOK Tryz.prog 57 C_laws_markSectionS := by
 refine con_q (l := L_laws_markSectionS) ⟨⟨ok_laws_markText, det_laws_markText⟩, ⟨⟨ok_laws_markByteS, det_laws_markByteS⟩, ⟨⟨ok_laws_markFixupS, det_laws_markFixupS⟩, trivial⟩⟩⟩ Tryz.func57 rfl (by decide) (by kernel_rfl) rfl an_laws_markSectionS fun x ho hx => ?_
 obtain ⟨a, k, ⟨⟩⟩ := x
 refine Keeps.of (vc_laws_markSectionS a k) ?_
 revert a k ho hx
 show ∀ (a : List (Sect)) (k : Int), _
 intro a k ho hx
 dsimp only [C_laws_markSectionS, okPTL, okPT, Ok, Ty.cells, SN.cells, OkL, OkC, okI, ci, cb, cs, cl] at ho
 dsimp only [C_laws_markSectionS, vc, v1, decB, SR.pre] at hx
 have cn : ∀ x : Sect, 0 ≤ cSe x := cSe_nn
 have cl := sumI_le cn a
 have cs := sumI_nn cn
 have cb := fun i x => sumI_tk cn (l := a) (i := i) (x := x)
 have g1 := @cOne_ge Int
 have g2 := @c4_ge Fixup
 have g3 := @c4_ge Sym
 have g4 := cSe_ge
 (try delta i64 LN); simp only [VBt]; (repeat' first | intro _ | apply And.intro); all_goals (try omega); all_goals first | (simp only [List.length_take, List.length_replicate, mkd_len, List.length_set, List.length_append]; omega) | exact mkd_full' (by omega) | exact (mkd_zero _ _).symm | exact mkd_set' (by assumption) (by omega) (by subst_vars; simp [mkRg, mkFx, mkSy, mkPa, mkSe, mkMb, mkOb, mkIL, Int.add_assoc]) | (try grind [mkd_len, mkd_get, mkd_zero, sumI_next, sumI_all, cOne, c4, cPa, cSe, cOb, cMb, cIL, sumI])
def C_laws_heldSectionS : Con := { ps := [.ro (.list (.st .sect)), .ro .i], out := fun x => let a : List (Sect) := x.1; let k : Int := x.2.1; .req (0 ≤ k ∧ k + sumI cSe a ≤ 1000000000000) (vc .i (hdL hSe a k)), det := true }
abbrev L_laws_heldSectionS : List (Nat × Con) := [(96, C_laws_markText), (99, C_laws_heldByteS), (100, C_laws_heldFixupS)]
def G_laws_heldSectionS : Cfg := GK L_laws_heldSectionS
def an_laws_heldSectionS : PTL C_laws_heldSectionS.ps → Nat → Option Ann := fun x kk_ => let a : List (Sect) := x.1; let k : Int := x.2.1; if kk_ = 2 then some (.all (Int) fun i => .all (Int) fun m => .giv (0 ≤ i ∧ i ≤ a.length ∧ 0 ≤ m ∧ m + sumI cSe (a.drop i.toNat) ≤ 1000000000000 ∧ hdL hSe a k = hdL hSe (a.drop i.toNat) m) (.mk [(5, ai i), (1, ai m), (0, al (.st .sect) a)] [] ((a.length - i.toNat)))) else none
theorem vc_laws_heldSectionS (a : List (Sect)) (k : Int) : (KP Tryz.f59 G_laws_heldSectionS C_laws_heldSectionS an_laws_heldSectionS (a, k, ())) = ((∃ (b : Int), (∃ (c : Int), 0 = b ∧ k = c ∧ a = a ∧ (0 ≤ b ∧ b ≤ LN a ∧ 0 ≤ c ∧ c + @sumI Sect cSe (a.drop b.toNat) ≤ 1000000000000 ∧ @hdL Sect hSe a k = @hdL Sect hSe (a.drop b.toNat) c) ∧ True)) ∧ (∀ (d : Int), (∀ (e : Int), 0 ≤ d ∧ d ≤ LN a ∧ 0 ≤ e ∧ e + @sumI Sect cSe (a.drop d.toNat) ≤ 1000000000000 ∧ @hdL Sect hSe a k = @hdL Sect hSe (a.drop d.toNat) e →
 a.length ≤ 9223372036854775807 →
 (decide (d < LN a) = true →
 (0 ≤ d ∧ d < LN a) ∧ (∀ (f : Sect), a[d.toNat]? = some f →
 Ok (Ty.st SN.sect) f →
 (0 ≤ e ∧ e ≤ 1000000000000) ∧ (decide (f.name ≠ markT e) = true →
 (- (1 : Int)) = @hdL Sect hSe a k ∧ True) ∧ (decide (f.name ≠ markT e) = false →
 i64 (e + 1) ∧ (0 ≤ d ∧ d < LN a) ∧ (∀ (g : Sect), a[d.toNat]? = some g →
 Ok (Ty.st SN.sect) g →
 (decide (g.kind ≠ e + 1) = true →
 (- (1 : Int)) = @hdL Sect hSe a k ∧ True) ∧ (decide (g.kind ≠ e + 1) = false →
 i64 (e + 1 + 1) ∧ (0 ≤ d ∧ d < LN a) ∧ (∀ (h : Sect), a[d.toNat]? = some h →
 Ok (Ty.st SN.sect) h →
 (decide (h.align ≠ e + 1 + 1) = true →
 (- (1 : Int)) = @hdL Sect hSe a k ∧ True) ∧ (decide (h.align ≠ e + 1 + 1) = false →
 i64 (e + 1 + 1 + 1) ∧ (0 ≤ d ∧ d < LN a) ∧ (∀ (i : Sect), a[d.toNat]? = some i →
 Ok (Ty.st SN.sect) i →
 (0 ≤ e + 1 + 1 + 1 ∧ e + 1 + 1 + 1 + @sumI Int (@cOne Int) i.bytes ≤ 1000000000000) ∧ (decide (@hdL Int hU i.bytes (e + 1 + 1 + 1) < 0) = true →
 (- (1 : Int)) = @hdL Sect hSe a k ∧ True) ∧ (decide (@hdL Int hU i.bytes (e + 1 + 1 + 1) < 0) = false →
 (0 ≤ d ∧ d < LN a) ∧ (∀ (j : Sect), a[d.toNat]? = some j →
 Ok (Ty.st SN.sect) j →
 (decide (j.size ≠ @hdL Int hU i.bytes (e + 1 + 1 + 1)) = true →
 (- (1 : Int)) = @hdL Sect hSe a k ∧ True) ∧ (decide (j.size ≠ @hdL Int hU i.bytes (e + 1 + 1 + 1)) = false →
 i64 (@hdL Int hU i.bytes (e + 1 + 1 + 1) + 1) ∧ (0 ≤ d ∧ d < LN a) ∧ (∀ (l : Sect), a[d.toNat]? = some l →
 Ok (Ty.st SN.sect) l →
 (0 ≤ @hdL Int hU i.bytes (e + 1 + 1 + 1) + 1 ∧ @hdL Int hU i.bytes (e + 1 + 1 + 1) + 1 + @sumI Fixup (@c4 Fixup) l.fixups ≤ 1000000000000) ∧ (decide (@hdL Fixup hFx l.fixups (@hdL Int hU i.bytes (e + 1 + 1 + 1) + 1) < 0) = true →
 (- (1 : Int)) = @hdL Sect hSe a k ∧ True) ∧ (decide (@hdL Fixup hFx l.fixups (@hdL Int hU i.bytes (e + 1 + 1 + 1) + 1) < 0) = false →
 i64 (d + 1) ∧ (∃ (m : Int), (∃ (n : Int), d + 1 = m ∧ @hdL Fixup hFx l.fixups (@hdL Int hU i.bytes (e + 1 + 1 + 1) + 1) = n ∧ a = a ∧ (0 ≤ m ∧ m ≤ LN a ∧ 0 ≤ n ∧ n + @sumI Sect cSe (a.drop m.toNat) ≤ 1000000000000 ∧ @hdL Sect hSe a k = @hdL Sect hSe (a.drop m.toNat) n) ∧ a.length - m.toNat < a.length - d.toNat))))))))))))))) ∧ (decide (d < LN a) = false →
 e = @hdL Sect hSe a k ∧ True)))) := by kernel_rfl
theorem det_laws_heldSectionS : C_laws_heldSectionS.det = true → ∀ x, (C_laws_heldSectionS.out x).Det := fun _ x => by simp only [C_laws_heldSectionS]; repeat (first | exact Det.ret _ | exact Det.vc' | apply Det.req)
theorem ok_laws_heldSectionS : ConOK Tryz.prog 59 C_laws_heldSectionS := by
 refine con_q (l := L_laws_heldSectionS) ⟨⟨ok_laws_markText, det_laws_markText⟩, ⟨⟨ok_laws_heldByteS, det_laws_heldByteS⟩, ⟨⟨ok_laws_heldFixupS, det_laws_heldFixupS⟩, trivial⟩⟩⟩ Tryz.func59 rfl (by decide) (by kernel_rfl) rfl an_laws_heldSectionS fun x ho hx => ?_
 obtain ⟨a, k, ⟨⟩⟩ := x
 refine Keeps.of (vc_laws_heldSectionS a k) ?_
 revert a k ho hx
 show ∀ (a : List (Sect)) (k : Int), _
 intro a k ho hx
 dsimp only [C_laws_heldSectionS, okPTL, okPT, Ok, Ty.cells, SN.cells, OkL, OkC, okI, ci, cb, cs, cl] at ho
 dsimp only [C_laws_heldSectionS, vc, v1, decB, SR.pre] at hx
 have cn : ∀ x : Sect, 0 ≤ cSe x := cSe_nn
 have cs := sumI_nn cn
 have hu := hdU_or; have hg := cOne_ge (α := Int); have hf := hdFx_or; have hh := c4_ge (α := Fixup)
 (try delta i64 LN); simp +contextual only [VBt]; (repeat' first | intro _ | apply And.intro); all_goals (try omega); all_goals first | (simp only [List.length_take, List.length_replicate, mkd_len, List.length_set, List.length_append]; omega) | (try grind [hdL_drop, sumI_drop, drop_end, hdL, sumI, cOne, c4, cPa, cSe, cOb, cMb, cIL, hRg, hFx, hSy, hPa, hSe, hOb, hMb, hIL])
def C_laws_toSymbol : Con := { ps := [.ro (.st .sym)], out := fun x => let a : Sym := x.1; newS .sym a, det := true }
abbrev L_laws_toSymbol : List (Nat × Con) := []
def G_laws_toSymbol : Cfg := GK L_laws_toSymbol
def an_laws_toSymbol : PTL C_laws_toSymbol.ps → Nat → Option Ann := fun _ _ => none
theorem vc_laws_toSymbol (a : Sym) : (KP Tryz.f117 G_laws_toSymbol C_laws_toSymbol an_laws_toSymbol (a, ())) = (a.name = a.name ∧ a.bind = a.bind ∧ a.wher = a.wher ∧ a.value = a.value ∧ True) := by kernel_rfl
theorem det_laws_toSymbol : C_laws_toSymbol.det = true → ∀ x, (C_laws_toSymbol.out x).Det := fun _ _ => Det.ret _
theorem ok_laws_toSymbol : ConOK Tryz.prog 117 C_laws_toSymbol := by
 refine con_q (l := L_laws_toSymbol) trivial Tryz.func117 rfl (by decide) (by kernel_rfl) rfl an_laws_toSymbol fun x ho hx => ?_
 obtain ⟨a, ⟨⟩⟩ := x
 refine Keeps.of (vc_laws_toSymbol a) ?_
 revert a ho hx
 show ∀ (a : Sym), _
 intro a ho hx
 dsimp only [C_laws_toSymbol, okPTL, okPT, Ok, Ty.cells, SN.cells, OkL, OkC, okI, ci, cb, cs, cl] at ho
 dsimp only [C_laws_toSymbol, vc, v1, decB, SR.pre] at hx
 (try delta i64 LN); simp only [VBt]; (repeat' first | intro _ | apply And.intro); all_goals (try omega); all_goals (try grind [szIm, szMe, szHa, szPa, szSe, szSy, szOb, szMb])
def C_laws_szSymbol : Con := { ps := [.ro (.st .sym), .ro .i], out := fun x => let a : Sym := x.1; let left : Int := x.2.1; .req (0 ≤ left ∧ left ≤ 1048576) (vc .i (szR (szSy a) left)), det := true }
abbrev L_laws_szSymbol : List (Nat × Con) := []
def G_laws_szSymbol : Cfg := GK L_laws_szSymbol
def an_laws_szSymbol : PTL C_laws_szSymbol.ps → Nat → Option Ann := fun _ _ => none
theorem vc_laws_szSymbol (a : Sym) (left : Int) : (KP Tryz.f115 G_laws_szSymbol C_laws_szSymbol an_laws_szSymbol (a, left, ())) = (ByteArray.size a.name ≤ 9223372036854775807 →
 i64 (left - @Nat.cast Int _ (ByteArray.size a.name)) ∧ (decide (left - @Nat.cast Int _ (ByteArray.size a.name) < 0) = true →
 (- (1 : Int)) = szR (szSy a) left ∧ True) ∧ (decide (left - @Nat.cast Int _ (ByteArray.size a.name) < 0) = false →
 left - @Nat.cast Int _ (ByteArray.size a.name) = szR (szSy a) left ∧ True)) := by kernel_rfl
theorem det_laws_szSymbol : C_laws_szSymbol.det = true → ∀ x, (C_laws_szSymbol.out x).Det := fun _ x => by simp only [C_laws_szSymbol]; repeat (first | exact Det.ret _ | exact Det.vc' | apply Det.req)
theorem ok_laws_szSymbol : ConOK Tryz.prog 115 C_laws_szSymbol := by
 refine con_q (l := L_laws_szSymbol) trivial Tryz.func115 rfl (by decide) (by kernel_rfl) rfl an_laws_szSymbol fun x ho hx => ?_
 obtain ⟨a, left, ⟨⟩⟩ := x
 refine Keeps.of (vc_laws_szSymbol a left) ?_
 revert a left ho hx
 show ∀ (a : Sym) (left : Int), _
 intro a left ho hx
 dsimp only [C_laws_szSymbol, okPTL, okPT, Ok, Ty.cells, SN.cells, OkL, OkC, okI, ci, cb, cs, cl] at ho
 dsimp only [C_laws_szSymbol, vc, v1, decB, SR.pre] at hx
 (try delta i64 LN); simp only [VBt]; (repeat' first | intro _ | apply And.intro); all_goals (try omega); all_goals (try grind [szR, szIm, szMe, szHa, szPa, szSe, szSy, szOb, szMb])
def C_laws_eqSymbol : Con := { ps := [.ro (.st .sym), .ro (.st .sym)], out := fun x => let a : Sym := x.1; let b : Sym := x.2.1; vc .bool (decide (a = b)), det := true }
abbrev L_laws_eqSymbol : List (Nat × Con) := []
def G_laws_eqSymbol : Cfg := GK L_laws_eqSymbol
def an_laws_eqSymbol : PTL C_laws_eqSymbol.ps → Nat → Option Ann := fun _ _ => none
theorem vc_laws_eqSymbol (a : Sym) (b : Sym) : (KP Tryz.f95 G_laws_eqSymbol C_laws_eqSymbol an_laws_eqSymbol (a, b, ())) = ((decide (a.name ≠ b.name) = true →
 false = decide (a = b) ∧ True) ∧ (decide (a.name ≠ b.name) = false →
 (decide (a.bind ≠ b.bind) = true →
 false = decide (a = b) ∧ True) ∧ (decide (a.bind ≠ b.bind) = false →
 (decide (a.wher ≠ b.wher) = true →
 false = decide (a = b) ∧ True) ∧ (decide (a.wher ≠ b.wher) = false →
 (decide (a.value ≠ b.value) = true →
 false = decide (a = b) ∧ True) ∧ (decide (a.value ≠ b.value) = false →
 true = decide (a = b) ∧ True))))) := by kernel_rfl
theorem det_laws_eqSymbol : C_laws_eqSymbol.det = true → ∀ x, (C_laws_eqSymbol.out x).Det := fun _ _ => Det.vc'
theorem ok_laws_eqSymbol : ConOK Tryz.prog 95 C_laws_eqSymbol := by
 refine con_q (l := L_laws_eqSymbol) trivial Tryz.func95 rfl (by decide) (by kernel_rfl) rfl an_laws_eqSymbol fun x ho hx => ?_
 obtain ⟨a, b, ⟨⟩⟩ := x
 refine Keeps.of (vc_laws_eqSymbol a b) ?_
 revert a b ho hx
 show ∀ (a : Sym) (b : Sym), _
 intro a b ho hx
 dsimp only [C_laws_eqSymbol, okPTL, okPT, Ok, Ty.cells, SN.cells, OkL, OkC, okI, ci, cb, cs, cl] at ho
 dsimp only [C_laws_eqSymbol, vc, v1, decB, SR.pre] at hx
 (try delta i64 LN); simp only [VBt]; (repeat' first | intro _ | apply And.intro); all_goals (try omega); all_goals (first | grind [cases Img] | (cases a; cases b; simp_all; done) | (obtain ⟨⟨_, _⟩, _⟩ := a; obtain ⟨⟨_, _⟩, _⟩ := b; simp_all; done) | (obtain ⟨_, _, _⟩ := a; obtain ⟨_, _, _⟩ := b; simp_all; done) | (obtain ⟨_, ⟨_, _⟩⟩ := a; obtain ⟨_, ⟨_, _⟩⟩ := b; simp_all; done) | skip)
def C_laws_toSymbolS : Con := { ps := [.ro (.list (.st .sym))], out := fun x => let a : List (Sym) := x.1; .req ((a.length + sumI szSy a : Int) ≤ 1048576) (newL (.st .sym) a), det := true }
abbrev L_laws_toSymbolS : List (Nat × Con) := [(117, C_laws_toSymbol)]
def G_laws_toSymbolS : Cfg := GK L_laws_toSymbolS
def an_laws_toSymbolS : PTL C_laws_toSymbolS.ps → Nat → Option Ann := fun x kk_ => let a : List (Sym) := x.1; if kk_ = 3 then some (.all (Int) fun i => .giv (0 ≤ i ∧ i ≤ a.length) (.mk [(4, ai i), (3, asl 20), (0, al (.st .sym) a)] [(20, .row (some 64) (.st .sym) (a.take i.toNat ++ List.replicate (a.length - i.toNat) (⟨⟨⟨[]⟩⟩, 0, 0, 0⟩ : Sym)) true)] ((a.length - i.toNat)))) else none
theorem vc_laws_toSymbolS (a : List (Sym)) : (KP Tryz.f93 G_laws_toSymbolS C_laws_toSymbolS an_laws_toSymbolS (a, ())) = (a.length ≤ 9223372036854775807 →
 (LN a = LN a ∧ 0 ≤ LN a ∧ LN a ≤ 1000000000000 ∧ @Nat.cast Int _ (40 : Nat) * LN a ≤ 140737488355328) ∧ (∃ (b : Int), 0 = b ∧ a = a ∧ @repl Sym (LN a) (Sym.mk (ByteArray.mk (@Array.mk UInt8 ([] : List UInt8))) 0 0 0) = a.take b.toNat ++ @List.replicate Sym (a.length - b.toNat) (Sym.mk (ByteArray.mk (@Array.mk UInt8 ([] : List UInt8))) 0 0 0) ∧ (0 ≤ b ∧ b ≤ LN a) ∧ True) ∧ (∀ (c : Int), 0 ≤ c ∧ c ≤ LN a →
 a.length ≤ 9223372036854775807 →
 (decide (c < LN a) = true →
 (0 ≤ c ∧ c < LN a) ∧ (∀ (d : Sym), a[c.toNat]? = some d →
 Ok (Ty.st SN.sym) d →
 (0 ≤ c ∧ c < LN (a.take c.toNat ++ @List.replicate Sym (a.length - c.toNat) (Sym.mk (ByteArray.mk (@Array.mk UInt8 ([] : List UInt8))) 0 0 0))) ∧ (∀ (e : Sym), (a.take c.toNat ++ @List.replicate Sym (a.length - c.toNat) (Sym.mk (ByteArray.mk (@Array.mk UInt8 ([] : List UInt8))) 0 0 0))[c.toNat]? = some e →
 i64 (c + 1) ∧ (∃ (f : Int), c + 1 = f ∧ a = a ∧ (a.take c.toNat ++ @List.replicate Sym (a.length - c.toNat) (Sym.mk (ByteArray.mk (@Array.mk UInt8 ([] : List UInt8))) 0 0 0)).set c.toNat d = a.take f.toNat ++ @List.replicate Sym (a.length - f.toNat) (Sym.mk (ByteArray.mk (@Array.mk UInt8 ([] : List UInt8))) 0 0 0) ∧ (0 ≤ f ∧ f ≤ LN a) ∧ a.length - f.toNat < a.length - c.toNat)))) ∧ (decide (c < LN a) = false →
 a.take c.toNat ++ @List.replicate Sym (a.length - c.toNat) (Sym.mk (ByteArray.mk (@Array.mk UInt8 ([] : List UInt8))) 0 0 0) = a ∧ True))) := by kernel_rfl
theorem det_laws_toSymbolS : C_laws_toSymbolS.det = true → ∀ x, (C_laws_toSymbolS.out x).Det := fun _ x => by simp only [C_laws_toSymbolS]; repeat (first | exact Det.ret _ | exact Det.vc' | apply Det.req)
theorem ok_laws_toSymbolS : ConOK Tryz.prog 93 C_laws_toSymbolS := by
 refine con_q (l := L_laws_toSymbolS) ⟨⟨ok_laws_toSymbol, det_laws_toSymbol⟩, trivial⟩ Tryz.func93 rfl (by decide) (by kernel_rfl) rfl an_laws_toSymbolS fun x ho hx => ?_
 obtain ⟨a, ⟨⟩⟩ := x
 refine Keeps.of (vc_laws_toSymbolS a) ?_
 revert a ho hx
 show ∀ (a : List (Sym)), _
 intro a ho hx
 dsimp only [C_laws_toSymbolS, okPTL, okPT, Ok, Ty.cells, SN.cells, OkL, OkC, okI, ci, cb, cs, cl] at ho
 dsimp only [C_laws_toSymbolS, vc, v1, decB, SR.pre] at hx
 have cs := sumI_nn (f := szSy) szSy_nn a
 have ca := fun k x => sumI_at (f := szSy) szSy_nn (l := a) (k := k) (x := x)
 (try delta i64 LN); simp only [VBt]; (repeat' first | intro _ | apply And.intro); all_goals (try omega); all_goals first | exact repl_fill | exact set_fill' ‹_› (by omega) | exact fill_full' (by omega) | (simp only [List.length_take, List.length_replicate, mkd_len, List.length_set, List.length_append]; omega) | (try grind [sumI_at, szPa, szSe, szOb, szSy, szMb])
def C_laws_szSymbolS : Con := { ps := [.ro (.list (.st .sym)), .ro .i], out := fun x => let a : List (Sym) := x.1; let left : Int := x.2.1; .req (0 ≤ left ∧ left ≤ 1048576) (vc .i (szR (a.length + sumI szSy a : Int) left)), det := true }
abbrev L_laws_szSymbolS : List (Nat × Con) := [(115, C_laws_szSymbol)]
def G_laws_szSymbolS : Cfg := GK L_laws_szSymbolS
def an_laws_szSymbolS : PTL C_laws_szSymbolS.ps → Nat → Option Ann := fun x kk_ => let a : List (Sym) := x.1; let left : Int := x.2.1; if kk_ = 5 then some (.all (Int) fun i => .all (Int) fun m => .giv (0 ≤ i ∧ i ≤ a.length ∧ 0 ≤ m ∧ m ≤ left ∧ szR (a.length + sumI szSy a : Int) left = szR (sumI szSy (a.drop i.toNat)) m) (.mk [(5, ai i), (1, ai m), (0, al (.st .sym) a)] [] ((a.length - i.toNat)))) else none
theorem vc_laws_szSymbolS (a : List (Sym)) (left : Int) : (KP Tryz.f91 G_laws_szSymbolS C_laws_szSymbolS an_laws_szSymbolS (a, left, ())) = (a.length ≤ 9223372036854775807 →
 i64 (left - LN a) ∧ (decide (left - LN a < 0) = true →
 (- (1 : Int)) = szR (LN a + @sumI Sym szSy a) left ∧ True) ∧ (decide (left - LN a < 0) = false →
 (∃ (b : Int), (∃ (c : Int), 0 = b ∧ left - LN a = c ∧ a = a ∧ (0 ≤ b ∧ b ≤ LN a ∧ 0 ≤ c ∧ c ≤ left ∧ szR (LN a + @sumI Sym szSy a) left = szR (@sumI Sym szSy (a.drop b.toNat)) c) ∧ True)) ∧ (∀ (d : Int), (∀ (e : Int), 0 ≤ d ∧ d ≤ LN a ∧ 0 ≤ e ∧ e ≤ left ∧ szR (LN a + @sumI Sym szSy a) left = szR (@sumI Sym szSy (a.drop d.toNat)) e →
 a.length ≤ 9223372036854775807 →
 (decide (d < LN a) = true →
 (0 ≤ d ∧ d < LN a) ∧ (∀ (f : Sym), a[d.toNat]? = some f →
 Ok (Ty.st SN.sym) f →
 (0 ≤ e ∧ e ≤ 1048576) ∧ (decide (szR (szSy f) e < 0) = true →
 (- (1 : Int)) = szR (LN a + @sumI Sym szSy a) left ∧ True) ∧ (decide (szR (szSy f) e < 0) = false →
 i64 (d + 1) ∧ (∃ (g : Int), (∃ (h : Int), d + 1 = g ∧ szR (szSy f) e = h ∧ a = a ∧ (0 ≤ g ∧ g ≤ LN a ∧ 0 ≤ h ∧ h ≤ left ∧ szR (LN a + @sumI Sym szSy a) left = szR (@sumI Sym szSy (a.drop g.toNat)) h) ∧ a.length - g.toNat < a.length - d.toNat))))) ∧ (decide (d < LN a) = false →
 e = szR (LN a + @sumI Sym szSy a) left ∧ True))))) := by kernel_rfl
theorem det_laws_szSymbolS : C_laws_szSymbolS.det = true → ∀ x, (C_laws_szSymbolS.out x).Det := fun _ x => by simp only [C_laws_szSymbolS]; repeat (first | exact Det.ret _ | exact Det.vc' | apply Det.req)
theorem ok_laws_szSymbolS : ConOK Tryz.prog 91 C_laws_szSymbolS := by
 refine con_q (l := L_laws_szSymbolS) ⟨⟨ok_laws_szSymbol, det_laws_szSymbol⟩, trivial⟩ Tryz.func91 rfl (by decide) (by kernel_rfl) rfl an_laws_szSymbolS fun x ho hx => ?_
 obtain ⟨a, left, ⟨⟩⟩ := x
 refine Keeps.of (vc_laws_szSymbolS a left) ?_
 revert a left ho hx
 show ∀ (a : List (Sym)) (left : Int), _
 intro a left ho hx
 dsimp only [C_laws_szSymbolS, okPTL, okPT, Ok, Ty.cells, SN.cells, OkL, OkC, okI, ci, cb, cs, cl] at ho
 dsimp only [C_laws_szSymbolS, vc, v1, decB, SR.pre] at hx
 have cs := sumI_nn (f := szSy) szSy_nn
 (try delta i64 LN); simp only [VBt]; (repeat' first | intro _ | apply And.intro); all_goals (try omega); all_goals first | (unfold szR; split <;> omega) | exact szR_le2 (by first | exact szSe_nn _ | exact szSy_nn _ | exact szOb_nn _ | exact szMb_nn _) ‹_› ‹_› | (try grind [szR, sumI_drop, drop_end, sumI])
def C_laws_eqSymbolS : Con := { ps := [.ro (.list (.st .sym)), .ro (.list (.st .sym))], out := fun x => let a : List (Sym) := x.1; let b : List (Sym) := x.2.1; vc .bool (decide (a = b)), det := true }
abbrev L_laws_eqSymbolS : List (Nat × Con) := [(95, C_laws_eqSymbol)]
def G_laws_eqSymbolS : Cfg := GK L_laws_eqSymbolS
def an_laws_eqSymbolS : PTL C_laws_eqSymbolS.ps → Nat → Option Ann := fun x kk_ => let a : List (Sym) := x.1; let b : List (Sym) := x.2.1; if kk_ = 4 then some (.all (Int) fun i => .giv (0 ≤ i ∧ i ≤ a.length ∧ a.length = b.length ∧ a.take i.toNat = b.take i.toNat) (.mk [(5, ai i), (0, al (.st .sym) a), (1, al (.st .sym) b)] [] ((a.length - i.toNat)))) else none
theorem vc_laws_eqSymbolS (a : List (Sym)) (b : List (Sym)) : (KP Tryz.f56 G_laws_eqSymbolS C_laws_eqSymbolS an_laws_eqSymbolS (a, b, ())) = (a.length ≤ 9223372036854775807 →
 b.length ≤ 9223372036854775807 →
 (decide (LN a ≠ LN b) = true →
 false = decide (a = b) ∧ True) ∧ (decide (LN a ≠ LN b) = false →
 (∃ (c : Int), 0 = c ∧ a = a ∧ b = b ∧ (0 ≤ c ∧ c ≤ LN a ∧ a.length = b.length ∧ a.take c.toNat = b.take c.toNat) ∧ True) ∧ (∀ (d : Int), 0 ≤ d ∧ d ≤ LN a ∧ a.length = b.length ∧ a.take d.toNat = b.take d.toNat →
 a.length ≤ 9223372036854775807 →
 (decide (d < LN a) = true →
 (0 ≤ d ∧ d < LN a) ∧ (∀ (e : Sym), a[d.toNat]? = some e →
 Ok (Ty.st SN.sym) e →
 (0 ≤ d ∧ d < LN b) ∧ (∀ (f : Sym), b[d.toNat]? = some f →
 Ok (Ty.st SN.sym) f →
 (Bool.not (decide (e = f)) = true →
 false = decide (a = b) ∧ True) ∧ (Bool.not (decide (e = f)) = false →
 i64 (d + 1) ∧ (∃ (g : Int), d + 1 = g ∧ a = a ∧ b = b ∧ (0 ≤ g ∧ g ≤ LN a ∧ a.length = b.length ∧ a.take g.toNat = b.take g.toNat) ∧ a.length - g.toNat < a.length - d.toNat))))) ∧ (decide (d < LN a) = false →
 true = decide (a = b) ∧ True)))) := by kernel_rfl
theorem det_laws_eqSymbolS : C_laws_eqSymbolS.det = true → ∀ x, (C_laws_eqSymbolS.out x).Det := fun _ _ => Det.vc'
theorem ok_laws_eqSymbolS : ConOK Tryz.prog 56 C_laws_eqSymbolS := by
 refine con_q (l := L_laws_eqSymbolS) ⟨⟨ok_laws_eqSymbol, det_laws_eqSymbol⟩, trivial⟩ Tryz.func56 rfl (by decide) (by kernel_rfl) rfl an_laws_eqSymbolS fun x ho hx => ?_
 obtain ⟨a, b, ⟨⟩⟩ := x
 refine Keeps.of (vc_laws_eqSymbolS a b) ?_
 revert a b ho hx
 show ∀ (a : List (Sym)) (b : List (Sym)), _
 intro a b ho hx
 dsimp only [C_laws_eqSymbolS, okPTL, okPT, Ok, Ty.cells, SN.cells, OkL, OkC, okI, ci, cb, cs, cl] at ho
 dsimp only [C_laws_eqSymbolS, vc, v1, decB, SR.pre] at hx
 (try delta i64 LN); simp only [VBt]; (repeat' first | intro _ | apply And.intro); all_goals (try omega); all_goals first | grind [take_all', take_next, take_diff] | exact take_next2 (by omega) (by assumption) (by assumption) (by assumption) (by assumption) | exact take_diff2 (by assumption) (by assumption) (by assumption)
def C_laws_markSymbolS : Con := { ps := [.row none (.st .sym), .ro .i], out := fun x => let a : List (Sym) := x.1; let k : Int := x.2.1; .req (0 ≤ k ∧ k + sumI c4 a ≤ 1000000000000) (turnL (.st .sym) (mkL mkSy c4 a k) (k + sumI c4 a)), det := true }
abbrev L_laws_markSymbolS : List (Nat × Con) := [(96, C_laws_markText)]
def G_laws_markSymbolS : Cfg := GK L_laws_markSymbolS
def an_laws_markSymbolS : PTL C_laws_markSymbolS.ps → Nat → Option Ann := fun x kk_ => let a : List (Sym) := x.1; let k : Int := x.2.1; if kk_ = 2 then some (.all (Int) fun i => .giv (0 ≤ i ∧ i ≤ a.length) (.mk [(5, ai i), (1, ai (k + sumI c4 (a.take i.toNat))), (0, asl 0)] [(0, .row none (.st .sym) (mkd mkSy c4 a k i.toNat) true)] ((a.length - i.toNat)))) else none
theorem vc_laws_markSymbolS (a : List (Sym)) (k : Int) : (KP Tryz.f58 G_laws_markSymbolS C_laws_markSymbolS an_laws_markSymbolS (a, k, ())) = ((∃ (b : Int), 0 = b ∧ k = k + @sumI Sym (@c4 Sym) (a.take b.toNat) ∧ a = @mkd Sym mkSy (@c4 Sym) a k b.toNat ∧ (0 ≤ b ∧ b ≤ LN a) ∧ True) ∧ (∀ (c : Int), 0 ≤ c ∧ c ≤ LN a →
 (@mkd Sym mkSy (@c4 Sym) a k c.toNat).length ≤ 9223372036854775807 →
 (decide (c < LN (@mkd Sym mkSy (@c4 Sym) a k c.toNat)) = true →
 (0 ≤ k + @sumI Sym (@c4 Sym) (a.take c.toNat) ∧ k + @sumI Sym (@c4 Sym) (a.take c.toNat) ≤ 1000000000000) ∧ (0 ≤ c ∧ c < LN (@mkd Sym mkSy (@c4 Sym) a k c.toNat)) ∧ (∀ (d : Sym), (@mkd Sym mkSy (@c4 Sym) a k c.toNat)[c.toNat]? = some d →
 i64 (k + @sumI Sym (@c4 Sym) (a.take c.toNat) + 1) ∧ (0 ≤ c ∧ c < LN ((@mkd Sym mkSy (@c4 Sym) a k c.toNat).set c.toNat (Sym.mk (markT (k + @sumI Sym (@c4 Sym) (a.take c.toNat))) d.bind d.wher d.value))) ∧ (∀ (e : Sym), ((@mkd Sym mkSy (@c4 Sym) a k c.toNat).set c.toNat (Sym.mk (markT (k + @sumI Sym (@c4 Sym) (a.take c.toNat))) d.bind d.wher d.value))[c.toNat]? = some e →
 i64 (k + @sumI Sym (@c4 Sym) (a.take c.toNat) + 1 + 1) ∧ (0 ≤ c ∧ c < LN (((@mkd Sym mkSy (@c4 Sym) a k c.toNat).set c.toNat (Sym.mk (markT (k + @sumI Sym (@c4 Sym) (a.take c.toNat))) d.bind d.wher d.value)).set c.toNat (Sym.mk e.name (k + @sumI Sym (@c4 Sym) (a.take c.toNat) + 1) e.wher e.value))) ∧ (∀ (f : Sym), (((@mkd Sym mkSy (@c4 Sym) a k c.toNat).set c.toNat (Sym.mk (markT (k + @sumI Sym (@c4 Sym) (a.take c.toNat))) d.bind d.wher d.value)).set c.toNat (Sym.mk e.name (k + @sumI Sym (@c4 Sym) (a.take c.toNat) + 1) e.wher e.value))[c.toNat]? = some f →
 i64 (k + @sumI Sym (@c4 Sym) (a.take c.toNat) + 1 + 1 + 1) ∧ (0 ≤ c ∧ c < LN ((((@mkd Sym mkSy (@c4 Sym) a k c.toNat).set c.toNat (Sym.mk (markT (k + @sumI Sym (@c4 Sym) (a.take c.toNat))) d.bind d.wher d.value)).set c.toNat (Sym.mk e.name (k + @sumI Sym (@c4 Sym) (a.take c.toNat) + 1) e.wher e.value)).set c.toNat (Sym.mk f.name f.bind (k + @sumI Sym (@c4 Sym) (a.take c.toNat) + 1 + 1) f.value))) ∧ (∀ (g : Sym), ((((@mkd Sym mkSy (@c4 Sym) a k c.toNat).set c.toNat (Sym.mk (markT (k + @sumI Sym (@c4 Sym) (a.take c.toNat))) d.bind d.wher d.value)).set c.toNat (Sym.mk e.name (k + @sumI Sym (@c4 Sym) (a.take c.toNat) + 1) e.wher e.value)).set c.toNat (Sym.mk f.name f.bind (k + @sumI Sym (@c4 Sym) (a.take c.toNat) + 1 + 1) f.value))[c.toNat]? = some g →
 i64 (k + @sumI Sym (@c4 Sym) (a.take c.toNat) + 1 + 1 + 1 + 1) ∧ i64 (c + 1) ∧ (∃ (h : Int), c + 1 = h ∧ k + @sumI Sym (@c4 Sym) (a.take c.toNat) + 1 + 1 + 1 + 1 = k + @sumI Sym (@c4 Sym) (a.take h.toNat) ∧ ((((@mkd Sym mkSy (@c4 Sym) a k c.toNat).set c.toNat (Sym.mk (markT (k + @sumI Sym (@c4 Sym) (a.take c.toNat))) d.bind d.wher d.value)).set c.toNat (Sym.mk e.name (k + @sumI Sym (@c4 Sym) (a.take c.toNat) + 1) e.wher e.value)).set c.toNat (Sym.mk f.name f.bind (k + @sumI Sym (@c4 Sym) (a.take c.toNat) + 1 + 1) f.value)).set c.toNat (Sym.mk g.name g.bind g.wher (k + @sumI Sym (@c4 Sym) (a.take c.toNat) + 1 + 1 + 1)) = @mkd Sym mkSy (@c4 Sym) a k h.toNat ∧ (0 ≤ h ∧ h ≤ LN a) ∧ a.length - h.toNat < a.length - c.toNat)))))) ∧ (decide (c < LN (@mkd Sym mkSy (@c4 Sym) a k c.toNat)) = false →
 k + @sumI Sym (@c4 Sym) (a.take c.toNat) = k + @sumI Sym (@c4 Sym) a ∧ @mkd Sym mkSy (@c4 Sym) a k c.toNat = @mkL Sym mkSy (@c4 Sym) a k ∧ True))) := by kernel_rfl
theorem det_laws_markSymbolS : C_laws_markSymbolS.det = true → ∀ x, (C_laws_markSymbolS.out x).Det := fun _ x => by simp only [C_laws_markSymbolS]; repeat (first | exact Det.ret _ | exact Det.vc' | apply Det.req)
theorem ok_laws_markSymbolS : ConOK Tryz.prog 58 C_laws_markSymbolS := by
 refine con_q (l := L_laws_markSymbolS) ⟨⟨ok_laws_markText, det_laws_markText⟩, trivial⟩ Tryz.func58 rfl (by decide) (by kernel_rfl) rfl an_laws_markSymbolS fun x ho hx => ?_
 obtain ⟨a, k, ⟨⟩⟩ := x
 refine Keeps.of (vc_laws_markSymbolS a k) ?_
 revert a k ho hx
 show ∀ (a : List (Sym)) (k : Int), _
 intro a k ho hx
 dsimp only [C_laws_markSymbolS, okPTL, okPT, Ok, Ty.cells, SN.cells, OkL, OkC, okI, ci, cb, cs, cl] at ho
 dsimp only [C_laws_markSymbolS, vc, v1, decB, SR.pre] at hx
 have cn : ∀ x : Sym, 0 ≤ c4 x := c4_nn
 have cl := sumI_le cn a
 have cs := sumI_nn cn
 (try delta i64 LN); simp only [VBt]; (repeat' first | intro _ | apply And.intro); all_goals (try omega); all_goals first | (simp only [List.length_take, List.length_replicate, mkd_len, List.length_set, List.length_append]; omega) | exact mkd_full' (by omega) | exact (mkd_zero _ _).symm | exact mkd_set' (by assumption) (by omega) (by subst_vars; simp [mkRg, mkFx, mkSy, mkPa, mkSe, mkMb, mkOb, mkIL, Int.add_assoc]) | (try grind [mkd_len, mkd_get, mkd_zero, sumI_next, sumI_all, cOne, c4, cPa, cSe, cOb, cMb, cIL, sumI])
def C_laws_heldSymbolS : Con := { ps := [.ro (.list (.st .sym)), .ro .i], out := fun x => let a : List (Sym) := x.1; let k : Int := x.2.1; .req (0 ≤ k ∧ k + sumI c4 a ≤ 1000000000000) (vc .i (hdL hSy a k)), det := true }
abbrev L_laws_heldSymbolS : List (Nat × Con) := [(96, C_laws_markText)]
def G_laws_heldSymbolS : Cfg := GK L_laws_heldSymbolS
def an_laws_heldSymbolS : PTL C_laws_heldSymbolS.ps → Nat → Option Ann := fun x kk_ => let a : List (Sym) := x.1; let k : Int := x.2.1; if kk_ = 2 then some (.all (Int) fun i => .all (Int) fun m => .giv (0 ≤ i ∧ i ≤ a.length ∧ 0 ≤ m ∧ m + sumI c4 (a.drop i.toNat) ≤ 1000000000000 ∧ hdL hSy a k = hdL hSy (a.drop i.toNat) m) (.mk [(5, ai i), (1, ai m), (0, al (.st .sym) a)] [] ((a.length - i.toNat)))) else none
theorem vc_laws_heldSymbolS (a : List (Sym)) (k : Int) : (KP Tryz.f60 G_laws_heldSymbolS C_laws_heldSymbolS an_laws_heldSymbolS (a, k, ())) = ((∃ (b : Int), (∃ (c : Int), 0 = b ∧ k = c ∧ a = a ∧ (0 ≤ b ∧ b ≤ LN a ∧ 0 ≤ c ∧ c + @sumI Sym (@c4 Sym) (a.drop b.toNat) ≤ 1000000000000 ∧ @hdL Sym hSy a k = @hdL Sym hSy (a.drop b.toNat) c) ∧ True)) ∧ (∀ (d : Int), (∀ (e : Int), 0 ≤ d ∧ d ≤ LN a ∧ 0 ≤ e ∧ e + @sumI Sym (@c4 Sym) (a.drop d.toNat) ≤ 1000000000000 ∧ @hdL Sym hSy a k = @hdL Sym hSy (a.drop d.toNat) e →
 a.length ≤ 9223372036854775807 →
 (decide (d < LN a) = true →
 (0 ≤ d ∧ d < LN a) ∧ (∀ (f : Sym), a[d.toNat]? = some f →
 Ok (Ty.st SN.sym) f →
 (0 ≤ e ∧ e ≤ 1000000000000) ∧ (decide (f.name ≠ markT e) = true →
 (- (1 : Int)) = @hdL Sym hSy a k ∧ True) ∧ (decide (f.name ≠ markT e) = false →
 i64 (e + 1) ∧ (0 ≤ d ∧ d < LN a) ∧ (∀ (g : Sym), a[d.toNat]? = some g →
 Ok (Ty.st SN.sym) g →
 (decide (g.bind ≠ e + 1) = true →
 (- (1 : Int)) = @hdL Sym hSy a k ∧ True) ∧ (decide (g.bind ≠ e + 1) = false →
 i64 (e + 1 + 1) ∧ (0 ≤ d ∧ d < LN a) ∧ (∀ (h : Sym), a[d.toNat]? = some h →
 Ok (Ty.st SN.sym) h →
 (decide (h.wher ≠ e + 1 + 1) = true →
 (- (1 : Int)) = @hdL Sym hSy a k ∧ True) ∧ (decide (h.wher ≠ e + 1 + 1) = false →
 i64 (e + 1 + 1 + 1) ∧ (0 ≤ d ∧ d < LN a) ∧ (∀ (i : Sym), a[d.toNat]? = some i →
 Ok (Ty.st SN.sym) i →
 (decide (i.value ≠ e + 1 + 1 + 1) = true →
 (- (1 : Int)) = @hdL Sym hSy a k ∧ True) ∧ (decide (i.value ≠ e + 1 + 1 + 1) = false →
 i64 (e + 1 + 1 + 1 + 1) ∧ i64 (d + 1) ∧ (∃ (j : Int), (∃ (l : Int), d + 1 = j ∧ e + 1 + 1 + 1 + 1 = l ∧ a = a ∧ (0 ≤ j ∧ j ≤ LN a ∧ 0 ≤ l ∧ l + @sumI Sym (@c4 Sym) (a.drop j.toNat) ≤ 1000000000000 ∧ @hdL Sym hSy a k = @hdL Sym hSy (a.drop j.toNat) l) ∧ a.length - j.toNat < a.length - d.toNat))))))))))) ∧ (decide (d < LN a) = false →
 e = @hdL Sym hSy a k ∧ True)))) := by kernel_rfl
theorem det_laws_heldSymbolS : C_laws_heldSymbolS.det = true → ∀ x, (C_laws_heldSymbolS.out x).Det := fun _ x => by simp only [C_laws_heldSymbolS]; repeat (first | exact Det.ret _ | exact Det.vc' | apply Det.req)
theorem ok_laws_heldSymbolS : ConOK Tryz.prog 60 C_laws_heldSymbolS := by
 refine con_q (l := L_laws_heldSymbolS) ⟨⟨ok_laws_markText, det_laws_markText⟩, trivial⟩ Tryz.func60 rfl (by decide) (by kernel_rfl) rfl an_laws_heldSymbolS fun x ho hx => ?_
 obtain ⟨a, k, ⟨⟩⟩ := x
 refine Keeps.of (vc_laws_heldSymbolS a k) ?_
 revert a k ho hx
 show ∀ (a : List (Sym)) (k : Int), _
 intro a k ho hx
 dsimp only [C_laws_heldSymbolS, okPTL, okPT, Ok, Ty.cells, SN.cells, OkL, OkC, okI, ci, cb, cs, cl] at ho
 dsimp only [C_laws_heldSymbolS, vc, v1, decB, SR.pre] at hx
 have cn : ∀ x : Sym, 0 ≤ c4 x := c4_nn
 have cs := sumI_nn cn
 (try delta i64 LN); simp +contextual only [VBt]; (repeat' first | intro _ | apply And.intro); all_goals (try omega); all_goals first | (simp only [List.length_take, List.length_replicate, mkd_len, List.length_set, List.length_append]; omega) | (try grind [hdL_drop, sumI_drop, drop_end, hdL, sumI, cOne, c4, cPa, cSe, cOb, cMb, cIL, hRg, hFx, hSy, hPa, hSe, hOb, hMb, hIL])
def C_laws_toObject : Con := { ps := [.ro (.st .obj)], out := fun x => let a : Objt := x.1; .req (szOb a ≤ 1048576) (newS .obj a), det := true }
abbrev L_laws_toObject : List (Nat × Con) := [(92, C_laws_toSectionS), (93, C_laws_toSymbolS)]
def G_laws_toObject : Cfg := GK L_laws_toObject
def an_laws_toObject : PTL C_laws_toObject.ps → Nat → Option Ann := fun _ _ => none
theorem vc_laws_toObject (a : Objt) : (KP Tryz.f54 G_laws_toObject C_laws_toObject an_laws_toObject (a, ())) = (LN a.sects + @sumI Sect szSe a.sects ≤ 1048576 ∧ LN a.syms + @sumI Sym szSy a.syms ≤ 1048576 ∧ a.sects = a.sects ∧ a.syms = a.syms ∧ True) := by kernel_rfl
theorem det_laws_toObject : C_laws_toObject.det = true → ∀ x, (C_laws_toObject.out x).Det := fun _ x => by simp only [C_laws_toObject]; repeat (first | exact Det.ret _ | exact Det.vc' | apply Det.req)
theorem ok_laws_toObject : ConOK Tryz.prog 54 C_laws_toObject := by
 refine con_q (l := L_laws_toObject) ⟨⟨ok_laws_toSectionS, det_laws_toSectionS⟩, ⟨⟨ok_laws_toSymbolS, det_laws_toSymbolS⟩, trivial⟩⟩ Tryz.func54 rfl (by decide) (by kernel_rfl) rfl an_laws_toObject fun x ho hx => ?_
 obtain ⟨a, ⟨⟩⟩ := x
 refine Keeps.of (vc_laws_toObject a) ?_
 revert a ho hx
 show ∀ (a : Objt), _
 intro a ho hx
 dsimp only [C_laws_toObject, okPTL, okPT, Ok, Ty.cells, SN.cells, OkL, OkC, okI, ci, cb, cs, cl] at ho
 dsimp only [C_laws_toObject, vc, v1, decB, SR.pre] at hx
 have f0 := sumI_nn szSe_nn a.sects
 have f1 := sumI_nn szSy_nn a.syms
 (try delta i64 LN); simp only [VBt]; (repeat' first | intro _ | apply And.intro); all_goals (try omega); all_goals (try grind [szIm, szMe, szHa, szPa, szSe, szSy, szOb, szMb])
def C_laws_szObject : Con := { ps := [.ro (.st .obj), .ro .i], out := fun x => let a : Objt := x.1; let left : Int := x.2.1; .req (0 ≤ left ∧ left ≤ 1048576) (vc .i (szR (szOb a) left)), det := true }
abbrev L_laws_szObject : List (Nat × Con) := [(90, C_laws_szSectionS), (91, C_laws_szSymbolS)]
def G_laws_szObject : Cfg := GK L_laws_szObject
def an_laws_szObject : PTL C_laws_szObject.ps → Nat → Option Ann := fun _ _ => none
theorem vc_laws_szObject (a : Objt) (left : Int) : (KP Tryz.f53 G_laws_szObject C_laws_szObject an_laws_szObject (a, left, ())) = ((0 ≤ left ∧ left ≤ 1048576) ∧ (decide (szR (LN a.sects + @sumI Sect szSe a.sects) left < 0) = true →
 (- (1 : Int)) = szR (szOb a) left ∧ True) ∧ (decide (szR (LN a.sects + @sumI Sect szSe a.sects) left < 0) = false →
 (0 ≤ szR (LN a.sects + @sumI Sect szSe a.sects) left ∧ szR (LN a.sects + @sumI Sect szSe a.sects) left ≤ 1048576) ∧ (decide (szR (LN a.syms + @sumI Sym szSy a.syms) (szR (LN a.sects + @sumI Sect szSe a.sects) left) < 0) = true →
 (- (1 : Int)) = szR (szOb a) left ∧ True) ∧ (decide (szR (LN a.syms + @sumI Sym szSy a.syms) (szR (LN a.sects + @sumI Sect szSe a.sects) left) < 0) = false →
 szR (LN a.syms + @sumI Sym szSy a.syms) (szR (LN a.sects + @sumI Sect szSe a.sects) left) = szR (szOb a) left ∧ True))) := by kernel_rfl
theorem det_laws_szObject : C_laws_szObject.det = true → ∀ x, (C_laws_szObject.out x).Det := fun _ x => by simp only [C_laws_szObject]; repeat (first | exact Det.ret _ | exact Det.vc' | apply Det.req)
theorem ok_laws_szObject : ConOK Tryz.prog 53 C_laws_szObject := by
 refine con_q (l := L_laws_szObject) ⟨⟨ok_laws_szSectionS, det_laws_szSectionS⟩, ⟨⟨ok_laws_szSymbolS, det_laws_szSymbolS⟩, trivial⟩⟩ Tryz.func53 rfl (by decide) (by kernel_rfl) rfl an_laws_szObject fun x ho hx => ?_
 obtain ⟨a, left, ⟨⟩⟩ := x
 refine Keeps.of (vc_laws_szObject a left) ?_
 revert a left ho hx
 show ∀ (a : Objt) (left : Int), _
 intro a left ho hx
 dsimp only [C_laws_szObject, okPTL, okPT, Ok, Ty.cells, SN.cells, OkL, OkC, okI, ci, cb, cs, cl] at ho
 dsimp only [C_laws_szObject, vc, v1, decB, SR.pre] at hx
 have f0 := sumI_nn szSe_nn a.sects
 have f1 := sumI_nn szSy_nn a.syms
 (try delta i64 LN); simp only [VBt]; (repeat' first | intro _ | apply And.intro); all_goals (try omega); all_goals (try grind [szR, szIm, szMe, szHa, szPa, szSe, szSy, szOb, szMb])
def C_laws_eqObject : Con := { ps := [.ro (.st .obj), .ro (.st .obj)], out := fun x => let a : Objt := x.1; let b : Objt := x.2.1; vc .bool (decide (a = b)), det := true }
abbrev L_laws_eqObject : List (Nat × Con) := [(55, C_laws_eqSectionS), (56, C_laws_eqSymbolS)]
def G_laws_eqObject : Cfg := GK L_laws_eqObject
def an_laws_eqObject : PTL C_laws_eqObject.ps → Nat → Option Ann := fun _ _ => none
theorem vc_laws_eqObject (a : Objt) (b : Objt) : (KP Tryz.f21 G_laws_eqObject C_laws_eqObject an_laws_eqObject (a, b, ())) = ((Bool.not (decide (a.sects = b.sects)) = true →
 false = decide (a = b) ∧ True) ∧ (Bool.not (decide (a.sects = b.sects)) = false →
 (Bool.not (decide (a.syms = b.syms)) = true →
 false = decide (a = b) ∧ True) ∧ (Bool.not (decide (a.syms = b.syms)) = false →
 true = decide (a = b) ∧ True))) := by kernel_rfl
theorem det_laws_eqObject : C_laws_eqObject.det = true → ∀ x, (C_laws_eqObject.out x).Det := fun _ _ => Det.vc'
theorem ok_laws_eqObject : ConOK Tryz.prog 21 C_laws_eqObject := by
 refine con_q (l := L_laws_eqObject) ⟨⟨ok_laws_eqSectionS, det_laws_eqSectionS⟩, ⟨⟨ok_laws_eqSymbolS, det_laws_eqSymbolS⟩, trivial⟩⟩ Tryz.func21 rfl (by decide) (by kernel_rfl) rfl an_laws_eqObject fun x ho hx => ?_
 obtain ⟨a, b, ⟨⟩⟩ := x
 refine Keeps.of (vc_laws_eqObject a b) ?_
 revert a b ho hx
 show ∀ (a : Objt) (b : Objt), _
 intro a b ho hx
 dsimp only [C_laws_eqObject, okPTL, okPT, Ok, Ty.cells, SN.cells, OkL, OkC, okI, ci, cb, cs, cl] at ho
 dsimp only [C_laws_eqObject, vc, v1, decB, SR.pre] at hx
 (try delta i64 LN); simp only [VBt]; (repeat' first | intro _ | apply And.intro); all_goals (try omega); all_goals (first | grind [cases Img] | (cases a; cases b; simp_all; done) | (obtain ⟨⟨_, _⟩, _⟩ := a; obtain ⟨⟨_, _⟩, _⟩ := b; simp_all; done) | (obtain ⟨_, _, _⟩ := a; obtain ⟨_, _, _⟩ := b; simp_all; done) | (obtain ⟨_, ⟨_, _⟩⟩ := a; obtain ⟨_, ⟨_, _⟩⟩ := b; simp_all; done) | skip)
def C_laws_markObject : Con := { ps := [.own .obj, .ro .i], out := fun x => let a : Objt := x.1; let k : Int := x.2.1; .req (0 ≤ k ∧ k + cOb a ≤ 1000000000000) (turnS .obj (mkOb a k) (k + cOb a)), det := true }
abbrev L_laws_markObject : List (Nat × Con) := [(57, C_laws_markSectionS), (58, C_laws_markSymbolS)]
def G_laws_markObject : Cfg := GK L_laws_markObject
def an_laws_markObject : PTL C_laws_markObject.ps → Nat → Option Ann := fun _ _ => none
theorem vc_laws_markObject (a : Objt) (k : Int) : (KP Tryz.f24 G_laws_markObject C_laws_markObject an_laws_markObject (a, k, ())) = ((0 ≤ k ∧ k + @sumI Sect cSe a.sects ≤ 1000000000000) ∧ (0 ≤ k + @sumI Sect cSe a.sects ∧ k + @sumI Sect cSe a.sects + @sumI Sym (@c4 Sym) a.syms ≤ 1000000000000) ∧ k + @sumI Sect cSe a.sects + @sumI Sym (@c4 Sym) a.syms = k + cOb a ∧ @mkL Sect mkSe cSe a.sects k = (mkOb a k).sects ∧ @mkL Sym mkSy (@c4 Sym) a.syms (k + @sumI Sect cSe a.sects) = (mkOb a k).syms ∧ True) := by kernel_rfl
theorem det_laws_markObject : C_laws_markObject.det = true → ∀ x, (C_laws_markObject.out x).Det := fun _ x => by simp only [C_laws_markObject]; repeat (first | exact Det.ret _ | exact Det.vc' | apply Det.req)
theorem ok_laws_markObject : ConOK Tryz.prog 24 C_laws_markObject := by
 refine con_q (l := L_laws_markObject) ⟨⟨ok_laws_markSectionS, det_laws_markSectionS⟩, ⟨⟨ok_laws_markSymbolS, det_laws_markSymbolS⟩, trivial⟩⟩ Tryz.func24 rfl (by decide) (by kernel_rfl) rfl an_laws_markObject fun x ho hx => ?_
 obtain ⟨a, k, ⟨⟩⟩ := x
 refine Keeps.of (vc_laws_markObject a k) ?_
 revert a k ho hx
 show ∀ (a : Objt) (k : Int), _
 intro a k ho hx
 dsimp only [C_laws_markObject, okPTL, okPT, Ok, Ty.cells, SN.cells, OkL, OkC, okI, ci, cb, cs, cl] at ho
 dsimp only [C_laws_markObject, vc, v1, decB, SR.pre] at hx
 have f0 := cSe_ge a.sects
 have f1 := c4_ge a.syms
 (try delta i64 LN); simp only [VBt]; (repeat' first | intro _ | apply And.intro); all_goals (try omega); all_goals (first | grind [cIm, mkIm, cMe, mkMe, cHa, mkHa, cOb, mkOb] | (simp only [cIm, mkIm, cMe, mkMe, cHa, mkHa, cOb, mkOb] at *; omega) | (simp [cIm, mkIm, cMe, mkMe, cHa, mkHa, cOb, mkOb]) | skip)
def C_laws_heldObject : Con := { ps := [.ro (.st .obj), .ro .i], out := fun x => let a : Objt := x.1; let k : Int := x.2.1; .req (0 ≤ k ∧ k + cOb a ≤ 1000000000000) (vc .i (hOb a k)), det := true }
abbrev L_laws_heldObject : List (Nat × Con) := [(59, C_laws_heldSectionS), (60, C_laws_heldSymbolS)]
def G_laws_heldObject : Cfg := GK L_laws_heldObject
def an_laws_heldObject : PTL C_laws_heldObject.ps → Nat → Option Ann := fun _ _ => none
theorem vc_laws_heldObject (a : Objt) (k : Int) : (KP Tryz.f25 G_laws_heldObject C_laws_heldObject an_laws_heldObject (a, k, ())) = ((0 ≤ k ∧ k + @sumI Sect cSe a.sects ≤ 1000000000000) ∧ (decide (@hdL Sect hSe a.sects k < 0) = true →
 (- (1 : Int)) = hOb a k ∧ True) ∧ (decide (@hdL Sect hSe a.sects k < 0) = false →
 (0 ≤ @hdL Sect hSe a.sects k ∧ @hdL Sect hSe a.sects k + @sumI Sym (@c4 Sym) a.syms ≤ 1000000000000) ∧ (decide (@hdL Sym hSy a.syms (@hdL Sect hSe a.sects k) < 0) = true →
 (- (1 : Int)) = hOb a k ∧ True) ∧ (decide (@hdL Sym hSy a.syms (@hdL Sect hSe a.sects k) < 0) = false →
 @hdL Sym hSy a.syms (@hdL Sect hSe a.sects k) = hOb a k ∧ True))) := by kernel_rfl
theorem det_laws_heldObject : C_laws_heldObject.det = true → ∀ x, (C_laws_heldObject.out x).Det := fun _ x => by simp only [C_laws_heldObject]; repeat (first | exact Det.ret _ | exact Det.vc' | apply Det.req)
theorem ok_laws_heldObject : ConOK Tryz.prog 25 C_laws_heldObject := by
 refine con_q (l := L_laws_heldObject) ⟨⟨ok_laws_heldSectionS, det_laws_heldSectionS⟩, ⟨⟨ok_laws_heldSymbolS, det_laws_heldSymbolS⟩, trivial⟩⟩ Tryz.func25 rfl (by decide) (by kernel_rfl) rfl an_laws_heldObject fun x ho hx => ?_
 obtain ⟨a, k, ⟨⟩⟩ := x
 refine Keeps.of (vc_laws_heldObject a k) ?_
 revert a k ho hx
 show ∀ (a : Objt) (k : Int), _
 intro a k ho hx
 dsimp only [C_laws_heldObject, okPTL, okPT, Ok, Ty.cells, SN.cells, OkL, OkC, okI, ci, cb, cs, cl] at ho
 dsimp only [C_laws_heldObject, vc, v1, decB, SR.pre] at hx
 have f0 := cSe_ge a.sects
 have f1 := c4_ge a.syms
 have f2 := hdSe_or a.sects k
 have f3 := hdSy_or a.syms (k + sumI cSe a.sects)
 (try delta i64 LN); simp only [VBt]; (repeat' first | intro _ | apply And.intro); all_goals (try omega); all_goals (try grind [hIm, cIm, hMe, cMe, hHa, cHa, hOb, cOb])
def C_laws_toObjectS : Con := { ps := [.ro (.list (.st .obj))], out := fun x => let a : List (Objt) := x.1; .req ((a.length + sumI szOb a : Int) ≤ 1048576) (newL (.st .obj) a), det := true }
abbrev L_laws_toObjectS : List (Nat × Con) := [(54, C_laws_toObject)]
def G_laws_toObjectS : Cfg := GK L_laws_toObjectS
def an_laws_toObjectS : PTL C_laws_toObjectS.ps → Nat → Option Ann := fun x kk_ => let a : List (Objt) := x.1; if kk_ = 3 then some (.all (Int) fun i => .giv (0 ≤ i ∧ i ≤ a.length) (.mk [(4, ai i), (3, asl 20), (0, al (.st .obj) a)] [(20, .row (some 26) (.st .obj) (a.take i.toNat ++ List.replicate (a.length - i.toNat) (⟨[], []⟩ : Objt)) true)] ((a.length - i.toNat)))) else none
theorem vc_laws_toObjectS (a : List (Objt)) : (KP Tryz.f20 G_laws_toObjectS C_laws_toObjectS an_laws_toObjectS (a, ())) = (a.length ≤ 9223372036854775807 →
 (LN a = LN a ∧ 0 ≤ LN a ∧ LN a ≤ 1000000000000 ∧ @Nat.cast Int _ (48 : Nat) * LN a ≤ 140737488355328) ∧ (∃ (b : Int), 0 = b ∧ a = a ∧ @repl Objt (LN a) (Objt.mk ([] : List Sect) ([] : List Sym)) = a.take b.toNat ++ @List.replicate Objt (a.length - b.toNat) (Objt.mk ([] : List Sect) ([] : List Sym)) ∧ (0 ≤ b ∧ b ≤ LN a) ∧ True) ∧ (∀ (c : Int), 0 ≤ c ∧ c ≤ LN a →
 a.length ≤ 9223372036854775807 →
 (decide (c < LN a) = true →
 (0 ≤ c ∧ c < LN a) ∧ (∀ (d : Objt), a[c.toNat]? = some d →
 Ok (Ty.st SN.obj) d →
 szOb d ≤ 1048576 ∧ (0 ≤ c ∧ c < LN (a.take c.toNat ++ @List.replicate Objt (a.length - c.toNat) (Objt.mk ([] : List Sect) ([] : List Sym)))) ∧ (∀ (e : Objt), (a.take c.toNat ++ @List.replicate Objt (a.length - c.toNat) (Objt.mk ([] : List Sect) ([] : List Sym)))[c.toNat]? = some e →
 i64 (c + 1) ∧ (∃ (f : Int), c + 1 = f ∧ a = a ∧ (a.take c.toNat ++ @List.replicate Objt (a.length - c.toNat) (Objt.mk ([] : List Sect) ([] : List Sym))).set c.toNat d = a.take f.toNat ++ @List.replicate Objt (a.length - f.toNat) (Objt.mk ([] : List Sect) ([] : List Sym)) ∧ (0 ≤ f ∧ f ≤ LN a) ∧ a.length - f.toNat < a.length - c.toNat)))) ∧ (decide (c < LN a) = false →
 a.take c.toNat ++ @List.replicate Objt (a.length - c.toNat) (Objt.mk ([] : List Sect) ([] : List Sym)) = a ∧ True))) := by kernel_rfl
theorem det_laws_toObjectS : C_laws_toObjectS.det = true → ∀ x, (C_laws_toObjectS.out x).Det := fun _ x => by simp only [C_laws_toObjectS]; repeat (first | exact Det.ret _ | exact Det.vc' | apply Det.req)
theorem ok_laws_toObjectS : ConOK Tryz.prog 20 C_laws_toObjectS := by
 refine con_q (l := L_laws_toObjectS) ⟨⟨ok_laws_toObject, det_laws_toObject⟩, trivial⟩ Tryz.func20 rfl (by decide) (by kernel_rfl) rfl an_laws_toObjectS fun x ho hx => ?_
 obtain ⟨a, ⟨⟩⟩ := x
 refine Keeps.of (vc_laws_toObjectS a) ?_
 revert a ho hx
 show ∀ (a : List (Objt)), _
 intro a ho hx
 dsimp only [C_laws_toObjectS, okPTL, okPT, Ok, Ty.cells, SN.cells, OkL, OkC, okI, ci, cb, cs, cl] at ho
 dsimp only [C_laws_toObjectS, vc, v1, decB, SR.pre] at hx
 have cs := sumI_nn (f := szOb) szOb_nn a
 have ca := fun k x => sumI_at (f := szOb) szOb_nn (l := a) (k := k) (x := x)
 (try delta i64 LN); simp only [VBt]; (repeat' first | intro _ | apply And.intro); all_goals (try omega); all_goals first | exact repl_fill | exact set_fill' ‹_› (by omega) | exact fill_full' (by omega) | (simp only [List.length_take, List.length_replicate, mkd_len, List.length_set, List.length_append]; omega) | (try grind [sumI_at, szPa, szSe, szOb, szSy, szMb])
def C_laws_szObjectS : Con := { ps := [.ro (.list (.st .obj)), .ro .i], out := fun x => let a : List (Objt) := x.1; let left : Int := x.2.1; .req (0 ≤ left ∧ left ≤ 1048576) (vc .i (szR (a.length + sumI szOb a : Int) left)), det := true }
abbrev L_laws_szObjectS : List (Nat × Con) := [(53, C_laws_szObject)]
def G_laws_szObjectS : Cfg := GK L_laws_szObjectS
def an_laws_szObjectS : PTL C_laws_szObjectS.ps → Nat → Option Ann := fun x kk_ => let a : List (Objt) := x.1; let left : Int := x.2.1; if kk_ = 5 then some (.all (Int) fun i => .all (Int) fun m => .giv (0 ≤ i ∧ i ≤ a.length ∧ 0 ≤ m ∧ m ≤ left ∧ szR (a.length + sumI szOb a : Int) left = szR (sumI szOb (a.drop i.toNat)) m) (.mk [(5, ai i), (1, ai m), (0, al (.st .obj) a)] [] ((a.length - i.toNat)))) else none
theorem vc_laws_szObjectS (a : List (Objt)) (left : Int) : (KP Tryz.f19 G_laws_szObjectS C_laws_szObjectS an_laws_szObjectS (a, left, ())) = (a.length ≤ 9223372036854775807 →
 i64 (left - LN a) ∧ (decide (left - LN a < 0) = true →
 (- (1 : Int)) = szR (LN a + @sumI Objt szOb a) left ∧ True) ∧ (decide (left - LN a < 0) = false →
 (∃ (b : Int), (∃ (c : Int), 0 = b ∧ left - LN a = c ∧ a = a ∧ (0 ≤ b ∧ b ≤ LN a ∧ 0 ≤ c ∧ c ≤ left ∧ szR (LN a + @sumI Objt szOb a) left = szR (@sumI Objt szOb (a.drop b.toNat)) c) ∧ True)) ∧ (∀ (d : Int), (∀ (e : Int), 0 ≤ d ∧ d ≤ LN a ∧ 0 ≤ e ∧ e ≤ left ∧ szR (LN a + @sumI Objt szOb a) left = szR (@sumI Objt szOb (a.drop d.toNat)) e →
 a.length ≤ 9223372036854775807 →
 (decide (d < LN a) = true →
 (0 ≤ d ∧ d < LN a) ∧ (∀ (f : Objt), a[d.toNat]? = some f →
 Ok (Ty.st SN.obj) f →
 (0 ≤ e ∧ e ≤ 1048576) ∧ (decide (szR (szOb f) e < 0) = true →
 (- (1 : Int)) = szR (LN a + @sumI Objt szOb a) left ∧ True) ∧ (decide (szR (szOb f) e < 0) = false →
 i64 (d + 1) ∧ (∃ (g : Int), (∃ (h : Int), d + 1 = g ∧ szR (szOb f) e = h ∧ a = a ∧ (0 ≤ g ∧ g ≤ LN a ∧ 0 ≤ h ∧ h ≤ left ∧ szR (LN a + @sumI Objt szOb a) left = szR (@sumI Objt szOb (a.drop g.toNat)) h) ∧ a.length - g.toNat < a.length - d.toNat))))) ∧ (decide (d < LN a) = false →
 e = szR (LN a + @sumI Objt szOb a) left ∧ True))))) := by kernel_rfl
theorem det_laws_szObjectS : C_laws_szObjectS.det = true → ∀ x, (C_laws_szObjectS.out x).Det := fun _ x => by simp only [C_laws_szObjectS]; repeat (first | exact Det.ret _ | exact Det.vc' | apply Det.req)
theorem ok_laws_szObjectS : ConOK Tryz.prog 19 C_laws_szObjectS := by
 refine con_q (l := L_laws_szObjectS) ⟨⟨ok_laws_szObject, det_laws_szObject⟩, trivial⟩ Tryz.func19 rfl (by decide) (by kernel_rfl) rfl an_laws_szObjectS fun x ho hx => ?_
 obtain ⟨a, left, ⟨⟩⟩ := x
 refine Keeps.of (vc_laws_szObjectS a left) ?_
 revert a left ho hx
 show ∀ (a : List (Objt)) (left : Int), _
 intro a left ho hx
 dsimp only [C_laws_szObjectS, okPTL, okPT, Ok, Ty.cells, SN.cells, OkL, OkC, okI, ci, cb, cs, cl] at ho
 dsimp only [C_laws_szObjectS, vc, v1, decB, SR.pre] at hx
 have cs := sumI_nn (f := szOb) szOb_nn
 (try delta i64 LN); simp only [VBt]; (repeat' first | intro _ | apply And.intro); all_goals (try omega); all_goals first | (unfold szR; split <;> omega) | exact szR_le2 (by first | exact szSe_nn _ | exact szSy_nn _ | exact szOb_nn _ | exact szMb_nn _) ‹_› ‹_› | (try grind [szR, sumI_drop, drop_end, sumI])
def C_laws_eqObjectS : Con := { ps := [.ro (.list (.st .obj)), .ro (.list (.st .obj))], out := fun x => let a : List (Objt) := x.1; let b : List (Objt) := x.2.1; vc .bool (decide (a = b)), det := true }
abbrev L_laws_eqObjectS : List (Nat × Con) := [(21, C_laws_eqObject)]
def G_laws_eqObjectS : Cfg := GK L_laws_eqObjectS
def an_laws_eqObjectS : PTL C_laws_eqObjectS.ps → Nat → Option Ann := fun x kk_ => let a : List (Objt) := x.1; let b : List (Objt) := x.2.1; if kk_ = 4 then some (.all (Int) fun i => .giv (0 ≤ i ∧ i ≤ a.length ∧ a.length = b.length ∧ a.take i.toNat = b.take i.toNat) (.mk [(5, ai i), (0, al (.st .obj) a), (1, al (.st .obj) b)] [] ((a.length - i.toNat)))) else none
theorem vc_laws_eqObjectS (a : List (Objt)) (b : List (Objt)) : (KP Tryz.f22 G_laws_eqObjectS C_laws_eqObjectS an_laws_eqObjectS (a, b, ())) = (a.length ≤ 9223372036854775807 →
 b.length ≤ 9223372036854775807 →
 (decide (LN a ≠ LN b) = true →
 false = decide (a = b) ∧ True) ∧ (decide (LN a ≠ LN b) = false →
 (∃ (c : Int), 0 = c ∧ a = a ∧ b = b ∧ (0 ≤ c ∧ c ≤ LN a ∧ a.length = b.length ∧ a.take c.toNat = b.take c.toNat) ∧ True) ∧ (∀ (d : Int), 0 ≤ d ∧ d ≤ LN a ∧ a.length = b.length ∧ a.take d.toNat = b.take d.toNat →
 a.length ≤ 9223372036854775807 →
 (decide (d < LN a) = true →
 (0 ≤ d ∧ d < LN a) ∧ (∀ (e : Objt), a[d.toNat]? = some e →
 Ok (Ty.st SN.obj) e →
 (0 ≤ d ∧ d < LN b) ∧ (∀ (f : Objt), b[d.toNat]? = some f →
 Ok (Ty.st SN.obj) f →
 (Bool.not (decide (e = f)) = true →
 false = decide (a = b) ∧ True) ∧ (Bool.not (decide (e = f)) = false →
 i64 (d + 1) ∧ (∃ (g : Int), d + 1 = g ∧ a = a ∧ b = b ∧ (0 ≤ g ∧ g ≤ LN a ∧ a.length = b.length ∧ a.take g.toNat = b.take g.toNat) ∧ a.length - g.toNat < a.length - d.toNat))))) ∧ (decide (d < LN a) = false →
 true = decide (a = b) ∧ True)))) := by kernel_rfl
theorem det_laws_eqObjectS : C_laws_eqObjectS.det = true → ∀ x, (C_laws_eqObjectS.out x).Det := fun _ _ => Det.vc'
theorem ok_laws_eqObjectS : ConOK Tryz.prog 22 C_laws_eqObjectS := by
 refine con_q (l := L_laws_eqObjectS) ⟨⟨ok_laws_eqObject, det_laws_eqObject⟩, trivial⟩ Tryz.func22 rfl (by decide) (by kernel_rfl) rfl an_laws_eqObjectS fun x ho hx => ?_
 obtain ⟨a, b, ⟨⟩⟩ := x
 refine Keeps.of (vc_laws_eqObjectS a b) ?_
 revert a b ho hx
 show ∀ (a : List (Objt)) (b : List (Objt)), _
 intro a b ho hx
 dsimp only [C_laws_eqObjectS, okPTL, okPT, Ok, Ty.cells, SN.cells, OkL, OkC, okI, ci, cb, cs, cl] at ho
 dsimp only [C_laws_eqObjectS, vc, v1, decB, SR.pre] at hx
 (try delta i64 LN); simp only [VBt]; (repeat' first | intro _ | apply And.intro); all_goals (try omega); all_goals first | grind [take_all', take_next, take_diff] | exact take_next2 (by omega) (by assumption) (by assumption) (by assumption) (by assumption) | exact take_diff2 (by assumption) (by assumption) (by assumption)
def C_laws_markObjectS : Con := { ps := [.row none (.st .obj), .ro .i], out := fun x => let a : List (Objt) := x.1; let k : Int := x.2.1; .req (0 ≤ k ∧ k + sumI cOb a ≤ 1000000000000) (turnL (.st .obj) (mkL mkOb cOb a k) (k + sumI cOb a)), det := true }
abbrev L_laws_markObjectS : List (Nat × Con) := [(57, C_laws_markSectionS), (58, C_laws_markSymbolS)]
def G_laws_markObjectS : Cfg := GK L_laws_markObjectS
def an_laws_markObjectS : PTL C_laws_markObjectS.ps → Nat → Option Ann := fun x kk_ => let a : List (Objt) := x.1; let k : Int := x.2.1; if kk_ = 2 then some (.all (Int) fun i => .giv (0 ≤ i ∧ i ≤ a.length) (.mk [(5, ai i), (1, ai (k + sumI cOb (a.take i.toNat))), (0, asl 0)] [(0, .row none (.st .obj) (mkd mkOb cOb a k i.toNat) true)] ((a.length - i.toNat)))) else none
theorem vc_laws_markObjectS (a : List (Objt)) (k : Int) : (KP Tryz.f23 G_laws_markObjectS C_laws_markObjectS an_laws_markObjectS (a, k, ())) = ((∃ (b : Int), 0 = b ∧ k = k + @sumI Objt cOb (a.take b.toNat) ∧ a = @mkd Objt mkOb cOb a k b.toNat ∧ (0 ≤ b ∧ b ≤ LN a) ∧ True) ∧ (∀ (c : Int), 0 ≤ c ∧ c ≤ LN a →
 (@mkd Objt mkOb cOb a k c.toNat).length ≤ 9223372036854775807 →
 (decide (c < LN (@mkd Objt mkOb cOb a k c.toNat)) = true →
 (0 ≤ c ∧ c < LN (@mkd Objt mkOb cOb a k c.toNat)) ∧ (∀ (d : Objt), (@mkd Objt mkOb cOb a k c.toNat)[c.toNat]? = some d →
 Ok (Ty.st SN.obj) d →
 (∀ (e : Objt), (@mkd Objt mkOb cOb a k c.toNat)[c.toNat]? = some e →
 (0 ≤ k + @sumI Objt cOb (a.take c.toNat) ∧ k + @sumI Objt cOb (a.take c.toNat) + @sumI Sect cSe e.sects ≤ 1000000000000) ∧ (0 ≤ c ∧ c < LN ((@mkd Objt mkOb cOb a k c.toNat).set c.toNat (Objt.mk (@mkL Sect mkSe cSe e.sects (k + @sumI Objt cOb (a.take c.toNat))) e.syms))) ∧ (∀ (f : Objt), ((@mkd Objt mkOb cOb a k c.toNat).set c.toNat (Objt.mk (@mkL Sect mkSe cSe e.sects (k + @sumI Objt cOb (a.take c.toNat))) e.syms))[c.toNat]? = some f →
 Ok (Ty.st SN.obj) f →
 (∀ (g : Objt), ((@mkd Objt mkOb cOb a k c.toNat).set c.toNat (Objt.mk (@mkL Sect mkSe cSe e.sects (k + @sumI Objt cOb (a.take c.toNat))) e.syms))[c.toNat]? = some g →
 (0 ≤ k + @sumI Objt cOb (a.take c.toNat) + @sumI Sect cSe e.sects ∧ k + @sumI Objt cOb (a.take c.toNat) + @sumI Sect cSe e.sects + @sumI Sym (@c4 Sym) g.syms ≤ 1000000000000) ∧ i64 (c + 1) ∧ (∃ (h : Int), c + 1 = h ∧ k + @sumI Objt cOb (a.take c.toNat) + @sumI Sect cSe e.sects + @sumI Sym (@c4 Sym) g.syms = k + @sumI Objt cOb (a.take h.toNat) ∧ ((@mkd Objt mkOb cOb a k c.toNat).set c.toNat (Objt.mk (@mkL Sect mkSe cSe e.sects (k + @sumI Objt cOb (a.take c.toNat))) e.syms)).set c.toNat (Objt.mk g.sects (@mkL Sym mkSy (@c4 Sym) g.syms (k + @sumI Objt cOb (a.take c.toNat) + @sumI Sect cSe e.sects))) = @mkd Objt mkOb cOb a k h.toNat ∧ (0 ≤ h ∧ h ≤ LN a) ∧ a.length - h.toNat < a.length - c.toNat)))))) ∧ (decide (c < LN (@mkd Objt mkOb cOb a k c.toNat)) = false →
 k + @sumI Objt cOb (a.take c.toNat) = k + @sumI Objt cOb a ∧ @mkd Objt mkOb cOb a k c.toNat = @mkL Objt mkOb cOb a k ∧ True))) := by kernel_rfl
theorem det_laws_markObjectS : C_laws_markObjectS.det = true → ∀ x, (C_laws_markObjectS.out x).Det := fun _ x => by simp only [C_laws_markObjectS]; repeat (first | exact Det.ret _ | exact Det.vc' | apply Det.req)
theorem ok_laws_markObjectS : ConOK Tryz.prog 23 C_laws_markObjectS := by
 refine con_q (l := L_laws_markObjectS) ⟨⟨ok_laws_markSectionS, det_laws_markSectionS⟩, ⟨⟨ok_laws_markSymbolS, det_laws_markSymbolS⟩, trivial⟩⟩ Tryz.func23 rfl (by decide) (by kernel_rfl) rfl an_laws_markObjectS fun x ho hx => ?_
 obtain ⟨a, k, ⟨⟩⟩ := x
 refine Keeps.of (vc_laws_markObjectS a k) ?_
 revert a k ho hx
 show ∀ (a : List (Objt)) (k : Int), _
 intro a k ho hx
 dsimp only [C_laws_markObjectS, okPTL, okPT, Ok, Ty.cells, SN.cells, OkL, OkC, okI, ci, cb, cs, cl] at ho
 dsimp only [C_laws_markObjectS, vc, v1, decB, SR.pre] at hx
 have cn : ∀ x : Objt, 0 ≤ cOb x := cOb_nn
 have cl := sumI_le cn a
 have cs := sumI_nn cn
 have cb := fun i x => sumI_tk cn (l := a) (i := i) (x := x)
 have g1 := @cOne_ge Int
 have g2 := @c4_ge Fixup
 have g3 := @c4_ge Sym
 have g4 := cSe_ge
 (try delta i64 LN); simp only [VBt]; (repeat' first | intro _ | apply And.intro); all_goals (try omega); all_goals first | (simp only [List.length_take, List.length_replicate, mkd_len, List.length_set, List.length_append]; omega) | exact mkd_full' (by omega) | exact (mkd_zero _ _).symm | exact mkd_set' (by assumption) (by omega) (by subst_vars; simp [mkRg, mkFx, mkSy, mkPa, mkSe, mkMb, mkOb, mkIL, Int.add_assoc]) | (try grind [mkd_len, mkd_get, mkd_zero, sumI_next, sumI_all, cOne, c4, cPa, cSe, cOb, cMb, cIL, sumI])
end Go.Proofs.YtpgglbnagphgoaaGreat
