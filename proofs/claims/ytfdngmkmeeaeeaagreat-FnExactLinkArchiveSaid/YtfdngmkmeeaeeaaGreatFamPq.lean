/- The laws' families: members of archives, lists of lists. -/
import Derived.Test.YtfdngmkmeeaeeaaGreatFamOq
set_option linter.unusedVariables false
set_option linter.unusedSimpArgs false
set_option maxRecDepth 200000
set_option maxHeartbeats 4000000
namespace Go.Proofs.YtfdngmkmeeaeeaaGreat
open Go Go.RowKit


def C_laws_toMember : Con := { ps := [.ro (.st .member)], out := fun x => let a : Member := x.1; .req (szMb a ≤ 1048576) (newS .member a), det := true }
abbrev L_laws_toMember : List (Nat × Con) := [(64, C_laws_toObject)]
def G_laws_toMember : Cfg := GK L_laws_toMember
def an_laws_toMember : PTL C_laws_toMember.ps → Nat → Option Ann := fun _ _ => none
theorem vc_laws_toMember (a : Member) : (KP Tryz.f85 G_laws_toMember C_laws_toMember an_laws_toMember (a, ())) = (szOb a.what ≤ 1048576 ∧ a.name = a.name ∧ a.what.sects = a.what.sects ∧ a.what.syms = a.what.syms ∧ True) := by kernel_rfl
theorem det_laws_toMember : C_laws_toMember.det = true → ∀ x, (C_laws_toMember.out x).Det := fun _ x => by simp only [C_laws_toMember]; repeat (first | exact Det.ret _ | exact Det.vc' | apply Det.req)
theorem ok_laws_toMember : ConOK Tryz.prog 85 C_laws_toMember := by
 refine con_q (l := L_laws_toMember) ⟨⟨ok_laws_toObject, det_laws_toObject⟩, trivial⟩ Tryz.func85 rfl (by decide) (by kernel_rfl) rfl an_laws_toMember fun x ho hx => ?_
 obtain ⟨a, ⟨⟩⟩ := x
 refine Keeps.of (vc_laws_toMember a) ?_
 revert a ho hx
 show ∀ (a : Member), _
 intro a ho hx
 dsimp only [C_laws_toMember, okPTL, okPT, Ok, Ty.cells, SN.cells, OkL, OkC, okI, ci, cb, cs, cl] at ho
 dsimp only [C_laws_toMember, vc, v1, decB, SR.pre] at hx
 have f0 := szOb_nn a.what
 (try delta i64 LN); simp only [VBt]; (repeat' first | intro _ | apply And.intro); all_goals (try omega); all_goals (try grind [szIm, szMe, szHa, szPa, szSe, szSy, szOb, szMb])
def C_laws_szMember : Con := { ps := [.ro (.st .member), .ro .i], out := fun x => let a : Member := x.1; let left : Int := x.2.1; .req (0 ≤ left ∧ left ≤ 1048576) (vc .i (szR (szMb a) left)), det := true }
abbrev L_laws_szMember : List (Nat × Con) := [(57, C_laws_szObject)]
def G_laws_szMember : Cfg := GK L_laws_szMember
def an_laws_szMember : PTL C_laws_szMember.ps → Nat → Option Ann := fun _ _ => none
theorem vc_laws_szMember (a : Member) (left : Int) : (KP Tryz.f82 G_laws_szMember C_laws_szMember an_laws_szMember (a, left, ())) = (ByteArray.size a.name ≤ 9223372036854775807 →
 i64 (left - @Nat.cast Int _ (ByteArray.size a.name)) ∧ (decide (left - @Nat.cast Int _ (ByteArray.size a.name) < 0) = true →
 (- (1 : Int)) = szR (szMb a) left ∧ True) ∧ (decide (left - @Nat.cast Int _ (ByteArray.size a.name) < 0) = false →
 (0 ≤ left - @Nat.cast Int _ (ByteArray.size a.name) ∧ left - @Nat.cast Int _ (ByteArray.size a.name) ≤ 1048576) ∧ (decide (szR (szOb a.what) (left - @Nat.cast Int _ (ByteArray.size a.name)) < 0) = true →
 (- (1 : Int)) = szR (szMb a) left ∧ True) ∧ (decide (szR (szOb a.what) (left - @Nat.cast Int _ (ByteArray.size a.name)) < 0) = false →
 szR (szOb a.what) (left - @Nat.cast Int _ (ByteArray.size a.name)) = szR (szMb a) left ∧ True))) := by kernel_rfl
theorem det_laws_szMember : C_laws_szMember.det = true → ∀ x, (C_laws_szMember.out x).Det := fun _ x => by simp only [C_laws_szMember]; repeat (first | exact Det.ret _ | exact Det.vc' | apply Det.req)
theorem ok_laws_szMember : ConOK Tryz.prog 82 C_laws_szMember := by
 refine con_q (l := L_laws_szMember) ⟨⟨ok_laws_szObject, det_laws_szObject⟩, trivial⟩ Tryz.func82 rfl (by decide) (by kernel_rfl) rfl an_laws_szMember fun x ho hx => ?_
 obtain ⟨a, left, ⟨⟩⟩ := x
 refine Keeps.of (vc_laws_szMember a left) ?_
 revert a left ho hx
 show ∀ (a : Member) (left : Int), _
 intro a left ho hx
 dsimp only [C_laws_szMember, okPTL, okPT, Ok, Ty.cells, SN.cells, OkL, OkC, okI, ci, cb, cs, cl] at ho
 dsimp only [C_laws_szMember, vc, v1, decB, SR.pre] at hx
 have f0 := szOb_nn a.what
 (try delta i64 LN); simp only [VBt]; (repeat' first | intro _ | apply And.intro); all_goals (try omega); all_goals (try grind [szR, szIm, szMe, szHa, szPa, szSe, szSy, szOb, szMb])
def C_laws_eqMember : Con := { ps := [.ro (.st .member), .ro (.st .member)], out := fun x => let a : Member := x.1; let b : Member := x.2.1; vc .bool (decide (a = b)), det := true }
abbrev L_laws_eqMember : List (Nat × Con) := [(72, C_laws_eqObject)]
def G_laws_eqMember : Cfg := GK L_laws_eqMember
def an_laws_eqMember : PTL C_laws_eqMember.ps → Nat → Option Ann := fun _ _ => none
theorem vc_laws_eqMember (a : Member) (b : Member) : (KP Tryz.f88 G_laws_eqMember C_laws_eqMember an_laws_eqMember (a, b, ())) = ((decide (a.name ≠ b.name) = true →
 false = decide (a = b) ∧ True) ∧ (decide (a.name ≠ b.name) = false →
 (Bool.not (decide (a.what = b.what)) = true →
 false = decide (a = b) ∧ True) ∧ (Bool.not (decide (a.what = b.what)) = false →
 true = decide (a = b) ∧ True))) := by kernel_rfl
theorem det_laws_eqMember : C_laws_eqMember.det = true → ∀ x, (C_laws_eqMember.out x).Det := fun _ _ => Det.vc'
theorem ok_laws_eqMember : ConOK Tryz.prog 88 C_laws_eqMember := by
 refine con_q (l := L_laws_eqMember) ⟨⟨ok_laws_eqObject, det_laws_eqObject⟩, trivial⟩ Tryz.func88 rfl (by decide) (by kernel_rfl) rfl an_laws_eqMember fun x ho hx => ?_
 obtain ⟨a, b, ⟨⟩⟩ := x
 refine Keeps.of (vc_laws_eqMember a b) ?_
 revert a b ho hx
 show ∀ (a : Member) (b : Member), _
 intro a b ho hx
 dsimp only [C_laws_eqMember, okPTL, okPT, Ok, Ty.cells, SN.cells, OkL, OkC, okI, ci, cb, cs, cl] at ho
 dsimp only [C_laws_eqMember, vc, v1, decB, SR.pre] at hx
 (try delta i64 LN); simp only [VBt]; (repeat' first | intro _ | apply And.intro); all_goals (try omega); all_goals (first | grind [cases Img] | (cases a; cases b; simp_all; done) | (obtain ⟨⟨_, _⟩, _⟩ := a; obtain ⟨⟨_, _⟩, _⟩ := b; simp_all; done) | (obtain ⟨_, _, _⟩ := a; obtain ⟨_, _, _⟩ := b; simp_all; done) | (obtain ⟨_, ⟨_, _⟩⟩ := a; obtain ⟨_, ⟨_, _⟩⟩ := b; simp_all; done) | skip)
def C_laws_toMemberS : Con := { ps := [.ro (.list (.st .member))], out := fun x => let a : List (Member) := x.1; .req ((a.length + sumI szMb a : Int) ≤ 1048576) (newL (.st .member) a), det := true }
abbrev L_laws_toMemberS : List (Nat × Con) := [(85, C_laws_toMember)]
def G_laws_toMemberS : Cfg := GK L_laws_toMemberS
def an_laws_toMemberS : PTL C_laws_toMemberS.ps → Nat → Option Ann := fun x kk_ => let a : List (Member) := x.1; if kk_ = 3 then some (.all (Int) fun i => .giv (0 ≤ i ∧ i ≤ a.length) (.mk [(4, ai i), (3, asl 20), (0, al (.st .member) a)] [(20, .row (some 111) (.st .member) (a.take i.toNat ++ List.replicate (a.length - i.toNat) (⟨⟨⟨[]⟩⟩, ⟨[], []⟩⟩ : Member)) true)] ((a.length - i.toNat)))) else none
theorem vc_laws_toMemberS (a : List (Member)) : (KP Tryz.f28 G_laws_toMemberS C_laws_toMemberS an_laws_toMemberS (a, ())) = (a.length ≤ 9223372036854775807 →
 (LN a = LN a ∧ 0 ≤ LN a ∧ LN a ≤ 1000000000000 ∧ @Nat.cast Int _ (64 : Nat) * LN a ≤ 140737488355328) ∧ (∃ (b : Int), 0 = b ∧ a = a ∧ @repl Member (LN a) (Member.mk (ByteArray.mk (@Array.mk UInt8 ([] : List UInt8))) (Objt.mk ([] : List Sect) ([] : List Sym))) = a.take b.toNat ++ @List.replicate Member (a.length - b.toNat) (Member.mk (ByteArray.mk (@Array.mk UInt8 ([] : List UInt8))) (Objt.mk ([] : List Sect) ([] : List Sym))) ∧ (0 ≤ b ∧ b ≤ LN a) ∧ True) ∧ (∀ (c : Int), 0 ≤ c ∧ c ≤ LN a →
 a.length ≤ 9223372036854775807 →
 (decide (c < LN a) = true →
 (0 ≤ c ∧ c < LN a) ∧ (∀ (d : Member), a[c.toNat]? = some d →
 Ok (Ty.st SN.member) d →
 szMb d ≤ 1048576 ∧ (0 ≤ c ∧ c < LN (a.take c.toNat ++ @List.replicate Member (a.length - c.toNat) (Member.mk (ByteArray.mk (@Array.mk UInt8 ([] : List UInt8))) (Objt.mk ([] : List Sect) ([] : List Sym))))) ∧ (∀ (e : Member), (a.take c.toNat ++ @List.replicate Member (a.length - c.toNat) (Member.mk (ByteArray.mk (@Array.mk UInt8 ([] : List UInt8))) (Objt.mk ([] : List Sect) ([] : List Sym))))[c.toNat]? = some e →
 i64 (c + 1) ∧ (∃ (f : Int), c + 1 = f ∧ a = a ∧ (a.take c.toNat ++ @List.replicate Member (a.length - c.toNat) (Member.mk (ByteArray.mk (@Array.mk UInt8 ([] : List UInt8))) (Objt.mk ([] : List Sect) ([] : List Sym)))).set c.toNat d = a.take f.toNat ++ @List.replicate Member (a.length - f.toNat) (Member.mk (ByteArray.mk (@Array.mk UInt8 ([] : List UInt8))) (Objt.mk ([] : List Sect) ([] : List Sym))) ∧ (0 ≤ f ∧ f ≤ LN a) ∧ a.length - f.toNat < a.length - c.toNat)))) ∧ (decide (c < LN a) = false →
 a.take c.toNat ++ @List.replicate Member (a.length - c.toNat) (Member.mk (ByteArray.mk (@Array.mk UInt8 ([] : List UInt8))) (Objt.mk ([] : List Sect) ([] : List Sym))) = a ∧ True))) := by kernel_rfl
theorem det_laws_toMemberS : C_laws_toMemberS.det = true → ∀ x, (C_laws_toMemberS.out x).Det := fun _ x => by simp only [C_laws_toMemberS]; repeat (first | exact Det.ret _ | exact Det.vc' | apply Det.req)
theorem ok_laws_toMemberS : ConOK Tryz.prog 28 C_laws_toMemberS := by
 refine con_q (l := L_laws_toMemberS) ⟨⟨ok_laws_toMember, det_laws_toMember⟩, trivial⟩ Tryz.func28 rfl (by decide) (by kernel_rfl) rfl an_laws_toMemberS fun x ho hx => ?_
 obtain ⟨a, ⟨⟩⟩ := x
 refine Keeps.of (vc_laws_toMemberS a) ?_
 revert a ho hx
 show ∀ (a : List (Member)), _
 intro a ho hx
 dsimp only [C_laws_toMemberS, okPTL, okPT, Ok, Ty.cells, SN.cells, OkL, OkC, okI, ci, cb, cs, cl] at ho
 dsimp only [C_laws_toMemberS, vc, v1, decB, SR.pre] at hx
 have cs := sumI_nn (f := szMb) szMb_nn a
 have ca := fun k x => sumI_at (f := szMb) szMb_nn (l := a) (k := k) (x := x)
 (try delta i64 LN); simp only [VBt]; (repeat' first | intro _ | apply And.intro); all_goals (try omega); all_goals first | exact repl_fill | exact set_fill' ‹_› (by omega) | exact fill_full' (by omega) | (simp only [List.length_take, List.length_replicate, mkd_len, List.length_set, List.length_append]; omega) | (try grind [sumI_at, szPa, szSe, szOb, szSy, szMb])
def C_laws_szMemberS : Con := { ps := [.ro (.list (.st .member)), .ro .i], out := fun x => let a : List (Member) := x.1; let left : Int := x.2.1; .req (0 ≤ left ∧ left ≤ 1048576) (vc .i (szR (a.length + sumI szMb a : Int) left)), det := true }
abbrev L_laws_szMemberS : List (Nat × Con) := [(82, C_laws_szMember)]
def G_laws_szMemberS : Cfg := GK L_laws_szMemberS
def an_laws_szMemberS : PTL C_laws_szMemberS.ps → Nat → Option Ann := fun x kk_ => let a : List (Member) := x.1; let left : Int := x.2.1; if kk_ = 5 then some (.all (Int) fun i => .all (Int) fun m => .giv (0 ≤ i ∧ i ≤ a.length ∧ 0 ≤ m ∧ m ≤ left ∧ szR (a.length + sumI szMb a : Int) left = szR (sumI szMb (a.drop i.toNat)) m) (.mk [(5, ai i), (1, ai m), (0, al (.st .member) a)] [] ((a.length - i.toNat)))) else none
theorem vc_laws_szMemberS (a : List (Member)) (left : Int) : (KP Tryz.f26 G_laws_szMemberS C_laws_szMemberS an_laws_szMemberS (a, left, ())) = (a.length ≤ 9223372036854775807 →
 i64 (left - LN a) ∧ (decide (left - LN a < 0) = true →
 (- (1 : Int)) = szR (LN a + @sumI Member szMb a) left ∧ True) ∧ (decide (left - LN a < 0) = false →
 (∃ (b : Int), (∃ (c : Int), 0 = b ∧ left - LN a = c ∧ a = a ∧ (0 ≤ b ∧ b ≤ LN a ∧ 0 ≤ c ∧ c ≤ left ∧ szR (LN a + @sumI Member szMb a) left = szR (@sumI Member szMb (a.drop b.toNat)) c) ∧ True)) ∧ (∀ (d : Int), (∀ (e : Int), 0 ≤ d ∧ d ≤ LN a ∧ 0 ≤ e ∧ e ≤ left ∧ szR (LN a + @sumI Member szMb a) left = szR (@sumI Member szMb (a.drop d.toNat)) e →
 a.length ≤ 9223372036854775807 →
 (decide (d < LN a) = true →
 (0 ≤ d ∧ d < LN a) ∧ (∀ (f : Member), a[d.toNat]? = some f →
 Ok (Ty.st SN.member) f →
 (0 ≤ e ∧ e ≤ 1048576) ∧ (decide (szR (szMb f) e < 0) = true →
 (- (1 : Int)) = szR (LN a + @sumI Member szMb a) left ∧ True) ∧ (decide (szR (szMb f) e < 0) = false →
 i64 (d + 1) ∧ (∃ (g : Int), (∃ (h : Int), d + 1 = g ∧ szR (szMb f) e = h ∧ a = a ∧ (0 ≤ g ∧ g ≤ LN a ∧ 0 ≤ h ∧ h ≤ left ∧ szR (LN a + @sumI Member szMb a) left = szR (@sumI Member szMb (a.drop g.toNat)) h) ∧ a.length - g.toNat < a.length - d.toNat))))) ∧ (decide (d < LN a) = false →
 e = szR (LN a + @sumI Member szMb a) left ∧ True))))) := by kernel_rfl
theorem det_laws_szMemberS : C_laws_szMemberS.det = true → ∀ x, (C_laws_szMemberS.out x).Det := fun _ x => by simp only [C_laws_szMemberS]; repeat (first | exact Det.ret _ | exact Det.vc' | apply Det.req)
theorem ok_laws_szMemberS : ConOK Tryz.prog 26 C_laws_szMemberS := by
 refine con_q (l := L_laws_szMemberS) ⟨⟨ok_laws_szMember, det_laws_szMember⟩, trivial⟩ Tryz.func26 rfl (by decide) (by kernel_rfl) rfl an_laws_szMemberS fun x ho hx => ?_
 obtain ⟨a, left, ⟨⟩⟩ := x
 refine Keeps.of (vc_laws_szMemberS a left) ?_
 revert a left ho hx
 show ∀ (a : List (Member)) (left : Int), _
 intro a left ho hx
 dsimp only [C_laws_szMemberS, okPTL, okPT, Ok, Ty.cells, SN.cells, OkL, OkC, okI, ci, cb, cs, cl] at ho
 dsimp only [C_laws_szMemberS, vc, v1, decB, SR.pre] at hx
 have cs := sumI_nn (f := szMb) szMb_nn
 (try delta i64 LN); simp only [VBt]; (repeat' first | intro _ | apply And.intro); all_goals (try omega); all_goals first | (unfold szR; split <;> omega) | exact szR_le2 (by first | exact szSe_nn _ | exact szSy_nn _ | exact szOb_nn _ | exact szMb_nn _) ‹_› ‹_› | (try grind [szR, sumI_drop, drop_end, sumI])
def C_laws_eqMemberS : Con := { ps := [.ro (.list (.st .member)), .ro (.list (.st .member))], out := fun x => let a : List (Member) := x.1; let b : List (Member) := x.2.1; vc .bool (decide (a = b)), det := true }
abbrev L_laws_eqMemberS : List (Nat × Con) := [(88, C_laws_eqMember)]
def G_laws_eqMemberS : Cfg := GK L_laws_eqMemberS
def an_laws_eqMemberS : PTL C_laws_eqMemberS.ps → Nat → Option Ann := fun x kk_ => let a : List (Member) := x.1; let b : List (Member) := x.2.1; if kk_ = 4 then some (.all (Int) fun i => .giv (0 ≤ i ∧ i ≤ a.length ∧ a.length = b.length ∧ a.take i.toNat = b.take i.toNat) (.mk [(5, ai i), (0, al (.st .member) a), (1, al (.st .member) b)] [] ((a.length - i.toNat)))) else none
theorem vc_laws_eqMemberS (a : List (Member)) (b : List (Member)) : (KP Tryz.f30 G_laws_eqMemberS C_laws_eqMemberS an_laws_eqMemberS (a, b, ())) = (a.length ≤ 9223372036854775807 →
 b.length ≤ 9223372036854775807 →
 (decide (LN a ≠ LN b) = true →
 false = decide (a = b) ∧ True) ∧ (decide (LN a ≠ LN b) = false →
 (∃ (c : Int), 0 = c ∧ a = a ∧ b = b ∧ (0 ≤ c ∧ c ≤ LN a ∧ a.length = b.length ∧ a.take c.toNat = b.take c.toNat) ∧ True) ∧ (∀ (d : Int), 0 ≤ d ∧ d ≤ LN a ∧ a.length = b.length ∧ a.take d.toNat = b.take d.toNat →
 a.length ≤ 9223372036854775807 →
 (decide (d < LN a) = true →
 (0 ≤ d ∧ d < LN a) ∧ (∀ (e : Member), a[d.toNat]? = some e →
 Ok (Ty.st SN.member) e →
 (0 ≤ d ∧ d < LN b) ∧ (∀ (f : Member), b[d.toNat]? = some f →
 Ok (Ty.st SN.member) f →
 (Bool.not (decide (e = f)) = true →
 false = decide (a = b) ∧ True) ∧ (Bool.not (decide (e = f)) = false →
 i64 (d + 1) ∧ (∃ (g : Int), d + 1 = g ∧ a = a ∧ b = b ∧ (0 ≤ g ∧ g ≤ LN a ∧ a.length = b.length ∧ a.take g.toNat = b.take g.toNat) ∧ a.length - g.toNat < a.length - d.toNat))))) ∧ (decide (d < LN a) = false →
 true = decide (a = b) ∧ True)))) := by kernel_rfl
theorem det_laws_eqMemberS : C_laws_eqMemberS.det = true → ∀ x, (C_laws_eqMemberS.out x).Det := fun _ _ => Det.vc'
theorem ok_laws_eqMemberS : ConOK Tryz.prog 30 C_laws_eqMemberS := by
 refine con_q (l := L_laws_eqMemberS) ⟨⟨ok_laws_eqMember, det_laws_eqMember⟩, trivial⟩ Tryz.func30 rfl (by decide) (by kernel_rfl) rfl an_laws_eqMemberS fun x ho hx => ?_
 obtain ⟨a, b, ⟨⟩⟩ := x
 refine Keeps.of (vc_laws_eqMemberS a b) ?_
 revert a b ho hx
 show ∀ (a : List (Member)) (b : List (Member)), _
 intro a b ho hx
 dsimp only [C_laws_eqMemberS, okPTL, okPT, Ok, Ty.cells, SN.cells, OkL, OkC, okI, ci, cb, cs, cl] at ho
 dsimp only [C_laws_eqMemberS, vc, v1, decB, SR.pre] at hx
 (try delta i64 LN); simp only [VBt]; (repeat' first | intro _ | apply And.intro); all_goals (try omega); all_goals first | grind [take_all', take_next, take_diff] | exact take_next2 (by omega) (by assumption) (by assumption) (by assumption) (by assumption) | exact take_diff2 (by assumption) (by assumption) (by assumption)
def C_laws_markMemberS : Con := { ps := [.row none (.st .member), .ro .i], out := fun x => let a : List (Member) := x.1; let k : Int := x.2.1; .req (0 ≤ k ∧ k + sumI cMb a ≤ 1000000000000) (turnL (.st .member) (mkL mkMb cMb a k) (k + sumI cMb a)), det := true }
abbrev L_laws_markMemberS : List (Nat × Con) := [(89, C_laws_markText), (73, C_laws_markSectionS), (74, C_laws_markSymbolS)]
def G_laws_markMemberS : Cfg := GK L_laws_markMemberS
def an_laws_markMemberS : PTL C_laws_markMemberS.ps → Nat → Option Ann := fun x kk_ => let a : List (Member) := x.1; let k : Int := x.2.1; if kk_ = 2 then some (.all (Int) fun i => .giv (0 ≤ i ∧ i ≤ a.length) (.mk [(5, ai i), (1, ai (k + sumI cMb (a.take i.toNat))), (0, asl 0)] [(0, .row none (.st .member) (mkd mkMb cMb a k i.toNat) true)] ((a.length - i.toNat)))) else none
theorem vc_laws_markMemberS (a : List (Member)) (k : Int) : (KP Tryz.f31 G_laws_markMemberS C_laws_markMemberS an_laws_markMemberS (a, k, ())) = ((∃ (b : Int), 0 = b ∧ k = k + @sumI Member cMb (a.take b.toNat) ∧ a = @mkd Member mkMb cMb a k b.toNat ∧ (0 ≤ b ∧ b ≤ LN a) ∧ True) ∧ (∀ (c : Int), 0 ≤ c ∧ c ≤ LN a →
 (@mkd Member mkMb cMb a k c.toNat).length ≤ 9223372036854775807 →
 (decide (c < LN (@mkd Member mkMb cMb a k c.toNat)) = true →
 (0 ≤ k + @sumI Member cMb (a.take c.toNat) ∧ k + @sumI Member cMb (a.take c.toNat) ≤ 1000000000000) ∧ (0 ≤ c ∧ c < LN (@mkd Member mkMb cMb a k c.toNat)) ∧ (∀ (d : Member), (@mkd Member mkMb cMb a k c.toNat)[c.toNat]? = some d →
 i64 (k + @sumI Member cMb (a.take c.toNat) + 1) ∧ (0 ≤ c ∧ c < LN ((@mkd Member mkMb cMb a k c.toNat).set c.toNat (Member.mk (markT (k + @sumI Member cMb (a.take c.toNat))) d.what))) ∧ (∀ (e : Member), ((@mkd Member mkMb cMb a k c.toNat).set c.toNat (Member.mk (markT (k + @sumI Member cMb (a.take c.toNat))) d.what))[c.toNat]? = some e →
 Ok (Ty.st SN.member) e →
 (∀ (f : Member), ((@mkd Member mkMb cMb a k c.toNat).set c.toNat (Member.mk (markT (k + @sumI Member cMb (a.take c.toNat))) d.what))[c.toNat]? = some f →
 (0 ≤ k + @sumI Member cMb (a.take c.toNat) + 1 ∧ k + @sumI Member cMb (a.take c.toNat) + 1 + @sumI Sect cSe f.what.sects ≤ 1000000000000) ∧ (0 ≤ c ∧ c < LN (((@mkd Member mkMb cMb a k c.toNat).set c.toNat (Member.mk (markT (k + @sumI Member cMb (a.take c.toNat))) d.what)).set c.toNat (Member.mk f.name (Objt.mk (@mkL Sect mkSe cSe f.what.sects (k + @sumI Member cMb (a.take c.toNat) + 1)) f.what.syms)))) ∧ (∀ (g : Member), (((@mkd Member mkMb cMb a k c.toNat).set c.toNat (Member.mk (markT (k + @sumI Member cMb (a.take c.toNat))) d.what)).set c.toNat (Member.mk f.name (Objt.mk (@mkL Sect mkSe cSe f.what.sects (k + @sumI Member cMb (a.take c.toNat) + 1)) f.what.syms)))[c.toNat]? = some g →
 Ok (Ty.st SN.member) g →
 (∀ (h : Member), (((@mkd Member mkMb cMb a k c.toNat).set c.toNat (Member.mk (markT (k + @sumI Member cMb (a.take c.toNat))) d.what)).set c.toNat (Member.mk f.name (Objt.mk (@mkL Sect mkSe cSe f.what.sects (k + @sumI Member cMb (a.take c.toNat) + 1)) f.what.syms)))[c.toNat]? = some h →
 (0 ≤ k + @sumI Member cMb (a.take c.toNat) + 1 + @sumI Sect cSe f.what.sects ∧ k + @sumI Member cMb (a.take c.toNat) + 1 + @sumI Sect cSe f.what.sects + @sumI Sym (@c4 Sym) h.what.syms ≤ 1000000000000) ∧ i64 (c + 1) ∧ (∃ (i : Int), c + 1 = i ∧ k + @sumI Member cMb (a.take c.toNat) + 1 + @sumI Sect cSe f.what.sects + @sumI Sym (@c4 Sym) h.what.syms = k + @sumI Member cMb (a.take i.toNat) ∧ (((@mkd Member mkMb cMb a k c.toNat).set c.toNat (Member.mk (markT (k + @sumI Member cMb (a.take c.toNat))) d.what)).set c.toNat (Member.mk f.name (Objt.mk (@mkL Sect mkSe cSe f.what.sects (k + @sumI Member cMb (a.take c.toNat) + 1)) f.what.syms))).set c.toNat (Member.mk h.name (Objt.mk h.what.sects (@mkL Sym mkSy (@c4 Sym) h.what.syms (k + @sumI Member cMb (a.take c.toNat) + 1 + @sumI Sect cSe f.what.sects)))) = @mkd Member mkMb cMb a k i.toNat ∧ (0 ≤ i ∧ i ≤ LN a) ∧ a.length - i.toNat < a.length - c.toNat))))))) ∧ (decide (c < LN (@mkd Member mkMb cMb a k c.toNat)) = false →
 k + @sumI Member cMb (a.take c.toNat) = k + @sumI Member cMb a ∧ @mkd Member mkMb cMb a k c.toNat = @mkL Member mkMb cMb a k ∧ True))) := by kernel_rfl
theorem det_laws_markMemberS : C_laws_markMemberS.det = true → ∀ x, (C_laws_markMemberS.out x).Det := fun _ x => by simp only [C_laws_markMemberS]; repeat (first | exact Det.ret _ | exact Det.vc' | apply Det.req)
theorem ok_laws_markMemberS : ConOK Tryz.prog 31 C_laws_markMemberS := by
 refine con_q (l := L_laws_markMemberS) ⟨⟨ok_laws_markText, det_laws_markText⟩, ⟨⟨ok_laws_markSectionS, det_laws_markSectionS⟩, ⟨⟨ok_laws_markSymbolS, det_laws_markSymbolS⟩, trivial⟩⟩⟩ Tryz.func31 rfl (by decide) (by kernel_rfl) rfl an_laws_markMemberS fun x ho hx => ?_
 obtain ⟨a, k, ⟨⟩⟩ := x
 refine Keeps.of (vc_laws_markMemberS a k) ?_
 revert a k ho hx
 show ∀ (a : List (Member)) (k : Int), _
 intro a k ho hx
 dsimp only [C_laws_markMemberS, okPTL, okPT, Ok, Ty.cells, SN.cells, OkL, OkC, okI, ci, cb, cs, cl] at ho
 dsimp only [C_laws_markMemberS, vc, v1, decB, SR.pre] at hx
 have cn : ∀ x : Member, 0 ≤ cMb x := cMb_nn
 have cl := sumI_le cn a
 have cs := sumI_nn cn
 have cb := fun i x => sumI_tk cn (l := a) (i := i) (x := x)
 have g1 := @cOne_ge Int
 have g2 := @c4_ge Fixup
 have g3 := @c4_ge Sym
 have g4 := cSe_ge
 (try delta i64 LN); simp only [VBt]; (repeat' first | intro _ | apply And.intro); all_goals (try omega); all_goals first | (simp only [List.length_take, List.length_replicate, mkd_len, List.length_set, List.length_append]; omega) | exact mkd_full' (by omega) | exact (mkd_zero _ _).symm | exact mkd_set' (by assumption) (by omega) (by subst_vars; simp [mkRg, mkFx, mkSy, mkPa, mkSe, mkMb, mkOb, mkIL, Int.add_assoc]) | (try grind [mkd_len, mkd_get, mkd_zero, sumI_next, sumI_all, cOne, c4, cPa, cSe, cOb, cMb, cIL, sumI])
end Go.Proofs.YtfdngmkmeeaeeaaGreat
