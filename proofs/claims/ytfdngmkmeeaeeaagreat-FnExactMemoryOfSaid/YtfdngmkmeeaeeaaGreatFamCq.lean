/- The laws' families: structs. -/
import Derived.Test.YtfdngmkmeeaeeaaGreatFamBq
set_option linter.unusedVariables false
set_option linter.unusedSimpArgs false
set_option maxRecDepth 200000
set_option maxHeartbeats 4000000
namespace Go.Proofs.YtfdngmkmeeaeeaaGreat
open Go Go.RowKit


def C_laws_eqRegion : Con := { ps := [.ro (.st .region), .ro (.st .region)], out := fun x => let a : Region := x.1; let b : Region := x.2.1; vc .bool (decide (a = b)), det := true }
abbrev L_laws_eqRegion : List (Nat × Con) := []
def G_laws_eqRegion : Cfg := GK L_laws_eqRegion
def an_laws_eqRegion : PTL C_laws_eqRegion.ps → Nat → Option Ann := fun _ _ => none
theorem vc_laws_eqRegion (a : Region) (b : Region) : (KP Tryz.f143 G_laws_eqRegion C_laws_eqRegion an_laws_eqRegion (a, b, ())) = ((decide (a.from_ ≠ b.from_) = true →
 false = decide (a = b) ∧ True) ∧ (decide (a.from_ ≠ b.from_) = false →
 (decide (a.to ≠ b.to) = true →
 false = decide (a = b) ∧ True) ∧ (decide (a.to ≠ b.to) = false →
 (decide (a.write ≠ b.write) = true →
 false = decide (a = b) ∧ True) ∧ (decide (a.write ≠ b.write) = false →
 (decide (a.run ≠ b.run) = true →
 false = decide (a = b) ∧ True) ∧ (decide (a.run ≠ b.run) = false →
 true = decide (a = b) ∧ True))))) := by kernel_rfl
theorem det_laws_eqRegion : C_laws_eqRegion.det = true → ∀ x, (C_laws_eqRegion.out x).Det := fun _ _ => Det.vc'
theorem ok_laws_eqRegion : ConOK Tryz.prog 143 C_laws_eqRegion := by
 refine con_q (l := L_laws_eqRegion) trivial Tryz.func143 rfl (by decide) (by kernel_rfl) rfl an_laws_eqRegion fun x ho hx => ?_
 obtain ⟨a, b, ⟨⟩⟩ := x
 refine Keeps.of (vc_laws_eqRegion a b) ?_
 revert a b ho hx
 show ∀ (a : Region) (b : Region), _
 intro a b ho hx
 dsimp only [C_laws_eqRegion, okPTL, okPT, Ok, Ty.cells, SN.cells, OkL, OkC, okI, ci, cb, cs, cl] at ho
 dsimp only [C_laws_eqRegion, vc, v1, decB, SR.pre] at hx
 (try delta i64 LN); simp only [VBt]; (repeat' first | intro _ | apply And.intro); all_goals (try omega); all_goals (first | grind [cases Img] | (cases a; cases b; simp_all; done) | (obtain ⟨⟨_, _⟩, _⟩ := a; obtain ⟨⟨_, _⟩, _⟩ := b; simp_all; done) | (obtain ⟨_, _, _⟩ := a; obtain ⟨_, _, _⟩ := b; simp_all; done) | (obtain ⟨_, ⟨_, _⟩⟩ := a; obtain ⟨_, ⟨_, _⟩⟩ := b; simp_all; done) | skip)
def C_laws_eqRegionS : Con := { ps := [.ro (.list (.st .region)), .ro (.list (.st .region))], out := fun x => let a : List (Region) := x.1; let b : List (Region) := x.2.1; vc .bool (decide (a = b)), det := true }
abbrev L_laws_eqRegionS : List (Nat × Con) := [(143, C_laws_eqRegion)]
def G_laws_eqRegionS : Cfg := GK L_laws_eqRegionS
def an_laws_eqRegionS : PTL C_laws_eqRegionS.ps → Nat → Option Ann := fun x kk_ => let a : List (Region) := x.1; let b : List (Region) := x.2.1; if kk_ = 4 then some (.all (Int) fun i => .giv (0 ≤ i ∧ i ≤ a.length ∧ a.length = b.length ∧ a.take i.toNat = b.take i.toNat) (.mk [(5, ai i), (0, al (.st .region) a), (1, al (.st .region) b)] [] ((a.length - i.toNat)))) else none
theorem vc_laws_eqRegionS (a : List (Region)) (b : List (Region)) : (KP Tryz.f79 G_laws_eqRegionS C_laws_eqRegionS an_laws_eqRegionS (a, b, ())) = (a.length ≤ 9223372036854775807 →
 b.length ≤ 9223372036854775807 →
 (decide (LN a ≠ LN b) = true →
 false = decide (a = b) ∧ True) ∧ (decide (LN a ≠ LN b) = false →
 (∃ (c : Int), 0 = c ∧ a = a ∧ b = b ∧ (0 ≤ c ∧ c ≤ LN a ∧ a.length = b.length ∧ a.take c.toNat = b.take c.toNat) ∧ True) ∧ (∀ (d : Int), 0 ≤ d ∧ d ≤ LN a ∧ a.length = b.length ∧ a.take d.toNat = b.take d.toNat →
 a.length ≤ 9223372036854775807 →
 (decide (d < LN a) = true →
 (0 ≤ d ∧ d < LN a) ∧ (∀ (e : Region), a[d.toNat]? = some e →
 Ok (Ty.st SN.region) e →
 (0 ≤ d ∧ d < LN b) ∧ (∀ (f : Region), b[d.toNat]? = some f →
 Ok (Ty.st SN.region) f →
 (Bool.not (decide (e = f)) = true →
 false = decide (a = b) ∧ True) ∧ (Bool.not (decide (e = f)) = false →
 i64 (d + 1) ∧ (∃ (g : Int), d + 1 = g ∧ a = a ∧ b = b ∧ (0 ≤ g ∧ g ≤ LN a ∧ a.length = b.length ∧ a.take g.toNat = b.take g.toNat) ∧ a.length - g.toNat < a.length - d.toNat))))) ∧ (decide (d < LN a) = false →
 true = decide (a = b) ∧ True)))) := by kernel_rfl
theorem det_laws_eqRegionS : C_laws_eqRegionS.det = true → ∀ x, (C_laws_eqRegionS.out x).Det := fun _ _ => Det.vc'
theorem ok_laws_eqRegionS : ConOK Tryz.prog 79 C_laws_eqRegionS := by
 refine con_q (l := L_laws_eqRegionS) ⟨⟨ok_laws_eqRegion, det_laws_eqRegion⟩, trivial⟩ Tryz.func79 rfl (by decide) (by kernel_rfl) rfl an_laws_eqRegionS fun x ho hx => ?_
 obtain ⟨a, b, ⟨⟩⟩ := x
 refine Keeps.of (vc_laws_eqRegionS a b) ?_
 revert a b ho hx
 show ∀ (a : List (Region)) (b : List (Region)), _
 intro a b ho hx
 dsimp only [C_laws_eqRegionS, okPTL, okPT, Ok, Ty.cells, SN.cells, OkL, OkC, okI, ci, cb, cs, cl] at ho
 dsimp only [C_laws_eqRegionS, vc, v1, decB, SR.pre] at hx
 (try delta i64 LN); simp only [VBt]; (repeat' first | intro _ | apply And.intro); all_goals (try omega); all_goals first | grind [take_all', take_next, take_diff] | exact take_next2 (by omega) (by assumption) (by assumption) (by assumption) (by assumption) | exact take_diff2 (by assumption) (by assumption) (by assumption)
def C_laws_markRegionS : Con := { ps := [.row none (.st .region), .ro .i], out := fun x => let a : List (Region) := x.1; let k : Int := x.2.1; .req (0 ≤ k ∧ k + sumI c4 a ≤ 1000000000000) (turnL (.st .region) (mkL mkRg c4 a k) (k + sumI c4 a)), det := true }
abbrev L_laws_markRegionS : List (Nat × Con) := []
def G_laws_markRegionS : Cfg := GK L_laws_markRegionS
def an_laws_markRegionS : PTL C_laws_markRegionS.ps → Nat → Option Ann := fun x kk_ => let a : List (Region) := x.1; let k : Int := x.2.1; if kk_ = 2 then some (.all (Int) fun i => .giv (0 ≤ i ∧ i ≤ a.length) (.mk [(5, ai i), (1, ai (k + sumI c4 (a.take i.toNat))), (0, asl 0)] [(0, .row none (.st .region) (mkd mkRg c4 a k i.toNat) true)] ((a.length - i.toNat)))) else none
theorem vc_laws_markRegionS (a : List (Region)) (k : Int) : (KP Tryz.f80 G_laws_markRegionS C_laws_markRegionS an_laws_markRegionS (a, k, ())) = ((∃ (b : Int), 0 = b ∧ k = k + @sumI Region (@c4 Region) (a.take b.toNat) ∧ a = @mkd Region mkRg (@c4 Region) a k b.toNat ∧ (0 ≤ b ∧ b ≤ LN a) ∧ True) ∧ (∀ (c : Int), 0 ≤ c ∧ c ≤ LN a →
 (@mkd Region mkRg (@c4 Region) a k c.toNat).length ≤ 9223372036854775807 →
 (decide (c < LN (@mkd Region mkRg (@c4 Region) a k c.toNat)) = true →
 (0 ≤ c ∧ c < LN (@mkd Region mkRg (@c4 Region) a k c.toNat)) ∧ (∀ (d : Region), (@mkd Region mkRg (@c4 Region) a k c.toNat)[c.toNat]? = some d →
 i64 (k + @sumI Region (@c4 Region) (a.take c.toNat) + 1) ∧ (0 ≤ c ∧ c < LN ((@mkd Region mkRg (@c4 Region) a k c.toNat).set c.toNat (Region.mk (k + @sumI Region (@c4 Region) (a.take c.toNat)) d.to d.write d.run))) ∧ (∀ (e : Region), ((@mkd Region mkRg (@c4 Region) a k c.toNat).set c.toNat (Region.mk (k + @sumI Region (@c4 Region) (a.take c.toNat)) d.to d.write d.run))[c.toNat]? = some e →
 i64 (k + @sumI Region (@c4 Region) (a.take c.toNat) + 1 + 1) ∧ (0 ≤ k + @sumI Region (@c4 Region) (a.take c.toNat) + 1 + 1 ∧ (0 : Int) < (3 : Int)) ∧ (0 ≤ c ∧ c < LN (((@mkd Region mkRg (@c4 Region) a k c.toNat).set c.toNat (Region.mk (k + @sumI Region (@c4 Region) (a.take c.toNat)) d.to d.write d.run)).set c.toNat (Region.mk e.from_ (k + @sumI Region (@c4 Region) (a.take c.toNat) + 1) e.write e.run))) ∧ (∀ (f : Region), (((@mkd Region mkRg (@c4 Region) a k c.toNat).set c.toNat (Region.mk (k + @sumI Region (@c4 Region) (a.take c.toNat)) d.to d.write d.run)).set c.toNat (Region.mk e.from_ (k + @sumI Region (@c4 Region) (a.take c.toNat) + 1) e.write e.run))[c.toNat]? = some f →
 i64 (k + @sumI Region (@c4 Region) (a.take c.toNat) + 1 + 1 + 1) ∧ (0 ≤ k + @sumI Region (@c4 Region) (a.take c.toNat) + 1 + 1 + 1 ∧ (0 : Int) < (3 : Int)) ∧ (0 ≤ c ∧ c < LN ((((@mkd Region mkRg (@c4 Region) a k c.toNat).set c.toNat (Region.mk (k + @sumI Region (@c4 Region) (a.take c.toNat)) d.to d.write d.run)).set c.toNat (Region.mk e.from_ (k + @sumI Region (@c4 Region) (a.take c.toNat) + 1) e.write e.run)).set c.toNat (Region.mk f.from_ f.to (decide ((k + @sumI Region (@c4 Region) (a.take c.toNat) + 1 + 1) % 3 = 0)) f.run))) ∧ (∀ (g : Region), ((((@mkd Region mkRg (@c4 Region) a k c.toNat).set c.toNat (Region.mk (k + @sumI Region (@c4 Region) (a.take c.toNat)) d.to d.write d.run)).set c.toNat (Region.mk e.from_ (k + @sumI Region (@c4 Region) (a.take c.toNat) + 1) e.write e.run)).set c.toNat (Region.mk f.from_ f.to (decide ((k + @sumI Region (@c4 Region) (a.take c.toNat) + 1 + 1) % 3 = 0)) f.run))[c.toNat]? = some g →
 i64 (k + @sumI Region (@c4 Region) (a.take c.toNat) + 1 + 1 + 1 + 1) ∧ i64 (c + 1) ∧ (∃ (h : Int), c + 1 = h ∧ k + @sumI Region (@c4 Region) (a.take c.toNat) + 1 + 1 + 1 + 1 = k + @sumI Region (@c4 Region) (a.take h.toNat) ∧ ((((@mkd Region mkRg (@c4 Region) a k c.toNat).set c.toNat (Region.mk (k + @sumI Region (@c4 Region) (a.take c.toNat)) d.to d.write d.run)).set c.toNat (Region.mk e.from_ (k + @sumI Region (@c4 Region) (a.take c.toNat) + 1) e.write e.run)).set c.toNat (Region.mk f.from_ f.to (decide ((k + @sumI Region (@c4 Region) (a.take c.toNat) + 1 + 1) % 3 = 0)) f.run)).set c.toNat (Region.mk g.from_ g.to g.write (decide ((k + @sumI Region (@c4 Region) (a.take c.toNat) + 1 + 1 + 1) % 3 = 0))) = @mkd Region mkRg (@c4 Region) a k h.toNat ∧ (0 ≤ h ∧ h ≤ LN a) ∧ a.length - h.toNat < a.length - c.toNat)))))) ∧ (decide (c < LN (@mkd Region mkRg (@c4 Region) a k c.toNat)) = false →
 k + @sumI Region (@c4 Region) (a.take c.toNat) = k + @sumI Region (@c4 Region) a ∧ @mkd Region mkRg (@c4 Region) a k c.toNat = @mkL Region mkRg (@c4 Region) a k ∧ True))) := by kernel_rfl
theorem det_laws_markRegionS : C_laws_markRegionS.det = true → ∀ x, (C_laws_markRegionS.out x).Det := fun _ x => by simp only [C_laws_markRegionS]; repeat (first | exact Det.ret _ | exact Det.vc' | apply Det.req)
theorem ok_laws_markRegionS : ConOK Tryz.prog 80 C_laws_markRegionS := by
 refine con_q (l := L_laws_markRegionS) trivial Tryz.func80 rfl (by decide) (by kernel_rfl) rfl an_laws_markRegionS fun x ho hx => ?_
 obtain ⟨a, k, ⟨⟩⟩ := x
 refine Keeps.of (vc_laws_markRegionS a k) ?_
 revert a k ho hx
 show ∀ (a : List (Region)) (k : Int), _
 intro a k ho hx
 dsimp only [C_laws_markRegionS, okPTL, okPT, Ok, Ty.cells, SN.cells, OkL, OkC, okI, ci, cb, cs, cl] at ho
 dsimp only [C_laws_markRegionS, vc, v1, decB, SR.pre] at hx
 have cn : ∀ x : Region, 0 ≤ c4 x := c4_nn
 have cl := sumI_le cn a
 have cs := sumI_nn cn
 (try delta i64 LN); simp only [VBt]; (repeat' first | intro _ | apply And.intro); all_goals (try omega); all_goals first | (simp only [List.length_take, List.length_replicate, mkd_len, List.length_set, List.length_append]; omega) | exact mkd_full' (by omega) | exact (mkd_zero _ _).symm | exact mkd_set' (by assumption) (by omega) (by subst_vars; simp [mkRg, mkFx, mkSy, mkPa, mkSe, mkMb, mkOb, mkIL, Int.add_assoc]) | (try grind [mkd_len, mkd_get, mkd_zero, sumI_next, sumI_all, cOne, c4, cPa, cSe, cOb, cMb, cIL, sumI])
def C_laws_heldRegionS : Con := { ps := [.ro (.list (.st .region)), .ro .i], out := fun x => let a : List (Region) := x.1; let k : Int := x.2.1; .req (0 ≤ k ∧ k + sumI c4 a ≤ 1000000000000) (vc .i (hdL hRg a k)), det := true }
abbrev L_laws_heldRegionS : List (Nat × Con) := []
def G_laws_heldRegionS : Cfg := GK L_laws_heldRegionS
def an_laws_heldRegionS : PTL C_laws_heldRegionS.ps → Nat → Option Ann := fun x kk_ => let a : List (Region) := x.1; let k : Int := x.2.1; if kk_ = 2 then some (.all (Int) fun i => .all (Int) fun m => .giv (0 ≤ i ∧ i ≤ a.length ∧ 0 ≤ m ∧ m + sumI c4 (a.drop i.toNat) ≤ 1000000000000 ∧ hdL hRg a k = hdL hRg (a.drop i.toNat) m) (.mk [(5, ai i), (1, ai m), (0, al (.st .region) a)] [] ((a.length - i.toNat)))) else none
theorem vc_laws_heldRegionS (a : List (Region)) (k : Int) : (KP Tryz.f81 G_laws_heldRegionS C_laws_heldRegionS an_laws_heldRegionS (a, k, ())) = ((∃ (b : Int), (∃ (c : Int), 0 = b ∧ k = c ∧ a = a ∧ (0 ≤ b ∧ b ≤ LN a ∧ 0 ≤ c ∧ c + @sumI Region (@c4 Region) (a.drop b.toNat) ≤ 1000000000000 ∧ @hdL Region hRg a k = @hdL Region hRg (a.drop b.toNat) c) ∧ True)) ∧ (∀ (d : Int), (∀ (e : Int), 0 ≤ d ∧ d ≤ LN a ∧ 0 ≤ e ∧ e + @sumI Region (@c4 Region) (a.drop d.toNat) ≤ 1000000000000 ∧ @hdL Region hRg a k = @hdL Region hRg (a.drop d.toNat) e →
 a.length ≤ 9223372036854775807 →
 (decide (d < LN a) = true →
 (0 ≤ d ∧ d < LN a) ∧ (∀ (f : Region), a[d.toNat]? = some f →
 Ok (Ty.st SN.region) f →
 (decide (f.from_ ≠ e) = true →
 (- (1 : Int)) = @hdL Region hRg a k ∧ True) ∧ (decide (f.from_ ≠ e) = false →
 i64 (e + 1) ∧ (0 ≤ d ∧ d < LN a) ∧ (∀ (g : Region), a[d.toNat]? = some g →
 Ok (Ty.st SN.region) g →
 (decide (g.to ≠ e + 1) = true →
 (- (1 : Int)) = @hdL Region hRg a k ∧ True) ∧ (decide (g.to ≠ e + 1) = false →
 i64 (e + 1 + 1) ∧ (0 ≤ d ∧ d < LN a) ∧ (∀ (h : Region), a[d.toNat]? = some h →
 Ok (Ty.st SN.region) h →
 (0 ≤ e + 1 + 1 ∧ (0 : Int) < (3 : Int)) ∧ (decide (h.write ≠ decide ((e + 1 + 1) % 3 = 0)) = true →
 (- (1 : Int)) = @hdL Region hRg a k ∧ True) ∧ (decide (h.write ≠ decide ((e + 1 + 1) % 3 = 0)) = false →
 i64 (e + 1 + 1 + 1) ∧ (0 ≤ d ∧ d < LN a) ∧ (∀ (i : Region), a[d.toNat]? = some i →
 Ok (Ty.st SN.region) i →
 (0 ≤ e + 1 + 1 + 1 ∧ (0 : Int) < (3 : Int)) ∧ (decide (i.run ≠ decide ((e + 1 + 1 + 1) % 3 = 0)) = true →
 (- (1 : Int)) = @hdL Region hRg a k ∧ True) ∧ (decide (i.run ≠ decide ((e + 1 + 1 + 1) % 3 = 0)) = false →
 i64 (e + 1 + 1 + 1 + 1) ∧ i64 (d + 1) ∧ (∃ (j : Int), (∃ (l : Int), d + 1 = j ∧ e + 1 + 1 + 1 + 1 = l ∧ a = a ∧ (0 ≤ j ∧ j ≤ LN a ∧ 0 ≤ l ∧ l + @sumI Region (@c4 Region) (a.drop j.toNat) ≤ 1000000000000 ∧ @hdL Region hRg a k = @hdL Region hRg (a.drop j.toNat) l) ∧ a.length - j.toNat < a.length - d.toNat))))))))))) ∧ (decide (d < LN a) = false →
 e = @hdL Region hRg a k ∧ True)))) := by kernel_rfl
theorem det_laws_heldRegionS : C_laws_heldRegionS.det = true → ∀ x, (C_laws_heldRegionS.out x).Det := fun _ x => by simp only [C_laws_heldRegionS]; repeat (first | exact Det.ret _ | exact Det.vc' | apply Det.req)
theorem ok_laws_heldRegionS : ConOK Tryz.prog 81 C_laws_heldRegionS := by
 refine con_q (l := L_laws_heldRegionS) trivial Tryz.func81 rfl (by decide) (by kernel_rfl) rfl an_laws_heldRegionS fun x ho hx => ?_
 obtain ⟨a, k, ⟨⟩⟩ := x
 refine Keeps.of (vc_laws_heldRegionS a k) ?_
 revert a k ho hx
 show ∀ (a : List (Region)) (k : Int), _
 intro a k ho hx
 dsimp only [C_laws_heldRegionS, okPTL, okPT, Ok, Ty.cells, SN.cells, OkL, OkC, okI, ci, cb, cs, cl] at ho
 dsimp only [C_laws_heldRegionS, vc, v1, decB, SR.pre] at hx
 have cn : ∀ x : Region, 0 ≤ c4 x := c4_nn
 have cs := sumI_nn cn
 (try delta i64 LN); simp +contextual only [VBt]; (repeat' first | intro _ | apply And.intro); all_goals (try omega); all_goals first | (simp only [List.length_take, List.length_replicate, mkd_len, List.length_set, List.length_append]; omega) | (try grind [hdL_drop, sumI_drop, drop_end, hdL, sumI, cOne, c4, cPa, cSe, cOb, cMb, cIL, hRg, hFx, hSy, hPa, hSe, hOb, hMb, hIL])
def C_laws_eqMemory : Con := { ps := [.ro (.st .mem), .ro (.st .mem)], out := fun x => let a : Memo := x.1; let b : Memo := x.2.1; vc .bool (decide (a = b)), det := true }
abbrev L_laws_eqMemory : List (Nat × Con) := [(16, C_laws_eqImage), (79, C_laws_eqRegionS)]
def G_laws_eqMemory : Cfg := GK L_laws_eqMemory
def an_laws_eqMemory : PTL C_laws_eqMemory.ps → Nat → Option Ann := fun _ _ => none
theorem vc_laws_eqMemory (a : Memo) (b : Memo) : (KP Tryz.f23 G_laws_eqMemory C_laws_eqMemory an_laws_eqMemory (a, b, ())) = ((Bool.not (decide (a.what = b.what)) = true →
 false = decide (a = b) ∧ True) ∧ (Bool.not (decide (a.what = b.what)) = false →
 (Bool.not (decide (a.regions = b.regions)) = true →
 false = decide (a = b) ∧ True) ∧ (Bool.not (decide (a.regions = b.regions)) = false →
 true = decide (a = b) ∧ True))) := by kernel_rfl
theorem det_laws_eqMemory : C_laws_eqMemory.det = true → ∀ x, (C_laws_eqMemory.out x).Det := fun _ _ => Det.vc'
theorem ok_laws_eqMemory : ConOK Tryz.prog 23 C_laws_eqMemory := by
 refine con_q (l := L_laws_eqMemory) ⟨⟨ok_laws_eqImage, det_laws_eqImage⟩, ⟨⟨ok_laws_eqRegionS, det_laws_eqRegionS⟩, trivial⟩⟩ Tryz.func23 rfl (by decide) (by kernel_rfl) rfl an_laws_eqMemory fun x ho hx => ?_
 obtain ⟨a, b, ⟨⟩⟩ := x
 refine Keeps.of (vc_laws_eqMemory a b) ?_
 revert a b ho hx
 show ∀ (a : Memo) (b : Memo), _
 intro a b ho hx
 dsimp only [C_laws_eqMemory, okPTL, okPT, Ok, Ty.cells, SN.cells, OkL, OkC, okI, ci, cb, cs, cl] at ho
 dsimp only [C_laws_eqMemory, vc, v1, decB, SR.pre] at hx
 (try delta i64 LN); simp only [VBt]; (repeat' first | intro _ | apply And.intro); all_goals (try omega); all_goals (first | grind [cases Img] | (cases a; cases b; simp_all; done) | (obtain ⟨⟨_, _⟩, _⟩ := a; obtain ⟨⟨_, _⟩, _⟩ := b; simp_all; done) | (obtain ⟨_, _, _⟩ := a; obtain ⟨_, _, _⟩ := b; simp_all; done) | (obtain ⟨_, ⟨_, _⟩⟩ := a; obtain ⟨_, ⟨_, _⟩⟩ := b; simp_all; done) | skip)
def C_laws_markMemory : Con := { ps := [.own .mem, .ro .i], out := fun x => let a : Memo := x.1; let k : Int := x.2.1; .req (0 ≤ k ∧ k + cMe a ≤ 1000000000000) (turnS .mem (mkMe a k) (k + cMe a)), det := true }
abbrev L_laws_markMemory : List (Nat × Con) := [(19, C_laws_markImage), (80, C_laws_markRegionS)]
def G_laws_markMemory : Cfg := GK L_laws_markMemory
def an_laws_markMemory : PTL C_laws_markMemory.ps → Nat → Option Ann := fun _ _ => none
theorem vc_laws_markMemory (a : Memo) (k : Int) : (KP Tryz.f24 G_laws_markMemory C_laws_markMemory an_laws_markMemory (a, k, ())) = ((0 ≤ k ∧ k + cIm a.what ≤ 1000000000000) ∧ (0 ≤ k + cIm a.what ∧ k + cIm a.what + @sumI Region (@c4 Region) a.regions ≤ 1000000000000) ∧ k + cIm a.what + @sumI Region (@c4 Region) a.regions = k + cMe a ∧ @mkL Int mkU (@cOne Int) a.what.bytes k = (mkMe a k).what.bytes ∧ @mkL Region mkRg (@c4 Region) a.regions (k + cIm a.what) = (mkMe a k).regions ∧ True) := by kernel_rfl
theorem det_laws_markMemory : C_laws_markMemory.det = true → ∀ x, (C_laws_markMemory.out x).Det := fun _ x => by simp only [C_laws_markMemory]; repeat (first | exact Det.ret _ | exact Det.vc' | apply Det.req)
theorem ok_laws_markMemory : ConOK Tryz.prog 24 C_laws_markMemory := by
 refine con_q (l := L_laws_markMemory) ⟨⟨ok_laws_markImage, det_laws_markImage⟩, ⟨⟨ok_laws_markRegionS, det_laws_markRegionS⟩, trivial⟩⟩ Tryz.func24 rfl (by decide) (by kernel_rfl) rfl an_laws_markMemory fun x ho hx => ?_
 obtain ⟨a, k, ⟨⟩⟩ := x
 refine Keeps.of (vc_laws_markMemory a k) ?_
 revert a k ho hx
 show ∀ (a : Memo) (k : Int), _
 intro a k ho hx
 dsimp only [C_laws_markMemory, okPTL, okPT, Ok, Ty.cells, SN.cells, OkL, OkC, okI, ci, cb, cs, cl] at ho
 dsimp only [C_laws_markMemory, vc, v1, decB, SR.pre] at hx
 have f0 := cOne_ge a.what.bytes
 have f1 := c4_ge a.regions
 (try delta i64 LN); simp only [VBt]; (repeat' first | intro _ | apply And.intro); all_goals (try omega); all_goals (first | grind [cIm, mkIm, cMe, mkMe, cHa, mkHa, cOb, mkOb] | (simp only [cIm, mkIm, cMe, mkMe, cHa, mkHa, cOb, mkOb] at *; omega) | (simp [cIm, mkIm, cMe, mkMe, cHa, mkHa, cOb, mkOb]) | skip)
def C_laws_heldMemory : Con := { ps := [.ro (.st .mem), .ro .i], out := fun x => let a : Memo := x.1; let k : Int := x.2.1; .req (0 ≤ k ∧ k + cMe a ≤ 1000000000000) (vc .i (hMe a k)), det := true }
abbrev L_laws_heldMemory : List (Nat × Con) := [(20, C_laws_heldImage), (81, C_laws_heldRegionS)]
def G_laws_heldMemory : Cfg := GK L_laws_heldMemory
def an_laws_heldMemory : PTL C_laws_heldMemory.ps → Nat → Option Ann := fun _ _ => none
theorem vc_laws_heldMemory (a : Memo) (k : Int) : (KP Tryz.f25 G_laws_heldMemory C_laws_heldMemory an_laws_heldMemory (a, k, ())) = ((0 ≤ k ∧ k + cIm a.what ≤ 1000000000000) ∧ (decide (hIm a.what k < 0) = true →
 (- (1 : Int)) = hMe a k ∧ True) ∧ (decide (hIm a.what k < 0) = false →
 (0 ≤ hIm a.what k ∧ hIm a.what k + @sumI Region (@c4 Region) a.regions ≤ 1000000000000) ∧ (decide (@hdL Region hRg a.regions (hIm a.what k) < 0) = true →
 (- (1 : Int)) = hMe a k ∧ True) ∧ (decide (@hdL Region hRg a.regions (hIm a.what k) < 0) = false →
 @hdL Region hRg a.regions (hIm a.what k) = hMe a k ∧ True))) := by kernel_rfl
theorem det_laws_heldMemory : C_laws_heldMemory.det = true → ∀ x, (C_laws_heldMemory.out x).Det := fun _ x => by simp only [C_laws_heldMemory]; repeat (first | exact Det.ret _ | exact Det.vc' | apply Det.req)
theorem ok_laws_heldMemory : ConOK Tryz.prog 25 C_laws_heldMemory := by
 refine con_q (l := L_laws_heldMemory) ⟨⟨ok_laws_heldImage, det_laws_heldImage⟩, ⟨⟨ok_laws_heldRegionS, det_laws_heldRegionS⟩, trivial⟩⟩ Tryz.func25 rfl (by decide) (by kernel_rfl) rfl an_laws_heldMemory fun x ho hx => ?_
 obtain ⟨a, k, ⟨⟩⟩ := x
 refine Keeps.of (vc_laws_heldMemory a k) ?_
 revert a k ho hx
 show ∀ (a : Memo) (k : Int), _
 intro a k ho hx
 dsimp only [C_laws_heldMemory, okPTL, okPT, Ok, Ty.cells, SN.cells, OkL, OkC, okI, ci, cb, cs, cl] at ho
 dsimp only [C_laws_heldMemory, vc, v1, decB, SR.pre] at hx
 have f0 := cOne_ge a.what.bytes
 have f1 := c4_ge a.regions
 have f2 := hdU_or a.what.bytes k
 have f3 := hdRg_or a.regions (k + sumI cOne a.what.bytes)
 (try delta i64 LN); simp only [VBt]; (repeat' first | intro _ | apply And.intro); all_goals (try omega); all_goals (try grind [hIm, cIm, hMe, cMe, hHa, cHa, hOb, cOb])
end Go.Proofs.YtfdngmkmeeaeeaaGreat
