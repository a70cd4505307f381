/- The readers of images, memories and patches. -/
import Derived.Test.YtpgglbnagphgoaaGreatImgS
import Derived.Test.YtpgglbnagphgoaaGreatObjDS
set_option linter.unusedVariables false
set_option linter.unusedSimpArgs false
set_option maxRecDepth 200000
set_option maxHeartbeats 4000000
namespace Go.Proofs.YtpgglbnagphgoaaGreat
open Go Go.RowKit


def rdV (v : AV) (p : Int) : SR := .ret { val := v, wr := [(0, 1, .c (ci p))] }
def rdE (e : TypeId) (t : Ty) (l : List t.den) (p : Int) : SR := .ret { val := .one (.sl 100 []), ins := [(100, .row (some e) t l true)], wr := [(0, 1, .c (ci p))] }
def rdS (s : SN) (x : s.den) (p : Int) : SR := .ret { val := .agg (encO 100 (s.cells x)).1, ins := (encO 100 (s.cells x)).2.1, wr := [(0, 1, .c (ci p))] }
def byB (l : List Int) : Prop := l.all (fun x => decide (0 ≤ x ∧ x ≤ 255)) = true
instance (l : List Int) : Decidable (byB l) := by unfold byB; infer_instance
theorem byB_nil : byB [] := rfl
theorem byB_app {l : List Int} {x : Int} (h : byB l) (h0 : 0 ≤ x) (h1 : x ≤ 255) : byB (l ++ [x]) := by
 unfold byB at *
 rw [List.all_append, h]
 simp [h0, h1]
theorem repl_len {α : Type} (n : Int) (x : α) : (repl n x).length = n.toNat := by simp [repl]
def imgBd (m : Img) : Prop := decide (-8 ≤ m.base ∧ m.base ≤ 4104 ∧ m.bytes.length ≤ 2001 ∧ byB m.bytes) = true
instance (m : Img) : Decidable (imgBd m) := by unfold imgBd; infer_instance
def patE (q : Patch) : Prop := q.bytes.length ≤ 4 ∧ byB q.bytes ∧ -1000 ≤ q.at_ ∧ q.at_ ≤ 10000
instance (q : Patch) : Decidable (patE q) := by unfold patE byB; infer_instance
def C_spec_l20Bytes : Con := { ps := [.box (.ty (.st .reader)), .ro .i], out := fun x => let r : Reader := x.1; let n : Int := x.2.1; .req (0 ≤ r.p ∧ r.p ≤ 1000000000 ∧ 0 ≤ n ∧ n ≤ 1000) (.all (List Int) fun l => .all Int fun p => .giv (r.p ≤ p ∧ p ≤ r.p + 2 * n + 1 ∧ (l.length : Int) ≤ n ∧ byB l) (rdE 5 .u l p)), det := false }
abbrev L_spec_l20Bytes : List (Nat × Con) := [(61, C_spec_l20Rd_pick)]
def G_spec_l20Bytes : Cfg := GK L_spec_l20Bytes
def an_spec_l20Bytes : PTL C_spec_l20Bytes.ps → Nat → Option Ann := fun x kk_ => let r : Reader := x.1; let n : Int := x.2.1; if kk_ = 3 then some (.all (Int) fun k => .all (List Int) fun o => .all (Int) fun p => .giv (0 ≤ k ∧ k + o.length ≤ n ∧ byB o ∧ r.p ≤ p ∧ p + 2 * k ≤ r.p + 2 * n + 1) (.mk [(5, asl 20), (6, ai k), (0, aref 0)] [(0, lent (.st .reader) ⟨r.b, p⟩), (20, .row (some 5) .u o true)] (k.toNat))) else none
theorem vc_spec_l20Bytes (r : Reader) (n : Int) : (KP Tryz.f102 G_spec_l20Bytes C_spec_l20Bytes an_spec_l20Bytes (r, n, ())) = (i64 (n + 1) ∧ (0 ≤ r.p ∧ r.p ≤ 1000000000000) ∧ (∃ (a : Int), (∃ (c : List Int), (∃ (d : Int), pickF r.b r.p (n + 1) = a ∧ r.b = r.b ∧ r.p + 1 = d ∧ ([] : List Int) = c ∧ (0 ≤ a ∧ a + LN c ≤ n ∧ byB c ∧ r.p ≤ d ∧ d + 2 * a ≤ r.p + 2 * n + 1) ∧ True))) ∧ (∀ (e : Int), (∀ (f : List Int), (∀ (g : Int), 0 ≤ e ∧ e + LN f ≤ n ∧ byB f ∧ r.p ≤ g ∧ g + 2 * e ≤ r.p + 2 * n + 1 →
 (decide (0 < e) = true →
 (0 ≤ g ∧ g ≤ 1000000000000) ∧ (0 ≤ g + 1 ∧ g + 1 ≤ 1000000000000) ∧ (0 ≤ pickF r.b (g + 1) 3 ∧ pickF r.b (g + 1) 3 < LN [pickF r.b g 256 % (256 : Ty.den Ty.u), (0 : Int), (255 : Int)]) ∧ (∀ (h : Int), [pickF r.b g 256 % (256 : Ty.den Ty.u), (0 : Int), (255 : Int)][(pickF r.b (g + 1) 3).toNat]? = some h →
 Ok (Ty.int IntKind.u8) h →
 ((f.length + [h].length) * 1 ≤ 140737488355328 ∧ f.length + [h].length ≤ 1000000000000) ∧ i64 (e - 1) ∧ (∃ (i : Int), (∃ (j : List Int), (∃ (k : Int), e - 1 = i ∧ r.b = r.b ∧ g + 1 + 1 = k ∧ f ++ [h] = j ∧ (0 ≤ i ∧ i + LN j ≤ n ∧ byB j ∧ r.p ≤ k ∧ k + 2 * i ≤ r.p + 2 * n + 1) ∧ i.toNat < e.toNat))))) ∧ (decide (0 < e) = false →
 (∃ (l : List Int), (∃ (m : Int), (f = l ∧ r.b = r.b ∧ g = m ∧ True) ∧ r.p ≤ m ∧ m ≤ r.p + 2 * n + 1 ∧ LN l ≤ n ∧ byB l))))))) := by kernel_rfl
theorem det_spec_l20Bytes : C_spec_l20Bytes.det = true → ∀ x, (C_spec_l20Bytes.out x).Det := fun h => absurd h Bool.false_ne_true
theorem ok_spec_l20Bytes : ConOK Tryz.prog 102 C_spec_l20Bytes := by
 refine con_q (l := L_spec_l20Bytes) ⟨⟨ok_spec_l20Rd_pick, det_spec_l20Rd_pick⟩, trivial⟩ Tryz.func102 rfl (by decide) (by kernel_rfl) rfl an_spec_l20Bytes fun x ho hx => ?_
 obtain ⟨r, n, ⟨⟩⟩ := x
 refine Keeps.of (vc_spec_l20Bytes r n) ?_
 revert r n ho hx
 show ∀ (r : Reader) (n : Int), _
 intro r n ho hx
 dsimp only [C_spec_l20Bytes, okPTL, okPT, Ok, Ty.cells, SN.cells, OkL, OkC, okI, ci, cb, cs, cl] at ho
 dsimp only [C_spec_l20Bytes, vc, v1, decB, SR.pre] at hx
 have hb := pickF_bd r.b
 (try delta i64 LN); simp only [VBt]; (repeat' first | intro _ | apply And.intro); all_goals (try omega); all_goals grind [byB_app, byB_nil, ok_u8]
def C_spec_l20Name : Con := { ps := [.box (.ty (.st .reader)), .ro .i], out := fun x => let r : Reader := x.1; let n : Int := x.2.1; .req (0 ≤ r.p ∧ r.p ≤ 1000000000 ∧ n ≤ 1000000) (.all ByteArray fun s => .all Int fun p => .giv (r.p ≤ p ∧ p ≤ r.p + 3 ∧ s.size ≤ 16 ∧ (n ≤ 0 → nameB s = true)) (rdV (ax s) p)), det := false }
abbrev L_spec_l20Name : List (Nat × Con) := [(63, C_spec_l20Rd_odd), (61, C_spec_l20Rd_pick)]
def G_spec_l20Name : Cfg := GK L_spec_l20Name
def an_spec_l20Name : PTL C_spec_l20Name.ps → Nat → Option Ann := fun _ _ => none
theorem vc_spec_l20Name (r : Reader) (n : Int) : (KP Tryz.f101 G_spec_l20Name C_spec_l20Name an_spec_l20Name (r, n, ())) = ((0 ≤ r.p ∧ r.p ≤ 1000000000000 ∧ n ≤ 1000000) ∧ (∀ (a : Bool), (∀ (c : Int), r.p ≤ c ∧ c ≤ r.p + 1 ∧ (n ≤ 0 →
 a = false) →
 (a = true →
 (0 ≤ c ∧ c ≤ 1000000000000) ∧ (0 ≤ pickF r.b c 6 ∧ pickF r.b c 6 < @Nat.cast Int _ (6 : Nat)) ∧ (∀ (d : ByteArray), [ByteArray.mk (@Array.mk UInt8 ([] : List UInt8)), ByteArray.mk (@Array.mk UInt8 [(65 : UInt8)]), ByteArray.mk (@Array.mk UInt8 [(49 : UInt8), (97 : UInt8)]), ByteArray.mk (@Array.mk UInt8 [(97 : UInt8), (98 : UInt8), (99 : UInt8), (100 : UInt8), (101 : UInt8), (102 : UInt8), (103 : UInt8), (104 : UInt8), (105 : UInt8)]), ByteArray.mk (@Array.mk UInt8 [(97 : UInt8), (32 : UInt8), (98 : UInt8)]), ByteArray.mk (@Array.mk UInt8 [(97 : UInt8), (45 : UInt8), (98 : UInt8)])][(pickF r.b c 6).toNat]? = some d →
 Ok Ty.str d →
 (∃ (e : ByteArray), (∃ (f : Int), (d = e ∧ r.b = r.b ∧ c + 1 = f ∧ True) ∧ r.p ≤ f ∧ f ≤ r.p + 3 ∧ ByteArray.size e ≤ 16 ∧ (n ≤ 0 →
 nameB e = true))))) ∧ (a = false →
 (0 ≤ c ∧ c ≤ 1000000000000) ∧ (0 ≤ pickF r.b c 10 ∧ pickF r.b c 10 < @Nat.cast Int _ (10 : Nat)) ∧ (∀ (g : ByteArray), [ByteArray.mk (@Array.mk UInt8 [(109 : UInt8), (97 : UInt8), (105 : UInt8), (110 : UInt8)]), ByteArray.mk (@Array.mk UInt8 [(105 : UInt8), (110 : UInt8)]), ByteArray.mk (@Array.mk UInt8 [(99 : UInt8), (111 : UInt8), (100 : UInt8), (101 : UInt8)]), ByteArray.mk (@Array.mk UInt8 [(100 : UInt8), (97 : UInt8), (116 : UInt8), (97 : UInt8)]), ByteArray.mk (@Array.mk UInt8 [(95 : UInt8), (115 : UInt8), (116 : UInt8), (97 : UInt8), (114 : UInt8), (116 : UInt8)]), ByteArray.mk (@Array.mk UInt8 [(97 : UInt8), (114 : UInt8), (116 : UInt8)]), ByteArray.mk (@Array.mk UInt8 [(116 : UInt8)]), ByteArray.mk (@Array.mk UInt8 [(120 : UInt8), (49 : UInt8)]), ByteArray.mk (@Array.mk UInt8 [(46 : UInt8), (116 : UInt8), (101 : UInt8), (120 : UInt8), (116 : UInt8)]), ByteArray.mk (@Array.mk UInt8 [(112 : UInt8), (117 : UInt8), (116 : UInt8), (115 : UInt8)])][(pickF r.b c 10).toNat]? = some g →
 Ok Ty.str g →
 (∃ (h : ByteArray), (∃ (i : Int), (g = h ∧ r.b = r.b ∧ c + 1 = i ∧ True) ∧ r.p ≤ i ∧ i ≤ r.p + 3 ∧ ByteArray.size h ≤ 16 ∧ (n ≤ 0 →
 nameB h = true)))))))) := by kernel_rfl
theorem det_spec_l20Name : C_spec_l20Name.det = true → ∀ x, (C_spec_l20Name.out x).Det := fun h => absurd h Bool.false_ne_true
theorem ok_spec_l20Name : ConOK Tryz.prog 101 C_spec_l20Name := by
 refine con_q (l := L_spec_l20Name) ⟨⟨ok_spec_l20Rd_odd, det_spec_l20Rd_odd⟩, ⟨⟨ok_spec_l20Rd_pick, det_spec_l20Rd_pick⟩, trivial⟩⟩ Tryz.func101 rfl (by decide) (by kernel_rfl) rfl an_spec_l20Name fun x ho hx => ?_
 obtain ⟨r, n, ⟨⟩⟩ := x
 refine Keeps.of (vc_spec_l20Name r n) ?_
 revert r n ho hx
 show ∀ (r : Reader) (n : Int), _
 intro r n ho hx
 dsimp only [C_spec_l20Name, okPTL, okPT, Ok, Ty.cells, SN.cells, OkL, OkC, okI, ci, cb, cs, cl] at ho
 dsimp only [C_spec_l20Name, vc, v1, decB, SR.pre] at hx
 have hb := pickF_bd r.b
 (try delta i64 LN); simp only [DRt]; (repeat' first | apply And.intro | (intro x hq _; replace hq := List.mem_of_getElem? hq; simp only [List.mem_cons, List.not_mem_nil, or_false] at hq) | intro _); all_goals (try omega)
 all_goals first | grind | (rcases hq with rfl | rfl | rfl | rfl | rfl | rfl | rfl | rfl | rfl | rfl <;> decide) | (rcases hq with rfl | rfl | rfl | rfl | rfl | rfl <;> decide)
/-! Readers whose way is told: for regions of any order. -/
end Go.Proofs.YtpgglbnagphgoaaGreat
