/- The readers of images, memories and patches. -/
import Derived.Test.YtccmghepiegcaaaGreatImg
import Derived.Test.YtccmghepiegcaaaGreatObjD
set_option linter.unusedVariables false
set_option linter.unusedSimpArgs false
set_option maxRecDepth 200000
set_option maxHeartbeats 4000000
namespace Go.Proofs.YtccmghepiegcaaaGreat
open Go Go.RowKit


def rdV (v : AV) (p : Int) : SR := .ret { val := v, wr := [(0, 1, .c (ci p))] }
def rdE (e : TypeId) (t : Ty) (l : List t.den) (p : Int) : SR := .ret { val := .one (.sl 100 []), ins := [(100, .row (some e) t l true)], wr := [(0, 1, .c (ci p))] }
def rdF (e : TypeId) (t : Ty) (l : List t.den) (p : Int) : SR := .ret { val := .one (.sl 100 []), ins := [(100, .row (some e) t l false)], wr := [(0, 1, .c (ci p))] }
def rdL (t : Ty) (l : List t.den) (p : Int) : SR := .ret { val := .one (.sl 100 []), ins := [(100, .row none t l true)], wr := [(0, 1, .c (ci p))] }
def rdS (s : SN) (x : s.den) (p : Int) : SR := .ret { val := .agg (encO 100 (s.cells x)).1, ins := (encO 100 (s.cells x)).2.1, wr := [(0, 1, .c (ci p))] }
def byB (l : List Int) : Prop := l.all (fun x => decide (0 ≤ x ∧ x ≤ 255)) = true
instance (l : List Int) : Decidable (byB l) := by unfold byB; infer_instance
theorem byB_mem {l : List Int} {x : Int} (h : byB l) (hx : x ∈ l) : 0 ≤ x ∧ x ≤ 255 := of_decide_eq_true (List.all_eq_true.1 h x hx)
theorem byB_nil : byB [] := rfl
theorem byB_app {l : List Int} {x : Int} (h : byB l) (h0 : 0 ≤ x) (h1 : x ≤ 255) : byB (l ++ [x]) := by
  unfold byB at *
  rw [List.all_append, h]
  simp [h0, h1]
theorem repl_len {α : Type} (n : Int) (x : α) : (repl n x).length = n.toNat := by simp [repl]
theorem byB_repl (n : Int) : byB (repl n 0) := List.all_eq_true.2 fun y hy => by
  rw [List.eq_of_mem_replicate hy]
  rfl
def imgBd (m : Img) : Prop := decide (-8 ≤ m.base ∧ m.base ≤ 4104 ∧ m.bytes.length ≤ 2001 ∧ byB m.bytes) = true
theorem imgBd_iff {m : Img} : imgBd m ↔ -8 ≤ m.base ∧ m.base ≤ 4104 ∧ m.bytes.length ≤ 2001 ∧ byB m.bytes := decide_eq_true_iff
instance (m : Img) : Decidable (imgBd m) := by unfold imgBd; infer_instance
def memBd (m : Memo) : Prop := decide (imgBd m.what ∧ m.regions.length ≤ 4) = true
theorem memBd_iff {m : Memo} : memBd m ↔ imgBd m.what ∧ m.regions.length ≤ 4 := decide_eq_true_iff
def patE (q : Patch) : Prop := q.bytes.length ≤ 4 ∧ byB q.bytes ∧ -1000 ≤ q.at_ ∧ q.at_ ≤ 10000
instance (q : Patch) : Decidable (patE q) := by unfold patE byB; infer_instance
def patA (l : List Patch) : Prop := l.all (fun q => decide (patE q)) = true
theorem patA_mem {l : List Patch} {q : Patch} (h : patA l) (hq : q ∈ l) : patE q := of_decide_eq_true (List.all_eq_true.1 h q hq)
theorem patA_nil : patA [] := rfl
theorem patA_app {l : List Patch} {x : Patch} (h : patA l) (hx : patE x) : patA (l ++ [x]) := by
  unfold patA at *
  rw [List.all_append, h]
  simp [hx]
theorem pat_pick {a b c : Int} {x y : Patch} {k : Nat} (hx : x = ⟨a, []⟩ ∨ x = ⟨b, [1]⟩ ∨ x = ⟨c, [1]⟩) (hy : [(⟨a, []⟩ : Patch), ⟨b, [1]⟩, ⟨c, [1]⟩][k]? = some y) (ha : -1000 ≤ a ∧ a ≤ 10000) (hb : -1000 ≤ b ∧ b ≤ 10000) (hc : -1000 ≤ c ∧ c ≤ 10000) : patE ⟨x.at_, y.bytes⟩ := by
  replace hy := List.mem_of_getElem? hy
  simp only [List.mem_cons, List.not_mem_nil, or_false] at hy
  have e2 : y.bytes = [] ∨ y.bytes = [1] := by rcases hy with rfl | rfl | rfl <;> simp
  have e1 : -1000 ≤ x.at_ ∧ x.at_ ≤ 10000 := by rcases hx with rfl | rfl | rfl <;> assumption
  refine ⟨?_, ?_, e1.1, e1.2⟩
  · show y.bytes.length ≤ 4
    rcases e2 with e | e <;> simp [e]
  · show byB y.bytes
    rcases e2 with e | e <;> (rw [e]; decide)
def patBd (l : List Patch) : Prop := l.length ≤ 5 ∧ patA l

def C_spec_l20Bytes : Con := { ps := [.box (.ty (.st .reader)), .ro .i], out := fun x => let r : Reader := x.1; let n : Int := x.2.1; .req (0 ≤ r.p ∧ r.p ≤ 1000000000 ∧ 0 ≤ n ∧ n ≤ 1000) (.all (List Int) fun l => .all Int fun p => .giv (r.p ≤ p ∧ p ≤ r.p + 2 * n + 1 ∧ (l.length : Int) ≤ n ∧ byB l) (rdE 5 .u l p)), det := false }
abbrev L_spec_l20Bytes : List (Nat × Con) := [(40, C_spec_l20Rd_pick)]
def G_spec_l20Bytes : Cfg := GK L_spec_l20Bytes
def an_spec_l20Bytes : PTL C_spec_l20Bytes.ps → Nat → Option Ann := fun x kk_ => let r : Reader := x.1; let n : Int := x.2.1; if kk_ = 3 then some (.all (Int) fun k => .all (List Int) fun o => .all (Int) fun p => .giv (0 ≤ k ∧ k + o.length ≤ n ∧ byB o ∧ r.p ≤ p ∧ p + 2 * k ≤ r.p + 2 * n + 1) (.mk [(5, asl 20), (6, ai k), (0, aref 0)] [(0, lent (.st .reader) ⟨r.b, p⟩), (20, .row (some 5) .u o true)] (k.toNat))) else none
theorem vc_spec_l20Bytes (r : Reader) (n : Int) : (KP Tryz.f75 G_spec_l20Bytes C_spec_l20Bytes an_spec_l20Bytes (r, n, ())) = (i64 (n + 1) ∧ (0 ≤ r.p ∧ r.p ≤ 1000000000000) ∧ (∃ (a : Int), (∃ (c : List Int), (∃ (d : Int), pickF r.b r.p (n + 1) = a ∧ r.b = r.b ∧ r.p + 1 = d ∧ ([] : List Int) = c ∧ (0 ≤ a ∧ a + LN c ≤ n ∧ byB c ∧ r.p ≤ d ∧ d + 2 * a ≤ r.p + 2 * n + 1) ∧ True))) ∧ (∀ (e : Int), (∀ (f : List Int), (∀ (g : Int), 0 ≤ e ∧ e + LN f ≤ n ∧ byB f ∧ r.p ≤ g ∧ g + 2 * e ≤ r.p + 2 * n + 1 →
 (decide (0 < e) = true →
 (0 ≤ g ∧ g ≤ 1000000000000) ∧ (0 ≤ g + 1 ∧ g + 1 ≤ 1000000000000) ∧ (0 ≤ pickF r.b (g + 1) 3 ∧ pickF r.b (g + 1) 3 < LN [pickF r.b g 256 % (256 : Ty.den Ty.u), (0 : Int), (255 : Int)]) ∧ (∀ (h : Int), [pickF r.b g 256 % (256 : Ty.den Ty.u), (0 : Int), (255 : Int)][(pickF r.b (g + 1) 3).toNat]? = some h →
 Ok (Ty.int IntKind.u8) h →
 ((f.length + [h].length) * 1 ≤ 140737488355328 ∧ f.length + [h].length ≤ 1000000000000) ∧ i64 (e - 1) ∧ (∃ (i : Int), (∃ (j : List Int), (∃ (k : Int), e - 1 = i ∧ r.b = r.b ∧ g + 1 + 1 = k ∧ f ++ [h] = j ∧ (0 ≤ i ∧ i + LN j ≤ n ∧ byB j ∧ r.p ≤ k ∧ k + 2 * i ≤ r.p + 2 * n + 1) ∧ i.toNat < e.toNat))))) ∧ (decide (0 < e) = false →
 (∃ (l : List Int), (∃ (m : Int), (f = l ∧ r.b = r.b ∧ g = m ∧ True) ∧ r.p ≤ m ∧ m ≤ r.p + 2 * n + 1 ∧ LN l ≤ n ∧ byB l))))))) := by kernel_rfl
theorem det_spec_l20Bytes : C_spec_l20Bytes.det = true → ∀ x, (C_spec_l20Bytes.out x).Det := fun h => absurd h Bool.false_ne_true
theorem ok_spec_l20Bytes : ConOK Tryz.prog 75 C_spec_l20Bytes := by
  refine con_q (l := L_spec_l20Bytes) ⟨⟨ok_spec_l20Rd_pick, det_spec_l20Rd_pick⟩, trivial⟩ Tryz.func75 rfl (by decide) (by kernel_rfl) rfl an_spec_l20Bytes fun x ho hx => ?_
  obtain ⟨r, n, ⟨⟩⟩ := x
  refine Keeps.of (vc_spec_l20Bytes r n) ?_
  revert r n ho hx
  show ∀ (r : Reader) (n : Int), _
  intro r n ho hx
  dsimp only [C_spec_l20Bytes, okPTL, okPT, Ok, Ty.cells, SN.cells, OkL, OkC, okI, ci, cb, cs, cl] at ho
  dsimp only [C_spec_l20Bytes, vc, v1, decB, SR.pre] at hx
  have hb := pickF_bd r.b
  (try delta i64 LN); simp only [VBt]; (repeat' first | intro _ | apply And.intro); all_goals (try omega); all_goals grind [byB_app, byB_nil, ok_u8]
def C_spec_l20Name : Con := { ps := [.box (.ty (.st .reader)), .ro .i], out := fun x => let r : Reader := x.1; let n : Int := x.2.1; .req (0 ≤ r.p ∧ r.p ≤ 1000000000 ∧ n ≤ 1000000) (.all ByteArray fun s => .all Int fun p => .giv (r.p ≤ p ∧ p ≤ r.p + 3 ∧ s.size ≤ 16 ∧ (n ≤ 0 → nameB s = true)) (rdV (ax s) p)), det := false }
abbrev L_spec_l20Name : List (Nat × Con) := [(43, C_spec_l20Rd_odd), (40, C_spec_l20Rd_pick)]
def G_spec_l20Name : Cfg := GK L_spec_l20Name
def an_spec_l20Name : PTL C_spec_l20Name.ps → Nat → Option Ann := fun _ _ => none
theorem vc_spec_l20Name (r : Reader) (n : Int) : (KP Tryz.f74 G_spec_l20Name C_spec_l20Name an_spec_l20Name (r, n, ())) = ((0 ≤ r.p ∧ r.p ≤ 1000000000000 ∧ n ≤ 1000000) ∧ (∀ (a : Bool), (∀ (c : Int), r.p ≤ c ∧ c ≤ r.p + 1 ∧ (n ≤ 0 →
 a = false) →
 (a = true →
 (0 ≤ c ∧ c ≤ 1000000000000) ∧ (0 ≤ pickF r.b c 6 ∧ pickF r.b c 6 < @Nat.cast Int _ (6 : Nat)) ∧ (∀ (d : ByteArray), [ByteArray.mk (@Array.mk UInt8 ([] : List UInt8)), ByteArray.mk (@Array.mk UInt8 [(65 : UInt8)]), ByteArray.mk (@Array.mk UInt8 [(49 : UInt8), (97 : UInt8)]), ByteArray.mk (@Array.mk UInt8 [(97 : UInt8), (98 : UInt8), (99 : UInt8), (100 : UInt8), (101 : UInt8), (102 : UInt8), (103 : UInt8), (104 : UInt8), (105 : UInt8)]), ByteArray.mk (@Array.mk UInt8 [(97 : UInt8), (32 : UInt8), (98 : UInt8)]), ByteArray.mk (@Array.mk UInt8 [(97 : UInt8), (45 : UInt8), (98 : UInt8)])][(pickF r.b c 6).toNat]? = some d →
 Ok Ty.str d →
 (∃ (e : ByteArray), (∃ (f : Int), (d = e ∧ r.b = r.b ∧ c + 1 = f ∧ True) ∧ r.p ≤ f ∧ f ≤ r.p + 3 ∧ ByteArray.size e ≤ 16 ∧ (n ≤ 0 →
 nameB e = true))))) ∧ (a = false →
 (0 ≤ c ∧ c ≤ 1000000000000) ∧ (0 ≤ pickF r.b c 10 ∧ pickF r.b c 10 < @Nat.cast Int _ (10 : Nat)) ∧ (∀ (g : ByteArray), [ByteArray.mk (@Array.mk UInt8 [(109 : UInt8), (97 : UInt8), (105 : UInt8), (110 : UInt8)]), ByteArray.mk (@Array.mk UInt8 [(105 : UInt8), (110 : UInt8)]), ByteArray.mk (@Array.mk UInt8 [(99 : UInt8), (111 : UInt8), (100 : UInt8), (101 : UInt8)]), ByteArray.mk (@Array.mk UInt8 [(100 : UInt8), (97 : UInt8), (116 : UInt8), (97 : UInt8)]), ByteArray.mk (@Array.mk UInt8 [(95 : UInt8), (115 : UInt8), (116 : UInt8), (97 : UInt8), (114 : UInt8), (116 : UInt8)]), ByteArray.mk (@Array.mk UInt8 [(97 : UInt8), (114 : UInt8), (116 : UInt8)]), ByteArray.mk (@Array.mk UInt8 [(116 : UInt8)]), ByteArray.mk (@Array.mk UInt8 [(120 : UInt8), (49 : UInt8)]), ByteArray.mk (@Array.mk UInt8 [(46 : UInt8), (116 : UInt8), (101 : UInt8), (120 : UInt8), (116 : UInt8)]), ByteArray.mk (@Array.mk UInt8 [(112 : UInt8), (117 : UInt8), (116 : UInt8), (115 : UInt8)])][(pickF r.b c 10).toNat]? = some g →
 Ok Ty.str g →
 (∃ (h : ByteArray), (∃ (i : Int), (g = h ∧ r.b = r.b ∧ c + 1 = i ∧ True) ∧ r.p ≤ i ∧ i ≤ r.p + 3 ∧ ByteArray.size h ≤ 16 ∧ (n ≤ 0 →
 nameB h = true)))))))) := by kernel_rfl
theorem det_spec_l20Name : C_spec_l20Name.det = true → ∀ x, (C_spec_l20Name.out x).Det := fun h => absurd h Bool.false_ne_true
theorem ok_spec_l20Name : ConOK Tryz.prog 74 C_spec_l20Name := by
  refine con_q (l := L_spec_l20Name) ⟨⟨ok_spec_l20Rd_odd, det_spec_l20Rd_odd⟩, ⟨⟨ok_spec_l20Rd_pick, det_spec_l20Rd_pick⟩, trivial⟩⟩ Tryz.func74 rfl (by decide) (by kernel_rfl) rfl an_spec_l20Name fun x ho hx => ?_
  obtain ⟨r, n, ⟨⟩⟩ := x
  refine Keeps.of (vc_spec_l20Name r n) ?_
  revert r n ho hx
  show ∀ (r : Reader) (n : Int), _
  intro r n ho hx
  dsimp only [C_spec_l20Name, okPTL, okPT, Ok, Ty.cells, SN.cells, OkL, OkC, okI, ci, cb, cs, cl] at ho
  dsimp only [C_spec_l20Name, vc, v1, decB, SR.pre] at hx
  have hb := pickF_bd r.b
  (try delta i64 LN); simp only [DRt]; (repeat' first | apply And.intro | (intro x hq _; replace hq := List.mem_of_getElem? hq; simp only [List.mem_cons, List.not_mem_nil, or_false] at hq) | intro _); all_goals (try omega)
  all_goals first | grind | (rcases hq with rfl | rfl | rfl | rfl | rfl | rfl | rfl | rfl | rfl | rfl <;> decide) | (rcases hq with rfl | rfl | rfl | rfl | rfl | rfl <;> decide)
/-! Readers whose way is told: for regions of any order. -/
def oddF (b : List Int) (p n : Int) : Bool := decide (0 < n) && decide (pickF b p n = n - 1)
def oddP (p n : Int) : Int := if 0 < n then p + 1 else p
def nmsBad : List ByteArray := [⟨⟨[]⟩⟩, ⟨⟨[65]⟩⟩, ⟨⟨[49, 97]⟩⟩, ⟨⟨[97, 98, 99, 100, 101, 102, 103, 104, 105]⟩⟩, ⟨⟨[97, 32, 98]⟩⟩, ⟨⟨[97, 45, 98]⟩⟩]
def nmsGood : List ByteArray := [⟨⟨[109, 97, 105, 110]⟩⟩, ⟨⟨[105, 110]⟩⟩, ⟨⟨[99, 111, 100, 101]⟩⟩, ⟨⟨[100, 97, 116, 97]⟩⟩, ⟨⟨[95, 115, 116, 97, 114, 116]⟩⟩, ⟨⟨[97, 114, 116]⟩⟩, ⟨⟨[116]⟩⟩, ⟨⟨[120, 49]⟩⟩, ⟨⟨[46, 116, 101, 120, 116]⟩⟩, ⟨⟨[112, 117, 116, 115]⟩⟩]
def nameF (b : List Int) (p n : Int) : ByteArray := if oddF b p n = true then nmsBad.getD (pickF b (oddP p n) 6).toNat ⟨⟨[]⟩⟩ else nmsGood.getD (pickF b (oddP p n) 10).toNat ⟨⟨[]⟩⟩
theorem nameF_sm (b : List Int) (p n : Int) : (nameF b p n).size ≤ 16 := by
  unfold nameF
  split
  · generalize (pickF b (oddP p n) 6).toNat = k
    by_cases h : k < 6
    · have key : ∀ i : Fin 6, (nmsBad.getD i.val ⟨⟨[]⟩⟩).size ≤ 16 := by decide
      exact key ⟨k, h⟩
    · have e : nmsBad[k]? = none := List.getElem?_eq_none (by simp [nmsBad]; omega)
      simp [List.getD, e, ByteArray.size]
  · generalize (pickF b (oddP p n) 10).toNat = k
    by_cases h : k < 10
    · have key : ∀ i : Fin 10, (nmsGood.getD i.val ⟨⟨[]⟩⟩).size ≤ 16 := by decide
      exact key ⟨k, h⟩
    · have e : nmsGood[k]? = none := List.getElem?_eq_none (by simp [nmsGood]; omega)
      simp [List.getD, e, ByteArray.size]
theorem oddP_bd (p n : Int) : p ≤ oddP p n ∧ oddP p n ≤ p + 1 := by unfold oddP; split <;> omega
theorem nm_bad {b : List Int} {p n : Int} {x : ByteArray} (h : oddF b p n = true) (hx : nmsBad[(pickF b (oddP p n) 6).toNat]? = some x) : x = nameF b p n := by
  rw [nameF, if_pos h]; simp [List.getD, hx]
theorem nm_good {b : List Int} {p n : Int} {x : ByteArray} (h : oddF b p n = false) (hx : nmsGood[(pickF b (oddP p n) 10).toNat]? = some x) : x = nameF b p n := by
  rw [nameF, if_neg (by simp [h])]; simp [List.getD, hx]
def C_spec_l20Rd_odd_det : Con := { ps := [.box (.ty (.st .reader)), .ro .i], out := fun x => let r : Reader := x.1; let n : Int := x.2.1; .req (0 ≤ r.p ∧ r.p ≤ 1000000000000 ∧ n ≤ 1000000) (.ret { val := ab (oddF r.b r.p n), wr := [(0, 1, .c (ci (oddP r.p n)))] }), det := true }
abbrev L_spec_l20Rd_odd_det : List (Nat × Con) := [(40, C_spec_l20Rd_pick)]
def G_spec_l20Rd_odd_det : Cfg := GK L_spec_l20Rd_odd_det
def an_spec_l20Rd_odd_det : PTL C_spec_l20Rd_odd_det.ps → Nat → Option Ann := fun _ _ => none
theorem vc_spec_l20Rd_odd_det (r : Reader) (n : Int) : (KP Tryz.f43 G_spec_l20Rd_odd_det C_spec_l20Rd_odd_det an_spec_l20Rd_odd_det (r, n, ())) = ((decide (0 < n) = true →
 (0 ≤ r.p ∧ r.p ≤ 1000000000000) ∧ i64 (n - 1) ∧ decide (pickF r.b r.p n = n - 1) = oddF r.b r.p n ∧ r.b = r.b ∧ r.p + 1 = oddP r.p n ∧ True) ∧ (decide (0 < n) = false →
 false = oddF r.b r.p n ∧ r.b = r.b ∧ r.p = oddP r.p n ∧ True)) := by kernel_rfl
theorem det_spec_l20Rd_odd_det : C_spec_l20Rd_odd_det.det = true → ∀ x, (C_spec_l20Rd_odd_det.out x).Det := fun _ x => by simp only [C_spec_l20Rd_odd_det]; repeat (first | exact Det.ret _ | exact Det.vc' | apply Det.req)
theorem ok_spec_l20Rd_odd_det : ConOK Tryz.prog 43 C_spec_l20Rd_odd_det := by
  refine con_q (l := L_spec_l20Rd_odd_det) ⟨⟨ok_spec_l20Rd_pick, det_spec_l20Rd_pick⟩, trivial⟩ Tryz.func43 rfl (by decide) (by kernel_rfl) rfl an_spec_l20Rd_odd_det fun x ho hx => ?_
  obtain ⟨r, n, ⟨⟩⟩ := x
  refine Keeps.of (vc_spec_l20Rd_odd_det r n) ?_
  revert r n ho hx
  show ∀ (r : Reader) (n : Int), _
  intro r n ho hx
  dsimp only [C_spec_l20Rd_odd_det, okPTL, okPT, Ok, Ty.cells, SN.cells, OkL, OkC, okI, ci, cb, cs, cl] at ho
  dsimp only [C_spec_l20Rd_odd_det, vc, v1, decB, SR.pre] at hx
  have := pickF_bd r.b r.p n
  (try delta i64 LN); simp only [VBt]; (repeat' first | intro _ | apply And.intro); all_goals (try omega); all_goals (try grind [oddF, oddP])
def C_spec_l20Name_det : Con := { ps := [.box (.ty (.st .reader)), .ro .i], out := fun x => let r : Reader := x.1; let n : Int := x.2.1; .req (0 ≤ r.p ∧ r.p ≤ 1000000000 ∧ n ≤ 1000000) (.ret { val := ax (nameF r.b r.p n), wr := [(0, 1, .c (ci (oddP r.p n + 1)))] }), det := true }
abbrev L_spec_l20Name_det : List (Nat × Con) := [(43, C_spec_l20Rd_odd_det), (40, C_spec_l20Rd_pick)]
def G_spec_l20Name_det : Cfg := GK L_spec_l20Name_det
def an_spec_l20Name_det : PTL C_spec_l20Name_det.ps → Nat → Option Ann := fun _ _ => none
theorem vc_spec_l20Name_det (r : Reader) (n : Int) : (KP Tryz.f74 G_spec_l20Name_det C_spec_l20Name_det an_spec_l20Name_det (r, n, ())) = ((0 ≤ r.p ∧ r.p ≤ 1000000000000 ∧ n ≤ 1000000) ∧ (oddF r.b r.p n = true →
 (0 ≤ oddP r.p n ∧ oddP r.p n ≤ 1000000000000) ∧ (0 ≤ pickF r.b (oddP r.p n) 6 ∧ pickF r.b (oddP r.p n) 6 < @Nat.cast Int _ (6 : Nat)) ∧ (∀ (a : ByteArray), [ByteArray.mk (@Array.mk UInt8 ([] : List UInt8)), ByteArray.mk (@Array.mk UInt8 [(65 : UInt8)]), ByteArray.mk (@Array.mk UInt8 [(49 : UInt8), (97 : UInt8)]), ByteArray.mk (@Array.mk UInt8 [(97 : UInt8), (98 : UInt8), (99 : UInt8), (100 : UInt8), (101 : UInt8), (102 : UInt8), (103 : UInt8), (104 : UInt8), (105 : UInt8)]), ByteArray.mk (@Array.mk UInt8 [(97 : UInt8), (32 : UInt8), (98 : UInt8)]), ByteArray.mk (@Array.mk UInt8 [(97 : UInt8), (45 : UInt8), (98 : UInt8)])][(pickF r.b (oddP r.p n) 6).toNat]? = some a →
 Ok Ty.str a →
 a = nameF r.b r.p n ∧ r.b = r.b ∧ oddP r.p n + 1 = oddP r.p n + 1 ∧ True)) ∧ (oddF r.b r.p n = false →
 (0 ≤ oddP r.p n ∧ oddP r.p n ≤ 1000000000000) ∧ (0 ≤ pickF r.b (oddP r.p n) 10 ∧ pickF r.b (oddP r.p n) 10 < @Nat.cast Int _ (10 : Nat)) ∧ (∀ (c : ByteArray), [ByteArray.mk (@Array.mk UInt8 [(109 : UInt8), (97 : UInt8), (105 : UInt8), (110 : UInt8)]), ByteArray.mk (@Array.mk UInt8 [(105 : UInt8), (110 : UInt8)]), ByteArray.mk (@Array.mk UInt8 [(99 : UInt8), (111 : UInt8), (100 : UInt8), (101 : UInt8)]), ByteArray.mk (@Array.mk UInt8 [(100 : UInt8), (97 : UInt8), (116 : UInt8), (97 : UInt8)]), ByteArray.mk (@Array.mk UInt8 [(95 : UInt8), (115 : UInt8), (116 : UInt8), (97 : UInt8), (114 : UInt8), (116 : UInt8)]), ByteArray.mk (@Array.mk UInt8 [(97 : UInt8), (114 : UInt8), (116 : UInt8)]), ByteArray.mk (@Array.mk UInt8 [(116 : UInt8)]), ByteArray.mk (@Array.mk UInt8 [(120 : UInt8), (49 : UInt8)]), ByteArray.mk (@Array.mk UInt8 [(46 : UInt8), (116 : UInt8), (101 : UInt8), (120 : UInt8), (116 : UInt8)]), ByteArray.mk (@Array.mk UInt8 [(112 : UInt8), (117 : UInt8), (116 : UInt8), (115 : UInt8)])][(pickF r.b (oddP r.p n) 10).toNat]? = some c →
 Ok Ty.str c →
 c = nameF r.b r.p n ∧ r.b = r.b ∧ oddP r.p n + 1 = oddP r.p n + 1 ∧ True))) := by kernel_rfl
theorem det_spec_l20Name_det : C_spec_l20Name_det.det = true → ∀ x, (C_spec_l20Name_det.out x).Det := fun _ x => by simp only [C_spec_l20Name_det]; repeat (first | exact Det.ret _ | exact Det.vc' | apply Det.req)
theorem ok_spec_l20Name_det : ConOK Tryz.prog 74 C_spec_l20Name_det := by
  refine con_q (l := L_spec_l20Name_det) ⟨⟨ok_spec_l20Rd_odd_det, det_spec_l20Rd_odd_det⟩, ⟨⟨ok_spec_l20Rd_pick, det_spec_l20Rd_pick⟩, trivial⟩⟩ Tryz.func74 rfl (by decide) (by kernel_rfl) rfl an_spec_l20Name_det fun x ho hx => ?_
  obtain ⟨r, n, ⟨⟩⟩ := x
  refine Keeps.of (vc_spec_l20Name_det r n) ?_
  revert r n ho hx
  show ∀ (r : Reader) (n : Int), _
  intro r n ho hx
  dsimp only [C_spec_l20Name_det, okPTL, okPT, Ok, Ty.cells, SN.cells, OkL, OkC, okI, ci, cb, cs, cl] at ho
  dsimp only [C_spec_l20Name_det, vc, v1, decB, SR.pre] at hx
  have hb := pickF_bd r.b
  have ho := oddP_bd r.p n
  have h6 := hb (oddP r.p n) 6
  have h10 := hb (oddP r.p n) 10
  (try delta i64 LN); simp only [VBt]; (repeat' first | intro _ | apply And.intro); all_goals (try omega); all_goals first | omega | exact nm_bad (by assumption) (by assumption) | exact nm_good (by assumption) (by assumption) | (try grind)
end Go.Proofs.YtccmghepiegcaaaGreat
