/- The readers of images, memories and patches. -/
import Derived.Test.YtdghhckdjbpfbaaImg
import Derived.Test.YtdghhckdjbpfbaaObjD
set_option linter.unusedVariables false
set_option linter.unusedSimpArgs false
namespace Go.Proofs.Ytdghhckdjbpfbaa
open Go Go.RowKit


theorem ex_img {a : Int} {b : List Int} {P : Img → Prop} : (∃ x : Img, a = x.base ∧ b = x.bytes ∧ P x) ↔ P ⟨a, b⟩ := ⟨fun ⟨x, h1, h2, h3⟩ => by subst h1; subst h2; exact h3, fun h => ⟨_, rfl, rfl, h⟩⟩
theorem ex_mem {a : Int} {b : List Int} {c : List Region} {P : Memo → Prop} : (∃ x : Memo, a = x.what.base ∧ b = x.what.bytes ∧ c = x.regions ∧ P x) ↔ P ⟨⟨a, b⟩, c⟩ := ⟨fun ⟨x, h1, h2, h3, h4⟩ => by subst h1; subst h2; subst h3; exact h4, fun h => ⟨_, rfl, rfl, rfl, h⟩⟩
theorem ex_pat {a : Int} {b : List Int} {P : Patch → Prop} : (∃ x : Patch, a = x.at_ ∧ b = x.bytes ∧ P x) ↔ P ⟨a, b⟩ := ⟨fun ⟨x, h1, h2, h3⟩ => by subst h1; subst h2; exact h3, fun h => ⟨_, rfl, rfl, h⟩⟩
theorem ex_fix {a b c d : Int} {P : Fixup → Prop} : (∃ x : Fixup, a = x.at_ ∧ b = x.kind ∧ c = x.to ∧ d = x.add ∧ P x) ↔ P ⟨a, b, c, d⟩ := ⟨fun ⟨x, h1, h2, h3, h4, h5⟩ => by subst h1; subst h2; subst h3; subst h4; exact h5, fun h => ⟨_, rfl, rfl, rfl, rfl, h⟩⟩
def rdV (v : AV) (p : Int) : SR := .ret { val := v, wr := [(0, 1, .c (ci p))] }
def rdE (e : TypeId) (t : Ty) (l : List t.den) (p : Int) : SR := .ret { val := .one (.sl 100 []), ins := [(100, .row (some e) t l true)], wr := [(0, 1, .c (ci p))] }
def rdF (e : TypeId) (t : Ty) (l : List t.den) (p : Int) : SR := .ret { val := .one (.sl 100 []), ins := [(100, .row (some e) t l false)], wr := [(0, 1, .c (ci p))] }
def rdL (t : Ty) (l : List t.den) (p : Int) : SR := .ret { val := .one (.sl 100 []), ins := [(100, .row none t l true)], wr := [(0, 1, .c (ci p))] }
def rdS (s : SN) (x : s.den) (p : Int) : SR := .ret { val := .agg (encO 100 (s.cells x)).1, ins := (encO 100 (s.cells x)).2.1, wr := [(0, 1, .c (ci p))] }
def byB (l : List Int) : Prop := l.all (fun x => decide (0 ≤ x ∧ x ≤ 255)) = true
instance (l : List Int) : Decidable (byB l) := by unfold byB; infer_instance
theorem byB_mem {l : List Int} {x : Int} (h : byB l) (hx : x ∈ l) : 0 ≤ x ∧ x ≤ 255 := of_decide_eq_true (List.all_eq_true.1 h x hx)
theorem byB_nil : byB [] := rfl
theorem byB_app {l : List Int} {x : Int} (h : byB l) (h0 : 0 ≤ x) (h1 : x ≤ 255) : byB (l ++ [x]) := by
  unfold byB at *
  rw [List.all_append, h]
  simp [h0, h1]
theorem repl_len {α : Type} (n : Int) (x : α) : (repl n x).length = n.toNat := by simp [repl]
theorem byB_repl (n : Int) : byB (repl n 0) := List.all_eq_true.2 fun y hy => by
  rw [List.eq_of_mem_replicate hy]
  rfl
def imgBd (m : Img) : Prop := decide (-8 ≤ m.base ∧ m.base ≤ 4104 ∧ m.bytes.length ≤ 2001 ∧ byB m.bytes) = true
theorem imgBd_iff {m : Img} : imgBd m ↔ -8 ≤ m.base ∧ m.base ≤ 4104 ∧ m.bytes.length ≤ 2001 ∧ byB m.bytes := decide_eq_true_iff
instance (m : Img) : Decidable (imgBd m) := by unfold imgBd; infer_instance
def memBd (m : Memo) : Prop := decide (imgBd m.what ∧ m.regions.length ≤ 4) = true
theorem memBd_iff {m : Memo} : memBd m ↔ imgBd m.what ∧ m.regions.length ≤ 4 := decide_eq_true_iff
def patE (q : Patch) : Prop := q.bytes.length ≤ 4 ∧ byB q.bytes ∧ -1000 ≤ q.at_ ∧ q.at_ ≤ 10000
instance (q : Patch) : Decidable (patE q) := by unfold patE byB; infer_instance
def patA (l : List Patch) : Prop := l.all (fun q => decide (patE q)) = true
theorem patA_mem {l : List Patch} {q : Patch} (h : patA l) (hq : q ∈ l) : patE q := of_decide_eq_true (List.all_eq_true.1 h q hq)
theorem patA_nil : patA [] := rfl
theorem patA_app {l : List Patch} {x : Patch} (h : patA l) (hx : patE x) : patA (l ++ [x]) := by
  unfold patA at *
  rw [List.all_append, h]
  simp [hx]
theorem pat_pick {a b c : Int} {x y : Patch} {k : Nat} (hx : x = ⟨a, []⟩ ∨ x = ⟨b, [1]⟩ ∨ x = ⟨c, [1]⟩) (hy : [(⟨a, []⟩ : Patch), ⟨b, [1]⟩, ⟨c, [1]⟩][k]? = some y) (ha : -1000 ≤ a ∧ a ≤ 10000) (hb : -1000 ≤ b ∧ b ≤ 10000) (hc : -1000 ≤ c ∧ c ≤ 10000) : patE ⟨x.at_, y.bytes⟩ := by
  replace hy := List.mem_of_getElem? hy
  simp only [List.mem_cons, List.not_mem_nil, or_false] at hy
  have e2 : y.bytes = [] ∨ y.bytes = [1] := by rcases hy with rfl | rfl | rfl <;> simp
  have e1 : -1000 ≤ x.at_ ∧ x.at_ ≤ 10000 := by rcases hx with rfl | rfl | rfl <;> assumption
  refine ⟨?_, ?_, e1.1, e1.2⟩
  · show y.bytes.length ≤ 4
    rcases e2 with e | e <;> simp [e]
  · show byB y.bytes
    rcases e2 with e | e <;> (rw [e]; decide)
def patBd (l : List Patch) : Prop := l.length ≤ 5 ∧ patA l

def C_spec_l20Bytes : Con := { ps := [.box (.ty (.st .reader)), .ro .i], out := fun x => let r : Reader := x.1; let n : Int := x.2.1; .req (0 ≤ r.p ∧ r.p ≤ 1000000000 ∧ 0 ≤ n ∧ n ≤ 1000) (.all (List Int) fun l => .all Int fun p => .giv (r.p ≤ p ∧ p ≤ r.p + 2 * n + 1 ∧ (l.length : Int) ≤ n ∧ byB l) (rdE 5 .u l p)), det := false }
def G_spec_l20Bytes : Cfg := mkG (tyL [(3, .i), (5, .u), (4, .bool), (9, .str), (126, .int .u64), (45, .st .fixup), (24, .st .img), (91, .st .patch), (65, .st .hash), (63, .list .i), (61, .list .str), (22, .list .u), (41, .st .fixup), (33, .st .img), (72, .st .hash)]) [(65, C_spec_l20Rd_pick)] false
def an_spec_l20Bytes : PTL C_spec_l20Bytes.ps → Nat → Option Ann := fun x kk_ => let r : Reader := x.1; let n : Int := x.2.1; if kk_ = 3 then some (.all (Int) fun k => .all (List Int) fun o => .all (Int) fun p => .giv (0 ≤ k ∧ k + o.length ≤ n ∧ byB o ∧ r.p ≤ p ∧ p + 2 * k ≤ r.p + 2 * n + 1) (.mk [(5, asl 20), (6, ai k), (0, aref 0)] [(0, lent (.st .reader) ⟨r.b, p⟩), (20, .row (some 5) .u o true)] (k.toNat))) else none
set_option maxRecDepth 200000 in
theorem vc_spec_l20Bytes (r : Reader) (n : Int) : (keeps Try.prog G_spec_l20Bytes (an_spec_l20Bytes (r, n, ())) (Try.f84.body.getD .skip) Try.f84.results.toList C_spec_l20Bytes (r, n, ())) = (((((- (9223372036854775808 : Int)) ≤ (n + (1 : Int))) ∧
 ((n + (1 : Int)) ≤ (9223372036854775807 : Int))) ∧
 ((((0 : Int) ≤ (Reader.p r)) ∧
 ((Reader.p r) ≤ (1000000000000 : Int))) ∧
 ((∃ (x_1 : Int), (∃ (x_2 : (List Int)), (∃ (x_3 : Int), (((pickF (Reader.b r) (Reader.p r) (n + (1 : Int))) = x_1) ∧
 ((@Eq (List Int) (Reader.b r) (Reader.b r)) ∧
 ((((Reader.p r) + (1 : Int)) = x_3) ∧
 ((@Eq (List Int) ([] : List Int) x_2) ∧
 ((((0 : Int) ≤ x_1) ∧
 (((x_1 + (@Nat.cast Int _ (List.length x_2))) ≤ n) ∧
 ((byB x_2) ∧
 (((Reader.p r) ≤ x_3) ∧
 ((x_3 + ((2 : Int) * x_1)) ≤ (((Reader.p r) + ((2 : Int) * n)) + (1 : Int))))))) ∧
 True)))))))) ∧
 (∀ (x_4 : Int), (∀ (x_5 : (List Int)), (∀ (x_6 : Int), ((((0 : Int) ≤ x_4) ∧
 (((x_4 + (@Nat.cast Int _ (List.length x_5))) ≤ n) ∧
 ((byB x_5) ∧
 (((Reader.p r) ≤ x_6) ∧
 ((x_6 + ((2 : Int) * x_4)) ≤ (((Reader.p r) + ((2 : Int) * n)) + (1 : Int))))))) →
 ((((decide ((0 : Int) < x_4)) = true) →
 ((((0 : Int) ≤ x_6) ∧
 (x_6 ≤ (1000000000000 : Int))) ∧
 ((((0 : Int) ≤ (x_6 + (1 : Int))) ∧
 ((x_6 + (1 : Int)) ≤ (1000000000000 : Int))) ∧
 ((((0 : Int) ≤ (pickF (Reader.b r) (x_6 + (1 : Int)) (3 : Int))) ∧
 ((pickF (Reader.b r) (x_6 + (1 : Int)) (3 : Int)) < (@Nat.cast Int _ (List.length [((pickF (Reader.b r) x_6 (256 : Int)) % (256 : (Ty.den Ty.u))), (0 : Int), (255 : Int)])))) ∧
 (∀ (x_7 : Int), ((@Eq (Option Int) ([((pickF (Reader.b r) x_6 (256 : Int)) % (256 : (Ty.den Ty.u))), (0 : Int), (255 : Int)])[(Int.toNat (pickF (Reader.b r) (x_6 + (1 : Int)) (3 : Int)))]? (some x_7)) →
 ((Ok (Ty.int IntKind.u8) x_7) →
 ((((((List.length x_5) + (List.length [x_7])) * (1 : Nat)) ≤ (140737488355328 : Nat)) ∧
 (((List.length x_5) + (List.length [x_7])) ≤ (1000000000000 : Nat))) ∧
 ((((- (9223372036854775808 : Int)) ≤ (x_4 - (1 : Int))) ∧
 ((x_4 - (1 : Int)) ≤ (9223372036854775807 : Int))) ∧
 (∃ (x_8 : Int), (∃ (x_9 : (List Int)), (∃ (x_10 : Int), (((x_4 - (1 : Int)) = x_8) ∧
 ((@Eq (List Int) (Reader.b r) (Reader.b r)) ∧
 ((((x_6 + (1 : Int)) + (1 : Int)) = x_10) ∧
 ((@Eq (List Int) (x_5 ++ [x_7]) x_9) ∧
 ((((0 : Int) ≤ x_8) ∧
 (((x_8 + (@Nat.cast Int _ (List.length x_9))) ≤ n) ∧
 ((byB x_9) ∧
 (((Reader.p r) ≤ x_10) ∧
 ((x_10 + ((2 : Int) * x_8)) ≤ (((Reader.p r) + ((2 : Int) * n)) + (1 : Int))))))) ∧
 ((Int.toNat x_8) < (Int.toNat x_4))))))))))))))))))) ∧
 (((decide ((0 : Int) < x_4)) = false) →
 (∃ (x_11 : (List Int)), (∃ (x_12 : Int), (((@Eq (List Int) x_5 x_11) ∧
 ((@Eq (List Int) (Reader.b r) (Reader.b r)) ∧
 ((x_6 = x_12) ∧
 True))) ∧
 (((Reader.p r) ≤ x_12) ∧
 ((x_12 ≤ (((Reader.p r) + ((2 : Int) * n)) + (1 : Int))) ∧
 (((@Nat.cast Int _ (List.length x_11)) ≤ n) ∧
 (byB x_11))))))))))))))))) := by kernel_rfl
theorem det_spec_l20Bytes : C_spec_l20Bytes.det = true → ∀ x, (C_spec_l20Bytes.out x).Det := fun h => absurd h Bool.false_ne_true
set_option maxRecDepth 200000 in
set_option maxHeartbeats 1000000 in
theorem ok_spec_l20Bytes : ConOK Try.prog 84 C_spec_l20Bytes := by
  refine con_mk (wr := false) (ty := tyL [(3, .i), (5, .u), (4, .bool), (9, .str), (126, .int .u64), (45, .st .fixup), (24, .st .img), (91, .st .patch), (65, .st .hash), (63, .list .i), (61, .list .str), (22, .list .u), (41, .st .fixup), (33, .st .img), (72, .st .hash)]) (l := [(65, C_spec_l20Rd_pick)]) ⟨⟨ok_spec_l20Rd_pick, det_spec_l20Rd_pick⟩, trivial⟩ Try.checked.mixed (fn := Try.f84) (body := Try.f84.body.getD .skip) Try.func84 rfl (by decide) (by kernel_rfl) rfl an_spec_l20Bytes fun x ho hx => ?_
  obtain ⟨r, n, ⟨⟩⟩ := x
  refine Keeps.of (vc_spec_l20Bytes r n) ?_
  revert r n ho hx
  show ∀ (r : Reader) (n : Int), _
  intro r n ho hx
  dsimp only [C_spec_l20Bytes, okPTL, okPT, Ok, Ty.cells, SN.cells, OkL, OkC, okI, ci, cb, cs, cl] at ho
  dsimp only [C_spec_l20Bytes, vc, v1, decB, SR.pre] at hx
  have hb := pickF_bd r.b
  simp only [decide_eq_true_eq, decide_eq_false_iff_not, Bool.not_eq_true', Bool.not_eq_false', and_true, true_and, Int.toNat_natCast, exists_eq_left', exists_eq_left, exists_and_left, Int.not_lt, Int.not_le, Bool.false_eq_true, false_implies, implies_true, forall_const, List.length_append, List.length_cons, List.length_nil, Int.sub_add_cancel, Int.add_sub_cancel, and_imp, get_set_iff, forall_eq', forall_eq, List.set_set, mkd_get, mkd_len, List.length_set, Option.some.injEq]; (repeat' first | intro _ | apply And.intro); all_goals (try omega); all_goals grind [byB_app, byB_nil, ok_u8]
def C_spec_l20Name : Con := { ps := [.box (.ty (.st .reader)), .ro .i], out := fun x => let r : Reader := x.1; let n : Int := x.2.1; .req (0 ≤ r.p ∧ r.p ≤ 1000000000 ∧ n ≤ 1000000) (.all ByteArray fun s => .all Int fun p => .giv (r.p ≤ p ∧ p ≤ r.p + 3 ∧ s.size ≤ 16 ∧ (n ≤ 0 → nameB s = true)) (rdV (ax s) p)), det := false }
def G_spec_l20Name : Cfg := mkG (tyL [(3, .i), (5, .u), (4, .bool), (9, .str), (126, .int .u64), (45, .st .fixup), (24, .st .img), (91, .st .patch), (65, .st .hash), (63, .list .i), (61, .list .str), (22, .list .u), (41, .st .fixup), (33, .st .img), (72, .st .hash)]) [(66, C_spec_l20Rd_odd), (65, C_spec_l20Rd_pick)] false
def an_spec_l20Name : PTL C_spec_l20Name.ps → Nat → Option Ann := fun _ _ => none
set_option maxRecDepth 200000 in
theorem vc_spec_l20Name (r : Reader) (n : Int) : (keeps Try.prog G_spec_l20Name (an_spec_l20Name (r, n, ())) (Try.f106.body.getD .skip) Try.f106.results.toList C_spec_l20Name (r, n, ())) = (((((0 : Int) ≤ (Reader.p r)) ∧
 (((Reader.p r) ≤ (1000000000000 : Int)) ∧
 (n ≤ (1000000 : Int)))) ∧
 (∀ (x_1 : Bool), (∀ (x_2 : Int), ((((Reader.p r) ≤ x_2) ∧
 ((x_2 ≤ ((Reader.p r) + (1 : Int))) ∧
 ((n ≤ (0 : Int)) →
 (x_1 = false)))) →
 (((x_1 = true) →
 ((((0 : Int) ≤ x_2) ∧
 (x_2 ≤ (1000000000000 : Int))) ∧
 ((((0 : Int) ≤ (pickF (Reader.b r) x_2 (6 : Int))) ∧
 ((pickF (Reader.b r) x_2 (6 : Int)) < (@Nat.cast Int _ (6 : Nat)))) ∧
 (∀ (x_3 : ByteArray), ((@Eq (Option ByteArray) ([(ByteArray.mk (@Array.mk UInt8 ([] : List UInt8))), (ByteArray.mk (@Array.mk UInt8 [(65 : UInt8)])), (ByteArray.mk (@Array.mk UInt8 [(49 : UInt8), (97 : UInt8)])), (ByteArray.mk (@Array.mk UInt8 [(97 : UInt8), (98 : UInt8), (99 : UInt8), (100 : UInt8), (101 : UInt8), (102 : UInt8), (103 : UInt8), (104 : UInt8), (105 : UInt8)])), (ByteArray.mk (@Array.mk UInt8 [(97 : UInt8), (32 : UInt8), (98 : UInt8)])), (ByteArray.mk (@Array.mk UInt8 [(97 : UInt8), (45 : UInt8), (98 : UInt8)]))])[(Int.toNat (pickF (Reader.b r) x_2 (6 : Int)))]? (some x_3)) →
 ((Ok Ty.str x_3) →
 (∃ (x_4 : ByteArray), (∃ (x_5 : Int), (((@Eq ByteArray x_3 x_4) ∧
 ((@Eq (List Int) (Reader.b r) (Reader.b r)) ∧
 (((x_2 + (1 : Int)) = x_5) ∧
 True))) ∧
 (((Reader.p r) ≤ x_5) ∧
 ((x_5 ≤ ((Reader.p r) + (3 : Int))) ∧
 (((ByteArray.size x_4) ≤ (16 : Nat)) ∧
 ((n ≤ (0 : Int)) →
 ((nameB x_4) = true)))))))))))))) ∧
 ((x_1 = false) →
 ((((0 : Int) ≤ x_2) ∧
 (x_2 ≤ (1000000000000 : Int))) ∧
 ((((0 : Int) ≤ (pickF (Reader.b r) x_2 (10 : Int))) ∧
 ((pickF (Reader.b r) x_2 (10 : Int)) < (@Nat.cast Int _ (10 : Nat)))) ∧
 (∀ (x_6 : ByteArray), ((@Eq (Option ByteArray) ([(ByteArray.mk (@Array.mk UInt8 [(109 : UInt8), (97 : UInt8), (105 : UInt8), (110 : UInt8)])), (ByteArray.mk (@Array.mk UInt8 [(105 : UInt8), (110 : UInt8)])), (ByteArray.mk (@Array.mk UInt8 [(99 : UInt8), (111 : UInt8), (100 : UInt8), (101 : UInt8)])), (ByteArray.mk (@Array.mk UInt8 [(100 : UInt8), (97 : UInt8), (116 : UInt8), (97 : UInt8)])), (ByteArray.mk (@Array.mk UInt8 [(95 : UInt8), (115 : UInt8), (116 : UInt8), (97 : UInt8), (114 : UInt8), (116 : UInt8)])), (ByteArray.mk (@Array.mk UInt8 [(97 : UInt8), (114 : UInt8), (116 : UInt8)])), (ByteArray.mk (@Array.mk UInt8 [(116 : UInt8)])), (ByteArray.mk (@Array.mk UInt8 [(120 : UInt8), (49 : UInt8)])), (ByteArray.mk (@Array.mk UInt8 [(46 : UInt8), (116 : UInt8), (101 : UInt8), (120 : UInt8), (116 : UInt8)])), (ByteArray.mk (@Array.mk UInt8 [(112 : UInt8), (117 : UInt8), (116 : UInt8), (115 : UInt8)]))])[(Int.toNat (pickF (Reader.b r) x_2 (10 : Int)))]? (some x_6)) →
 ((Ok Ty.str x_6) →
 (∃ (x_7 : ByteArray), (∃ (x_8 : Int), (((@Eq ByteArray x_6 x_7) ∧
 ((@Eq (List Int) (Reader.b r) (Reader.b r)) ∧
 (((x_2 + (1 : Int)) = x_8) ∧
 True))) ∧
 (((Reader.p r) ≤ x_8) ∧
 ((x_8 ≤ ((Reader.p r) + (3 : Int))) ∧
 (((ByteArray.size x_7) ≤ (16 : Nat)) ∧
 ((n ≤ (0 : Int)) →
 ((nameB x_7) = true)))))))))))))))))))) := by kernel_rfl
theorem det_spec_l20Name : C_spec_l20Name.det = true → ∀ x, (C_spec_l20Name.out x).Det := fun h => absurd h Bool.false_ne_true
set_option maxRecDepth 200000 in
set_option maxHeartbeats 1000000 in
theorem ok_spec_l20Name : ConOK Try.prog 106 C_spec_l20Name := by
  refine con_mk (wr := false) (ty := tyL [(3, .i), (5, .u), (4, .bool), (9, .str), (126, .int .u64), (45, .st .fixup), (24, .st .img), (91, .st .patch), (65, .st .hash), (63, .list .i), (61, .list .str), (22, .list .u), (41, .st .fixup), (33, .st .img), (72, .st .hash)]) (l := [(66, C_spec_l20Rd_odd), (65, C_spec_l20Rd_pick)]) ⟨⟨ok_spec_l20Rd_odd, det_spec_l20Rd_odd⟩, ⟨⟨ok_spec_l20Rd_pick, det_spec_l20Rd_pick⟩, trivial⟩⟩ Try.checked.mixed (fn := Try.f106) (body := Try.f106.body.getD .skip) Try.func106 rfl (by decide) (by kernel_rfl) rfl an_spec_l20Name fun x ho hx => ?_
  obtain ⟨r, n, ⟨⟩⟩ := x
  refine Keeps.of (vc_spec_l20Name r n) ?_
  revert r n ho hx
  show ∀ (r : Reader) (n : Int), _
  intro r n ho hx
  dsimp only [C_spec_l20Name, okPTL, okPT, Ok, Ty.cells, SN.cells, OkL, OkC, okI, ci, cb, cs, cl] at ho
  dsimp only [C_spec_l20Name, vc, v1, decB, SR.pre] at hx
  have hb := pickF_bd r.b
  simp only [decide_eq_true_eq, decide_eq_false_iff_not, Bool.not_eq_true', Bool.not_eq_false', and_true, true_and, and_assoc, Int.toNat_natCast, exists_eq_left', exists_eq_left, exists_and_left, Int.not_lt, Int.not_le, Bool.false_eq_true, false_implies, implies_true, forall_const, List.length_append, List.length_cons, List.length_nil, Int.sub_add_cancel, Int.add_sub_cancel, and_imp, ex_img, ex_mem, ex_fix, ex_pat, forall_eq', forall_eq]; (repeat' first | apply And.intro | (intro x hq _; replace hq := List.mem_of_getElem? hq; simp only [List.mem_cons, List.not_mem_nil, or_false] at hq) | intro _); all_goals (try omega)
  all_goals first | grind | (rcases hq with rfl | rfl | rfl | rfl | rfl | rfl | rfl | rfl | rfl | rfl <;> decide) | (rcases hq with rfl | rfl | rfl | rfl | rfl | rfl <;> decide)
def C_spec_l20Image : Con := { ps := [.box (.ty (.st .reader)), .ro .i], out := fun x => let r : Reader := x.1; let n : Int := x.2.1; .req (0 ≤ r.p ∧ r.p ≤ 500000000 ∧ n ≤ 1000000) (.all Img fun m => .all Int fun p => .giv (r.p ≤ p ∧ p ≤ r.p + 50 ∧ imgBd m) (rdS .img m p)), det := false }
def G_spec_l20Image : Cfg := mkG (tyL [(3, .i), (5, .u), (4, .bool), (9, .str), (126, .int .u64), (45, .st .fixup), (24, .st .img), (91, .st .patch), (65, .st .hash), (63, .list .i), (61, .list .str), (22, .list .u), (41, .st .fixup), (33, .st .img), (72, .st .hash)]) [(65, C_spec_l20Rd_pick), (84, C_spec_l20Bytes), (66, C_spec_l20Rd_odd)] false
def an_spec_l20Image : PTL C_spec_l20Image.ps → Nat → Option Ann := fun _ _ => none
set_option maxRecDepth 200000 in
theorem vc_spec_l20Image (r : Reader) (n : Int) : (keeps Try.prog G_spec_l20Image (an_spec_l20Image (r, n, ())) (Try.f64.body.getD .skip) Try.f64.results.toList C_spec_l20Image (r, n, ())) = (((((0 : Int) ≤ (Reader.p r)) ∧
 ((Reader.p r) ≤ (1000000000000 : Int))) ∧
 ((((- (9223372036854775808 : Int)) ≤ ((8 : Int) * (pickF (Reader.b r) (Reader.p r) (20 : Int)))) ∧
 (((8 : Int) * (pickF (Reader.b r) (Reader.p r) (20 : Int))) ≤ (9223372036854775807 : Int))) ∧
 ((((0 : Int) ≤ ((Reader.p r) + (1 : Int))) ∧
 ((((Reader.p r) + (1 : Int)) ≤ (1000000000 : Int)) ∧
 (((0 : Int) ≤ (20 : Int)) ∧
 ((20 : Int) ≤ (1000 : Int))))) ∧
 (∀ (x_1 : (List Int)), (∀ (x_2 : Int), (((((Reader.p r) + (1 : Int)) ≤ x_2) ∧
 ((x_2 ≤ ((((Reader.p r) + (1 : Int)) + ((2 : Int) * (20 : Int))) + (1 : Int))) ∧
 (((@Nat.cast Int _ (List.length x_1)) ≤ (20 : Int)) ∧
 (byB x_1)))) →
 ((((0 : Int) ≤ x_2) ∧
 ((x_2 ≤ (1000000000000 : Int)) ∧
 (n ≤ (1000000 : Int)))) ∧
 (∀ (x_3 : Bool), (∀ (x_4 : Int), (((x_2 ≤ x_4) ∧
 ((x_4 ≤ (x_2 + (1 : Int))) ∧
 ((n ≤ (0 : Int)) →
 (x_3 = false)))) →
 (((x_3 = true) →
 ((((0 : Int) ≤ x_4) ∧
 (x_4 ≤ (1000000000000 : Int))) ∧
 ((((decide ((pickF (Reader.b r) x_4 (3 : Int)) = (0 : Int))) = true) →
 ((((0 : Int) ≤ (x_4 + (1 : Int))) ∧
 ((x_4 + (1 : Int)) ≤ (1000000000000 : Int))) ∧
 ((((0 : Int) ≤ (pickF (Reader.b r) (x_4 + (1 : Int)) (3 : Int))) ∧
 ((pickF (Reader.b r) (x_4 + (1 : Int)) (3 : Int)) < (@Nat.cast Int _ (3 : Nat)))) ∧
 (∀ (x_5 : Int), ((@Eq (Option Int) ([(- (8 : Int)), (4 : Int), (4104 : Int)])[(Int.toNat (pickF (Reader.b r) (x_4 + (1 : Int)) (3 : Int)))]? (some x_5)) →
 ((Ok (Ty.int IntKind.i64) x_5) →
 (∃ (x_6 : Img), (∃ (x_7 : Int), (((x_5 = (Img.base x_6)) ∧
 ((@Eq (List Int) x_1 (Img.bytes x_6)) ∧
 ((@Eq (List Int) (Reader.b r) (Reader.b r)) ∧
 ((((x_4 + (1 : Int)) + (1 : Int)) = x_7) ∧
 True)))) ∧
 (((Reader.p r) ≤ x_7) ∧
 ((x_7 ≤ ((Reader.p r) + (50 : Int))) ∧
 (imgBd x_6)))))))))))) ∧
 (((decide ((pickF (Reader.b r) x_4 (3 : Int)) = (0 : Int))) = false) →
 ((((2001 : Int) = (2001 : Int)) ∧
 (((0 : Int) ≤ (2001 : Int)) ∧
 (((2001 : Int) ≤ (1000000000000 : Int)) ∧
 (((@Nat.cast Int _ (1 : Nat)) * (2001 : Int)) ≤ (140737488355328 : Int))))) ∧
 (∃ (x_8 : Img), (∃ (x_9 : Int), (((((8 : Int) * (pickF (Reader.b r) (Reader.p r) (20 : Int))) = (Img.base x_8)) ∧
 ((@Eq (List Int) (@repl Int (2001 : Int) (0 : Int)) (Img.bytes x_8)) ∧
 ((@Eq (List Int) (Reader.b r) (Reader.b r)) ∧
 (((x_4 + (1 : Int)) = x_9) ∧
 True)))) ∧
 (((Reader.p r) ≤ x_9) ∧
 ((x_9 ≤ ((Reader.p r) + (50 : Int))) ∧
 (imgBd x_8))))))))))) ∧
 ((x_3 = false) →
 (∃ (x_10 : Img), (∃ (x_11 : Int), (((((8 : Int) * (pickF (Reader.b r) (Reader.p r) (20 : Int))) = (Img.base x_10)) ∧
 ((@Eq (List Int) x_1 (Img.bytes x_10)) ∧
 ((@Eq (List Int) (Reader.b r) (Reader.b r)) ∧
 ((x_4 = x_11) ∧
 True)))) ∧
 (((Reader.p r) ≤ x_11) ∧
 ((x_11 ≤ ((Reader.p r) + (50 : Int))) ∧
 (imgBd x_10))))))))))))))))))) := by kernel_rfl
theorem det_spec_l20Image : C_spec_l20Image.det = true → ∀ x, (C_spec_l20Image.out x).Det := fun h => absurd h Bool.false_ne_true
set_option maxRecDepth 200000 in
set_option maxHeartbeats 1000000 in
theorem ok_spec_l20Image : ConOK Try.prog 64 C_spec_l20Image := by
  refine con_mk (wr := false) (ty := tyL [(3, .i), (5, .u), (4, .bool), (9, .str), (126, .int .u64), (45, .st .fixup), (24, .st .img), (91, .st .patch), (65, .st .hash), (63, .list .i), (61, .list .str), (22, .list .u), (41, .st .fixup), (33, .st .img), (72, .st .hash)]) (l := [(65, C_spec_l20Rd_pick), (84, C_spec_l20Bytes), (66, C_spec_l20Rd_odd)]) ⟨⟨ok_spec_l20Rd_pick, det_spec_l20Rd_pick⟩, ⟨⟨ok_spec_l20Bytes, det_spec_l20Bytes⟩, ⟨⟨ok_spec_l20Rd_odd, det_spec_l20Rd_odd⟩, trivial⟩⟩⟩ Try.checked.mixed (fn := Try.f64) (body := Try.f64.body.getD .skip) Try.func64 rfl (by decide) (by kernel_rfl) rfl an_spec_l20Image fun x ho hx => ?_
  obtain ⟨r, n, ⟨⟩⟩ := x
  refine Keeps.of (vc_spec_l20Image r n) ?_
  revert r n ho hx
  show ∀ (r : Reader) (n : Int), _
  intro r n ho hx
  dsimp only [C_spec_l20Image, okPTL, okPT, Ok, Ty.cells, SN.cells, OkL, OkC, okI, ci, cb, cs, cl] at ho
  dsimp only [C_spec_l20Image, vc, v1, decB, SR.pre] at hx
  have hb := pickF_bd r.b
  simp only [decide_eq_true_eq, decide_eq_false_iff_not, Bool.not_eq_true', Bool.not_eq_false', and_true, true_and, and_assoc, Int.toNat_natCast, exists_eq_left', exists_eq_left, exists_and_left, Int.not_lt, Int.not_le, Bool.false_eq_true, false_implies, implies_true, forall_const, List.length_append, List.length_cons, List.length_nil, Int.sub_add_cancel, Int.add_sub_cancel, and_imp, ex_img, ex_mem, ex_fix, ex_pat, forall_eq', forall_eq]; (repeat' first | apply And.intro | (intro x hq _; replace hq := List.mem_of_getElem? hq; simp only [List.mem_cons, List.not_mem_nil, or_false] at hq) | intro _); all_goals (try omega)
  all_goals grind [imgBd_iff, byB_repl, repl_len]
def C_spec_l20Patches : Con := { ps := [.box (.ty (.st .reader)), .ro (.st .img), .ro .i], out := fun x => let r : Reader := x.1; let m : Img := x.2.1; let n : Int := x.2.2.1; .req (0 ≤ r.p ∧ r.p ≤ 100000000 ∧ n ≤ 1000000 ∧ imgBd m) (.all (List Patch) fun l => .all Int fun p => .giv (r.p ≤ p ∧ p ≤ r.p + 100 ∧ patBd l) (rdF 91 (.st .patch) l p)), det := false }
def G_spec_l20Patches : Cfg := mkG (tyL [(3, .i), (5, .u), (4, .bool), (9, .str), (126, .int .u64), (45, .st .fixup), (24, .st .img), (91, .st .patch), (65, .st .hash), (63, .list .i), (61, .list .str), (22, .list .u), (41, .st .fixup), (33, .st .img), (72, .st .hash)]) [(65, C_spec_l20Rd_pick), (84, C_spec_l20Bytes), (66, C_spec_l20Rd_odd)] false
def an_spec_l20Patches : PTL C_spec_l20Patches.ps → Nat → Option Ann := fun x kk_ => let r : Reader := x.1; let m : Img := x.2.1; let n : Int := x.2.2.1; if kk_ = 4 then some (.all (List Patch) fun o => .all (Int) fun a => .all (Int) fun k => .all (Int) fun p => .giv (patA o ∧ r.p ≤ p ∧ p + 9 * k ≤ r.p + 28 ∧ 0 ≤ k ∧ o.length + k ≤ 3 ∧ -8 ≤ a ∧ a ≤ 6106) (.mk [(7, asl 20), (8, ai a), (9, ai k), (0, aref 0), (2, ai n), (4, aref 64)] [(0, lent (.st .reader) ⟨r.b, p⟩), (20, .row (some 91) (.st .patch) o false), (64, bx (ast .img m))] (k.toNat))) else if kk_ = 1008 then some (.all (List Patch) fun o => .all (Patch) fun q => .all (Int) fun k => .all (Int) fun p => .giv (patA o ∧ patE q ∧ r.p ≤ p ∧ p + 9 * (k - 1) ≤ r.p + 28 ∧ 0 < k ∧ o.length + k ≤ 3 ∧ -8 ≤ q.at_ ∧ q.at_ + q.bytes.length ≤ 6105) (.mk [(0, aref 0), (2, ai n), (4, aref 64), (7, asl 20), (9, ai k), (10, aref 40)] [(0, lent (.st .reader) ⟨r.b, p⟩), (64, bx (ast .img m)), (20, .row (some 91) (.st .patch) o false), (40, bx (ast .patch q))] (k.toNat))) else none
set_option maxRecDepth 200000 in
theorem vc_spec_l20Patches (r : Reader) (m : Img) (n : Int) : (keeps Try.prog G_spec_l20Patches (an_spec_l20Patches (r, m, n, ())) (Try.f81.body.getD .skip) Try.f81.results.toList C_spec_l20Patches (r, m, n, ())) = (((((0 : Int) ≤ (Reader.p r)) ∧
 ((Reader.p r) ≤ (1000000000000 : Int))) ∧
 ((∃ (x_1 : (List Patch)), (∃ (x_2 : Int), (∃ (x_3 : Int), (∃ (x_4 : Int), (((Img.base m) = x_2) ∧
 (((pickF (Reader.b r) (Reader.p r) (4 : Int)) = x_3) ∧
 ((n = n) ∧
 ((@Eq (List Int) (Reader.b r) (Reader.b r)) ∧
 ((((Reader.p r) + (1 : Int)) = x_4) ∧
 ((@Eq (List Patch) ([] : List Patch) x_1) ∧
 (((Img.base m) = (Img.base m)) ∧
 ((@Eq (List Int) (Img.bytes m) (Img.bytes m)) ∧
 (((patA x_1) ∧
 (((Reader.p r) ≤ x_4) ∧
 (((x_4 + ((9 : Int) * x_3)) ≤ ((Reader.p r) + (28 : Int))) ∧
 (((0 : Int) ≤ x_3) ∧
 ((((@Nat.cast Int _ (List.length x_1)) + x_3) ≤ (3 : Int)) ∧
 (((- (8 : Int)) ≤ x_2) ∧
 (x_2 ≤ (6106 : Int)))))))) ∧
 True))))))))))))) ∧
 (∀ (x_5 : (List Patch)), (∀ (x_6 : Int), (∀ (x_7 : Int), (∀ (x_8 : Int), (((patA x_5) ∧
 (((Reader.p r) ≤ x_8) ∧
 (((x_8 + ((9 : Int) * x_7)) ≤ ((Reader.p r) + (28 : Int))) ∧
 (((0 : Int) ≤ x_7) ∧
 ((((@Nat.cast Int _ (List.length x_5)) + x_7) ≤ (3 : Int)) ∧
 (((- (8 : Int)) ≤ x_6) ∧
 (x_6 ≤ (6106 : Int)))))))) →
 ((((decide ((0 : Int) < x_7)) = true) →
 ((((0 : Int) ≤ x_8) ∧
 (x_8 ≤ (1000000000000 : Int))) ∧
 ((((- (9223372036854775808 : Int)) ≤ (x_6 + (pickF (Reader.b r) x_8 (4 : Int)))) ∧
 ((x_6 + (pickF (Reader.b r) x_8 (4 : Int))) ≤ (9223372036854775807 : Int))) ∧
 ((((0 : Int) ≤ (x_8 + (1 : Int))) ∧
 (((x_8 + (1 : Int)) ≤ (1000000000 : Int)) ∧
 (((0 : Int) ≤ (3 : Int)) ∧
 ((3 : Int) ≤ (1000 : Int))))) ∧
 (∀ (x_9 : (List Int)), (∀ (x_10 : Int), ((((x_8 + (1 : Int)) ≤ x_10) ∧
 ((x_10 ≤ (((x_8 + (1 : Int)) + ((2 : Int) * (3 : Int))) + (1 : Int))) ∧
 (((@Nat.cast Int _ (List.length x_9)) ≤ (3 : Int)) ∧
 (byB x_9)))) →
 ((((0 : Int) ≤ x_10) ∧
 (x_10 ≤ (1000000000000 : Int))) ∧
 ((((((List.length x_9) + (List.length [((pickF (Reader.b r) x_10 (256 : Int)) % (256 : (Ty.den Ty.u)))])) * (1 : Nat)) ≤ (140737488355328 : Nat)) ∧
 (((List.length x_9) + (List.length [((pickF (Reader.b r) x_10 (256 : Int)) % (256 : (Ty.den Ty.u)))])) ≤ (1000000000000 : Nat))) ∧
 (((List.length (x_9 ++ [((pickF (Reader.b r) x_10 (256 : Int)) % (256 : (Ty.den Ty.u)))])) ≤ (9223372036854775807 : Nat)) →
 ((((- (9223372036854775808 : Int)) ≤ ((x_6 + (pickF (Reader.b r) x_8 (4 : Int))) + (@Nat.cast Int _ (List.length (x_9 ++ [((pickF (Reader.b r) x_10 (256 : Int)) % (256 : (Ty.den Ty.u)))]))))) ∧
 (((x_6 + (pickF (Reader.b r) x_8 (4 : Int))) + (@Nat.cast Int _ (List.length (x_9 ++ [((pickF (Reader.b r) x_10 (256 : Int)) % (256 : (Ty.den Ty.u)))])))) ≤ (9223372036854775807 : Int))) ∧
 (((List.length (Img.bytes m)) ≤ (9223372036854775807 : Nat)) →
 ((((- (9223372036854775808 : Int)) ≤ ((Img.base m) + (@Nat.cast Int _ (List.length (Img.bytes m))))) ∧
 (((Img.base m) + (@Nat.cast Int _ (List.length (Img.bytes m)))) ≤ (9223372036854775807 : Int))) ∧
 ((((decide (((Img.base m) + (@Nat.cast Int _ (List.length (Img.bytes m)))) < ((x_6 + (pickF (Reader.b r) x_8 (4 : Int))) + (@Nat.cast Int _ (List.length (x_9 ++ [((pickF (Reader.b r) x_10 (256 : Int)) % (256 : (Ty.den Ty.u)))])))))) = true) →
 ((((0 : Int) ≤ (x_10 + (1 : Int))) ∧
 (((x_10 + (1 : Int)) ≤ (1000000000000 : Int)) ∧
 (n ≤ (1000000 : Int)))) ∧
 (∀ (x_11 : Bool), (∀ (x_12 : Int), ((((x_10 + (1 : Int)) ≤ x_12) ∧
 ((x_12 ≤ ((x_10 + (1 : Int)) + (1 : Int))) ∧
 ((n ≤ (0 : Int)) →
 (x_11 = false)))) →
 (((x_11 = true) →
 ((((- (9223372036854775808 : Int)) ≤ (x_6 + (100 : Int))) ∧
 ((x_6 + (100 : Int)) ≤ (9223372036854775807 : Int))) ∧
 ((((- (9223372036854775808 : Int)) ≤ ((Img.base m) - (1 : Int))) ∧
 (((Img.base m) - (1 : Int)) ≤ (9223372036854775807 : Int))) ∧
 ((((0 : Int) ≤ x_12) ∧
 (x_12 ≤ (1000000000000 : Int))) ∧
 ((((0 : Int) ≤ (pickF (Reader.b r) x_12 (3 : Int))) ∧
 ((pickF (Reader.b r) x_12 (3 : Int)) < (@Nat.cast Int _ (List.length [(Patch.mk (Img.base m) ([] : List Int)), (Patch.mk (x_6 + (100 : Int)) [(1 : Int)]), (Patch.mk ((Img.base m) - (1 : Int)) [(1 : Int)])])))) ∧
 (∀ (x_13 : Patch), ((@Eq (Option Patch) ([(Patch.mk (Img.base m) ([] : List Int)), (Patch.mk (x_6 + (100 : Int)) [(1 : Int)]), (Patch.mk ((Img.base m) - (1 : Int)) [(1 : Int)])])[(Int.toNat (pickF (Reader.b r) x_12 (3 : Int)))]? (some x_13)) →
 ((Ok (Ty.st SN.patch) x_13) →
 (∀ (x_14 : Patch), ((@Eq (Option Patch) ([(Patch.mk (Img.base m) ([] : List Int)), (Patch.mk (x_6 + (100 : Int)) [(1 : Int)]), (Patch.mk ((Img.base m) - (1 : Int)) [(1 : Int)])])[(Int.toNat (pickF (Reader.b r) x_12 (3 : Int)))]? (some x_14)) →
 ((((((List.length x_5) + (List.length [(Patch.mk (Patch.at_ x_13) (Patch.bytes x_14))])) * (32 : Nat)) ≤ (140737488355328 : Nat)) ∧
 (((List.length x_5) + (List.length [(Patch.mk (Patch.at_ x_13) (Patch.bytes x_14))])) ≤ (1000000000000 : Nat))) ∧
 (∃ (x_15 : (List Patch)), (∃ (x_16 : Int), (((@Eq (List Patch) (x_5 ++ [(Patch.mk (Patch.at_ x_13) (Patch.bytes x_14))]) x_15) ∧
 ((@Eq (List Int) (Reader.b r) (Reader.b r)) ∧
 (((x_12 + (1 : Int)) = x_16) ∧
 True))) ∧
 (((Reader.p r) ≤ x_16) ∧
 ((x_16 ≤ ((Reader.p r) + (100 : Int))) ∧
 (patBd x_15))))))))))))))))) ∧
 ((x_11 = false) →
 (∃ (x_17 : (List Patch)), (∃ (x_18 : Int), (((@Eq (List Patch) x_5 x_17) ∧
 ((@Eq (List Int) (Reader.b r) (Reader.b r)) ∧
 ((x_12 = x_18) ∧
 True))) ∧
 (((Reader.p r) ≤ x_18) ∧
 ((x_18 ≤ ((Reader.p r) + (100 : Int))) ∧
 (patBd x_17))))))))))))) ∧
 (((decide (((Img.base m) + (@Nat.cast Int _ (List.length (Img.bytes m)))) < ((x_6 + (pickF (Reader.b r) x_8 (4 : Int))) + (@Nat.cast Int _ (List.length (x_9 ++ [((pickF (Reader.b r) x_10 (256 : Int)) % (256 : (Ty.den Ty.u)))])))))) = false) →
 (∃ (x_19 : (List Patch)), (∃ (x_20 : Patch), (∃ (x_21 : Int), (∃ (x_22 : Int), ((n = n) ∧
 ((x_7 = x_21) ∧
 ((@Eq (List Int) (Reader.b r) (Reader.b r)) ∧
 (((x_10 + (1 : Int)) = x_22) ∧
 (((Img.base m) = (Img.base m)) ∧
 ((@Eq (List Int) (Img.bytes m) (Img.bytes m)) ∧
 ((@Eq (List Patch) x_5 x_19) ∧
 (((x_6 + (pickF (Reader.b r) x_8 (4 : Int))) = (Patch.at_ x_20)) ∧
 ((@Eq (List Int) (x_9 ++ [((pickF (Reader.b r) x_10 (256 : Int)) % (256 : (Ty.den Ty.u)))]) (Patch.bytes x_20)) ∧
 (((patA x_19) ∧
 ((patE x_20) ∧
 (((Reader.p r) ≤ x_22) ∧
 (((x_22 + ((9 : Int) * (x_21 - (1 : Int)))) ≤ ((Reader.p r) + (28 : Int))) ∧
 (((0 : Int) < x_21) ∧
 ((((@Nat.cast Int _ (List.length x_19)) + x_21) ≤ (3 : Int)) ∧
 (((- (8 : Int)) ≤ (Patch.at_ x_20)) ∧
 (((Patch.at_ x_20) + (@Nat.cast Int _ (List.length (Patch.bytes x_20)))) ≤ (6105 : Int))))))))) ∧
 (∀ (x_23 : (List Patch)), (∀ (x_24 : Patch), (∀ (x_25 : Int), (∀ (x_26 : Int), (((patA x_23) ∧
 ((patE x_24) ∧
 (((Reader.p r) ≤ x_26) ∧
 (((x_26 + ((9 : Int) * (x_25 - (1 : Int)))) ≤ ((Reader.p r) + (28 : Int))) ∧
 (((0 : Int) < x_25) ∧
 ((((@Nat.cast Int _ (List.length x_23)) + x_25) ≤ (3 : Int)) ∧
 (((- (8 : Int)) ≤ (Patch.at_ x_24)) ∧
 (((Patch.at_ x_24) + (@Nat.cast Int _ (List.length (Patch.bytes x_24)))) ≤ (6105 : Int))))))))) →
 (((Int.toNat x_25) = (Int.toNat x_21)) →
 ((((((List.length x_23) + (List.length [x_24])) * (32 : Nat)) ≤ (140737488355328 : Nat)) ∧
 (((List.length x_23) + (List.length [x_24])) ≤ (1000000000000 : Nat))) ∧
 (((List.length (Patch.bytes x_24)) ≤ (9223372036854775807 : Nat)) →
 ((((- (9223372036854775808 : Int)) ≤ ((Patch.at_ x_24) + (@Nat.cast Int _ (List.length (Patch.bytes x_24))))) ∧
 (((Patch.at_ x_24) + (@Nat.cast Int _ (List.length (Patch.bytes x_24)))) ≤ (9223372036854775807 : Int))) ∧
 ((((- (9223372036854775808 : Int)) ≤ (((Patch.at_ x_24) + (@Nat.cast Int _ (List.length (Patch.bytes x_24)))) + (1 : Int))) ∧
 ((((Patch.at_ x_24) + (@Nat.cast Int _ (List.length (Patch.bytes x_24)))) + (1 : Int)) ≤ (9223372036854775807 : Int))) ∧
 ((((- (9223372036854775808 : Int)) ≤ (x_25 - (1 : Int))) ∧
 ((x_25 - (1 : Int)) ≤ (9223372036854775807 : Int))) ∧
 (∃ (x_27 : (List Patch)), (∃ (x_28 : Int), (∃ (x_29 : Int), (∃ (x_30 : Int), (((((Patch.at_ x_24) + (@Nat.cast Int _ (List.length (Patch.bytes x_24)))) + (1 : Int)) = x_28) ∧
 (((x_25 - (1 : Int)) = x_29) ∧
 ((n = n) ∧
 ((@Eq (List Int) (Reader.b r) (Reader.b r)) ∧
 ((x_26 = x_30) ∧
 ((@Eq (List Patch) (x_23 ++ [x_24]) x_27) ∧
 (((Img.base m) = (Img.base m)) ∧
 ((@Eq (List Int) (Img.bytes m) (Img.bytes m)) ∧
 (((patA x_27) ∧
 (((Reader.p r) ≤ x_30) ∧
 (((x_30 + ((9 : Int) * x_29)) ≤ ((Reader.p r) + (28 : Int))) ∧
 (((0 : Int) ≤ x_29) ∧
 ((((@Nat.cast Int _ (List.length x_27)) + x_29) ≤ (3 : Int)) ∧
 (((- (8 : Int)) ≤ x_28) ∧
 (x_28 ≤ (6106 : Int)))))))) ∧
 ((Int.toNat x_29) < (Int.toNat x_7))))))))))))))))))))))))))))))))))))))))))))))))))))))) ∧
 (((decide ((0 : Int) < x_7)) = false) →
 ((((0 : Int) ≤ x_8) ∧
 ((x_8 ≤ (1000000000000 : Int)) ∧
 (n ≤ (1000000 : Int)))) ∧
 (∀ (x_31 : Bool), (∀ (x_32 : Int), (((x_8 ≤ x_32) ∧
 ((x_32 ≤ (x_8 + (1 : Int))) ∧
 ((n ≤ (0 : Int)) →
 (x_31 = false)))) →
 (((x_31 = true) →
 ((((- (9223372036854775808 : Int)) ≤ (x_6 + (100 : Int))) ∧
 ((x_6 + (100 : Int)) ≤ (9223372036854775807 : Int))) ∧
 ((((- (9223372036854775808 : Int)) ≤ ((Img.base m) - (1 : Int))) ∧
 (((Img.base m) - (1 : Int)) ≤ (9223372036854775807 : Int))) ∧
 ((((0 : Int) ≤ x_32) ∧
 (x_32 ≤ (1000000000000 : Int))) ∧
 ((((0 : Int) ≤ (pickF (Reader.b r) x_32 (3 : Int))) ∧
 ((pickF (Reader.b r) x_32 (3 : Int)) < (@Nat.cast Int _ (List.length [(Patch.mk (Img.base m) ([] : List Int)), (Patch.mk (x_6 + (100 : Int)) [(1 : Int)]), (Patch.mk ((Img.base m) - (1 : Int)) [(1 : Int)])])))) ∧
 (∀ (x_33 : Patch), ((@Eq (Option Patch) ([(Patch.mk (Img.base m) ([] : List Int)), (Patch.mk (x_6 + (100 : Int)) [(1 : Int)]), (Patch.mk ((Img.base m) - (1 : Int)) [(1 : Int)])])[(Int.toNat (pickF (Reader.b r) x_32 (3 : Int)))]? (some x_33)) →
 ((Ok (Ty.st SN.patch) x_33) →
 (∀ (x_34 : Patch), ((@Eq (Option Patch) ([(Patch.mk (Img.base m) ([] : List Int)), (Patch.mk (x_6 + (100 : Int)) [(1 : Int)]), (Patch.mk ((Img.base m) - (1 : Int)) [(1 : Int)])])[(Int.toNat (pickF (Reader.b r) x_32 (3 : Int)))]? (some x_34)) →
 ((((((List.length x_5) + (List.length [(Patch.mk (Patch.at_ x_33) (Patch.bytes x_34))])) * (32 : Nat)) ≤ (140737488355328 : Nat)) ∧
 (((List.length x_5) + (List.length [(Patch.mk (Patch.at_ x_33) (Patch.bytes x_34))])) ≤ (1000000000000 : Nat))) ∧
 (∃ (x_35 : (List Patch)), (∃ (x_36 : Int), (((@Eq (List Patch) (x_5 ++ [(Patch.mk (Patch.at_ x_33) (Patch.bytes x_34))]) x_35) ∧
 ((@Eq (List Int) (Reader.b r) (Reader.b r)) ∧
 (((x_32 + (1 : Int)) = x_36) ∧
 True))) ∧
 (((Reader.p r) ≤ x_36) ∧
 ((x_36 ≤ ((Reader.p r) + (100 : Int))) ∧
 (patBd x_35))))))))))))))))) ∧
 ((x_31 = false) →
 (∃ (x_37 : (List Patch)), (∃ (x_38 : Int), (((@Eq (List Patch) x_5 x_37) ∧
 ((@Eq (List Int) (Reader.b r) (Reader.b r)) ∧
 ((x_32 = x_38) ∧
 True))) ∧
 (((Reader.p r) ≤ x_38) ∧
 ((x_38 ≤ ((Reader.p r) + (100 : Int))) ∧
 (patBd x_37)))))))))))))))))))))) := by kernel_rfl
theorem det_spec_l20Patches : C_spec_l20Patches.det = true → ∀ x, (C_spec_l20Patches.out x).Det := fun h => absurd h Bool.false_ne_true
set_option maxRecDepth 200000 in
set_option maxHeartbeats 1000000 in
theorem ok_spec_l20Patches : ConOK Try.prog 81 C_spec_l20Patches := by
  refine con_mk (wr := false) (ty := tyL [(3, .i), (5, .u), (4, .bool), (9, .str), (126, .int .u64), (45, .st .fixup), (24, .st .img), (91, .st .patch), (65, .st .hash), (63, .list .i), (61, .list .str), (22, .list .u), (41, .st .fixup), (33, .st .img), (72, .st .hash)]) (l := [(65, C_spec_l20Rd_pick), (84, C_spec_l20Bytes), (66, C_spec_l20Rd_odd)]) ⟨⟨ok_spec_l20Rd_pick, det_spec_l20Rd_pick⟩, ⟨⟨ok_spec_l20Bytes, det_spec_l20Bytes⟩, ⟨⟨ok_spec_l20Rd_odd, det_spec_l20Rd_odd⟩, trivial⟩⟩⟩ Try.checked.mixed (fn := Try.f81) (body := Try.f81.body.getD .skip) Try.func81 rfl (by decide) (by kernel_rfl) rfl an_spec_l20Patches fun x ho hx => ?_
  obtain ⟨r, m, n, ⟨⟩⟩ := x
  refine Keeps.of (vc_spec_l20Patches r m n) ?_
  revert r m n ho hx
  show ∀ (r : Reader) (m : Img) (n : Int), _
  intro r m n ho hx
  dsimp only [C_spec_l20Patches, okPTL, okPT, Ok, Ty.cells, SN.cells, OkL, OkC, okI, ci, cb, cs, cl] at ho
  dsimp only [C_spec_l20Patches, vc, v1, decB, SR.pre] at hx
  have hb := pickF_bd r.b
  simp only [decide_eq_true_eq, decide_eq_false_iff_not, Bool.not_eq_true', Bool.not_eq_false', and_true, true_and, and_assoc, Int.toNat_natCast, exists_eq_left', exists_eq_left, exists_and_left, Int.not_lt, Int.not_le, Bool.false_eq_true, false_implies, implies_true, forall_const, List.length_append, List.length_cons, List.length_nil, Int.sub_add_cancel, Int.add_sub_cancel, and_imp, ex_img, ex_mem, ex_fix, ex_pat, forall_eq', forall_eq]; (repeat' first | apply And.intro | (intro x hq _; replace hq := List.mem_of_getElem? hq; simp only [List.mem_cons, List.not_mem_nil, or_false] at hq) | intro _); all_goals (try omega)
  all_goals have hm : -8 ≤ m.base ∧ m.base ≤ 4104 ∧ m.bytes.length ≤ 2001 := (by have := imgBd_iff.1 hx.1.2.2.2; exact ⟨this.1, this.2.1, this.2.2.1⟩)
  all_goals first
    | exact patA_nil
    | exact patA_app (by assumption) (by assumption)
    | exact patA_app (by assumption) (pat_pick hq (by assumption) (by omega) (by omega) (by omega))
    | (simp only [List.length_append, List.length_cons, List.length_nil]; omega)
    | exact byB_app (by assumption) (by omega) (by omega)
    | ((try dsimp only); clear ho hx; grind)
end Go.Proofs.Ytdghhckdjbpfbaa
