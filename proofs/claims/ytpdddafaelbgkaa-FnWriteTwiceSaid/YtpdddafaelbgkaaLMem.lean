/- The laws on memories that are read. -/
import Derived.Test.YtpdddafaelbgkaaDrawI
import Derived.Test.YtpdddafaelbgkaaMemD
import Derived.Test.YtpdddafaelbgkaaSame
import Derived.Test.YtpdddafaelbgkaaHead
set_option linter.unusedVariables false
set_option linter.unusedSimpArgs false
namespace Go.Proofs.Ytpdddafaelbgkaa
open Go Go.RowKit Go.ChangeShapes Go.WideShapes Go.Deep


theorem read_ge {m : Memo} {a : Int} (h : memBd m) : -1 ≤ memRead m a := by
  unfold memRead
  split
  · exact imgByte_ge _ _ fun x hx => (byB_mem (imgBd_iff.1 (memBd_iff.1 h).1).2.2.2 hx).1
  · omega
theorem read_neg {m : Memo} {a : Int} (h : memBd m) (h' : memRead m a < 0) : memRead m a = -1 := by have := read_ge (a := a) h; omega
theorem mem_lens {m : Memo} (h : memBd m) : m.what.bytes.length ≤ 1048576 ∧ m.regions.length ≤ 1048576 ∧ -8 ≤ m.what.base ∧ m.what.base ≤ 4104 ∧ m.what.bytes.length ≤ 2001 := by
  obtain ⟨h0, h4⟩ := memBd_iff.1 h
  obtain ⟨h1, h2, h3, _⟩ := imgBd_iff.1 h0
  omega
theorem anyW_nil {a : Int} : anyW a [] = false := rfl
theorem anyW_cons {a : Int} {r : Region} {l : List Region} : anyW a (r :: l) = (r.write && inReg a r || anyW a l) := rfl
def rdS2 (s : SN) (x : s.den) (n v : Int) : SR := .ret { val := .tup [(true, (encO 100 (s.cells x)).1), (false, [.c (ci n)]), (false, [.c (ci v)])], ins := (encO 100 (s.cells x)).2.1 }
def C_spec_DrawMemoryValid : Con := { ps := [.ro (.list .u)], out := fun x => let c : List (Int) := x.1; .all Memo fun m => .giv (memBd m) (newS .mem m), det := false }
def G_spec_DrawMemoryValid : Cfg := mkG (tyL [(3, .i), (5, .u), (4, .bool), (9, .str), (163, .int .u64), (71, .st .fixup), (24, .st .img), (39, .st .region), (35, .st .mem), (30, .st .patch), (94, .st .hash), (92, .list .i), (90, .list .str), (22, .list .u), (67, .st .fixup), (52, .st .img), (149, .st .region), (55, .st .mem), (101, .st .hash)]) [(94, C_spec_l20Open), (101, C_spec_l20Memory)] false
def an_spec_DrawMemoryValid : PTL C_spec_DrawMemoryValid.ps → Nat → Option Ann := fun _ _ => none
set_option maxRecDepth 200000 in
theorem vc_spec_DrawMemoryValid (c : List (Int)) : (keeps Try.prog G_spec_DrawMemoryValid (an_spec_DrawMemoryValid (c, ())) (Try.f28.body.getD .skip) Try.f28.results.toList C_spec_DrawMemoryValid (c, ())) = (((((0 : Int) ≤ (0 : Int)) ∧
 (((0 : Int) ≤ (100000000 : Int)) ∧
 ((2 : Int) ≤ (1000000 : Int)))) ∧
 (∀ (x_1 : Go.Proofs.Ytpdddafaelbgkaa.Memo), (∀ (x_2 : Int), ((((0 : Int) ≤ x_2) ∧
 ((x_2 ≤ ((0 : Int) + (200 : Int))) ∧
 (Go.Proofs.Ytpdddafaelbgkaa.memBd x_1))) →
 (∃ (x_3 : Go.Proofs.Ytpdddafaelbgkaa.Memo), ((((Go.Proofs.Ytpdddafaelbgkaa.Img.base (Go.Proofs.Ytpdddafaelbgkaa.Memo.what x_1)) = (Go.Proofs.Ytpdddafaelbgkaa.Img.base (Go.Proofs.Ytpdddafaelbgkaa.Memo.what x_3))) ∧
 ((@Eq (List Int) (Go.Proofs.Ytpdddafaelbgkaa.Img.bytes (Go.Proofs.Ytpdddafaelbgkaa.Memo.what x_1)) (Go.Proofs.Ytpdddafaelbgkaa.Img.bytes (Go.Proofs.Ytpdddafaelbgkaa.Memo.what x_3))) ∧
 ((@Eq (List Go.Proofs.Ytpdddafaelbgkaa.Region) (Go.Proofs.Ytpdddafaelbgkaa.Memo.regions x_1) (Go.Proofs.Ytpdddafaelbgkaa.Memo.regions x_3)) ∧
 True))) ∧
 (Go.Proofs.Ytpdddafaelbgkaa.memBd x_3)))))))) := by kernel_rfl
theorem det_spec_DrawMemoryValid : C_spec_DrawMemoryValid.det = true → ∀ x, (C_spec_DrawMemoryValid.out x).Det := fun h => absurd h Bool.false_ne_true
set_option maxRecDepth 200000 in
set_option maxHeartbeats 1000000 in
theorem ok_spec_DrawMemoryValid : ConOK Try.prog 28 C_spec_DrawMemoryValid := by
  refine con_mk (wr := false) (ty := tyL [(3, .i), (5, .u), (4, .bool), (9, .str), (163, .int .u64), (71, .st .fixup), (24, .st .img), (39, .st .region), (35, .st .mem), (30, .st .patch), (94, .st .hash), (92, .list .i), (90, .list .str), (22, .list .u), (67, .st .fixup), (52, .st .img), (149, .st .region), (55, .st .mem), (101, .st .hash)]) (l := [(94, C_spec_l20Open), (101, C_spec_l20Memory)]) ⟨⟨ok_spec_l20Open, det_spec_l20Open⟩, ⟨⟨ok_spec_l20Memory, det_spec_l20Memory⟩, trivial⟩⟩ Try.checked.mixed (fn := Try.f28) (body := Try.f28.body.getD .skip) Try.func28 rfl (by decide) (by kernel_rfl) rfl an_spec_DrawMemoryValid fun x ho hx => ?_
  obtain ⟨c, ⟨⟩⟩ := x
  refine Keeps.of (vc_spec_DrawMemoryValid c) ?_
  revert c ho hx
  show ∀ (c : List (Int)), _
  intro c ho hx
  dsimp only [C_spec_DrawMemoryValid, okPTL, okPT, Ok, Ty.cells, SN.cells, OkL, OkC, okI, ci, cb, cs, cl] at ho
  dsimp only [C_spec_DrawMemoryValid, vc, v1, decB, SR.pre] at hx
  simp only [decide_eq_true_eq, decide_eq_false_iff_not, Bool.not_eq_true', Bool.not_eq_false', and_true, true_and, and_assoc, Int.toNat_natCast, exists_eq_left', exists_eq_left, exists_and_left, Int.not_lt, Int.not_le, Bool.false_eq_true, false_implies, implies_true, forall_const, List.length_append, List.length_cons, List.length_nil, Int.sub_add_cancel, Int.add_sub_cancel, and_imp, ex_img, ex_mem, ex_fix, ex_pat, forall_eq', forall_eq]; (repeat' first | apply And.intro | (intro x hq _; replace hq := List.mem_of_getElem? hq; simp only [List.mem_cons, List.not_mem_nil, or_false] at hq) | intro _); all_goals (try omega)
  all_goals first | assumption | grind [→ mem_lens]
def C_spec_DrawMemoryRead : Con := { ps := [.ro (.list .u)], out := fun x => let c : List (Int) := x.1; .all Memo fun m => .all Int fun a => .giv (memBd m ∧ -100 ≤ a ∧ a ≤ 5000) (newSI .mem m a), det := false }
def G_spec_DrawMemoryRead : Cfg := mkG (tyL [(3, .i), (5, .u), (4, .bool), (9, .str), (163, .int .u64), (71, .st .fixup), (24, .st .img), (39, .st .region), (35, .st .mem), (30, .st .patch), (94, .st .hash), (92, .list .i), (90, .list .str), (22, .list .u), (67, .st .fixup), (52, .st .img), (149, .st .region), (55, .st .mem), (101, .st .hash)]) [(94, C_spec_l20Open), (101, C_spec_l20Memory), (102, C_spec_l20Rd_pick)] false
def an_spec_DrawMemoryRead : PTL C_spec_DrawMemoryRead.ps → Nat → Option Ann := fun _ _ => none
set_option maxRecDepth 200000 in
theorem vc_spec_DrawMemoryRead (c : List (Int)) : (keeps Try.prog G_spec_DrawMemoryRead (an_spec_DrawMemoryRead (c, ())) (Try.f58.body.getD .skip) Try.f58.results.toList C_spec_DrawMemoryRead (c, ())) = (((((0 : Int) ≤ (0 : Int)) ∧
 (((0 : Int) ≤ (100000000 : Int)) ∧
 ((9 : Int) ≤ (1000000 : Int)))) ∧
 (∀ (x_1 : Go.Proofs.Ytpdddafaelbgkaa.Memo), (∀ (x_2 : Int), ((((0 : Int) ≤ x_2) ∧
 ((x_2 ≤ ((0 : Int) + (200 : Int))) ∧
 (Go.Proofs.Ytpdddafaelbgkaa.memBd x_1))) →
 ((((0 : Int) ≤ x_2) ∧
 (x_2 ≤ (1000000000000 : Int))) ∧
 ((((- (9223372036854775808 : Int)) ≤ ((Go.Proofs.Ytpdddafaelbgkaa.Img.base (Go.Proofs.Ytpdddafaelbgkaa.Memo.what x_1)) + (Go.Proofs.Ytpdddafaelbgkaa.pickF (List.take (2000 : Nat) c) x_2 (20 : Int)))) ∧
 (((Go.Proofs.Ytpdddafaelbgkaa.Img.base (Go.Proofs.Ytpdddafaelbgkaa.Memo.what x_1)) + (Go.Proofs.Ytpdddafaelbgkaa.pickF (List.take (2000 : Nat) c) x_2 (20 : Int))) ≤ (9223372036854775807 : Int))) ∧
 ((((- (9223372036854775808 : Int)) ≤ (((Go.Proofs.Ytpdddafaelbgkaa.Img.base (Go.Proofs.Ytpdddafaelbgkaa.Memo.what x_1)) + (Go.Proofs.Ytpdddafaelbgkaa.pickF (List.take (2000 : Nat) c) x_2 (20 : Int))) - (1 : Int))) ∧
 ((((Go.Proofs.Ytpdddafaelbgkaa.Img.base (Go.Proofs.Ytpdddafaelbgkaa.Memo.what x_1)) + (Go.Proofs.Ytpdddafaelbgkaa.pickF (List.take (2000 : Nat) c) x_2 (20 : Int))) - (1 : Int)) ≤ (9223372036854775807 : Int))) ∧
 (∃ (x_3 : Go.Proofs.Ytpdddafaelbgkaa.Memo), (∃ (x_4 : Int), ((((Go.Proofs.Ytpdddafaelbgkaa.Img.base (Go.Proofs.Ytpdddafaelbgkaa.Memo.what x_1)) = (Go.Proofs.Ytpdddafaelbgkaa.Img.base (Go.Proofs.Ytpdddafaelbgkaa.Memo.what x_3))) ∧
 (((((Go.Proofs.Ytpdddafaelbgkaa.Img.base (Go.Proofs.Ytpdddafaelbgkaa.Memo.what x_1)) + (Go.Proofs.Ytpdddafaelbgkaa.pickF (List.take (2000 : Nat) c) x_2 (20 : Int))) - (1 : Int)) = x_4) ∧
 ((@Eq (List Int) (Go.Proofs.Ytpdddafaelbgkaa.Img.bytes (Go.Proofs.Ytpdddafaelbgkaa.Memo.what x_1)) (Go.Proofs.Ytpdddafaelbgkaa.Img.bytes (Go.Proofs.Ytpdddafaelbgkaa.Memo.what x_3))) ∧
 ((@Eq (List Go.Proofs.Ytpdddafaelbgkaa.Region) (Go.Proofs.Ytpdddafaelbgkaa.Memo.regions x_1) (Go.Proofs.Ytpdddafaelbgkaa.Memo.regions x_3)) ∧
 True)))) ∧
 ((Go.Proofs.Ytpdddafaelbgkaa.memBd x_3) ∧
 (((- (100 : Int)) ≤ x_4) ∧
 (x_4 ≤ (5000 : Int))))))))))))))) := by kernel_rfl
theorem det_spec_DrawMemoryRead : C_spec_DrawMemoryRead.det = true → ∀ x, (C_spec_DrawMemoryRead.out x).Det := fun h => absurd h Bool.false_ne_true
set_option maxRecDepth 200000 in
set_option maxHeartbeats 1000000 in
theorem ok_spec_DrawMemoryRead : ConOK Try.prog 58 C_spec_DrawMemoryRead := by
  refine con_mk (wr := false) (ty := tyL [(3, .i), (5, .u), (4, .bool), (9, .str), (163, .int .u64), (71, .st .fixup), (24, .st .img), (39, .st .region), (35, .st .mem), (30, .st .patch), (94, .st .hash), (92, .list .i), (90, .list .str), (22, .list .u), (67, .st .fixup), (52, .st .img), (149, .st .region), (55, .st .mem), (101, .st .hash)]) (l := [(94, C_spec_l20Open), (101, C_spec_l20Memory), (102, C_spec_l20Rd_pick)]) ⟨⟨ok_spec_l20Open, det_spec_l20Open⟩, ⟨⟨ok_spec_l20Memory, det_spec_l20Memory⟩, ⟨⟨ok_spec_l20Rd_pick, det_spec_l20Rd_pick⟩, trivial⟩⟩⟩ Try.checked.mixed (fn := Try.f58) (body := Try.f58.body.getD .skip) Try.func58 rfl (by decide) (by kernel_rfl) rfl an_spec_DrawMemoryRead fun x ho hx => ?_
  obtain ⟨c, ⟨⟩⟩ := x
  refine Keeps.of (vc_spec_DrawMemoryRead c) ?_
  revert c ho hx
  show ∀ (c : List (Int)), _
  intro c ho hx
  dsimp only [C_spec_DrawMemoryRead, okPTL, okPT, Ok, Ty.cells, SN.cells, OkL, OkC, okI, ci, cb, cs, cl] at ho
  dsimp only [C_spec_DrawMemoryRead, vc, v1, decB, SR.pre] at hx
  have hb := pickF_bd (List.take 2000 c)
  simp only [decide_eq_true_eq, decide_eq_false_iff_not, Bool.not_eq_true', Bool.not_eq_false', and_true, true_and, and_assoc, Int.toNat_natCast, exists_eq_left', exists_eq_left, exists_and_left, Int.not_lt, Int.not_le, Bool.false_eq_true, false_implies, implies_true, forall_const, List.length_append, List.length_cons, List.length_nil, Int.sub_add_cancel, Int.add_sub_cancel, and_imp, ex_img, ex_mem, ex_fix, ex_pat, forall_eq', forall_eq]; (repeat' first | apply And.intro | (intro x hq _; replace hq := List.mem_of_getElem? hq; simp only [List.mem_cons, List.not_mem_nil, or_false] at hq) | intro _); all_goals (try omega)
  all_goals first | assumption | grind [→ mem_lens]
def C_spec_DrawMemoryWrite : Con := { ps := [.ro (.list .u)], out := fun x => let c : List (Int) := x.1; .all Memo fun m => .all Int fun a => .all Int fun v => .giv (memBd m ∧ -100 ≤ a ∧ a ≤ 5000 ∧ -1 ≤ v ∧ v ≤ 256) (rdS2 .mem m a v), det := false }
def G_spec_DrawMemoryWrite : Cfg := mkG (tyL [(3, .i), (5, .u), (4, .bool), (9, .str), (163, .int .u64), (71, .st .fixup), (24, .st .img), (39, .st .region), (35, .st .mem), (30, .st .patch), (94, .st .hash), (92, .list .i), (90, .list .str), (22, .list .u), (67, .st .fixup), (52, .st .img), (149, .st .region), (55, .st .mem), (101, .st .hash)]) [(94, C_spec_l20Open), (101, C_spec_l20Memory), (102, C_spec_l20Rd_pick)] false
def an_spec_DrawMemoryWrite : PTL C_spec_DrawMemoryWrite.ps → Nat → Option Ann := fun _ _ => none
set_option maxRecDepth 200000 in
theorem vc_spec_DrawMemoryWrite (c : List (Int)) : (keeps Try.prog G_spec_DrawMemoryWrite (an_spec_DrawMemoryWrite (c, ())) (Try.f69.body.getD .skip) Try.f69.results.toList C_spec_DrawMemoryWrite (c, ())) = (((((0 : Int) ≤ (0 : Int)) ∧
 (((0 : Int) ≤ (100000000 : Int)) ∧
 ((9 : Int) ≤ (1000000 : Int)))) ∧
 (∀ (x_1 : Go.Proofs.Ytpdddafaelbgkaa.Memo), (∀ (x_2 : Int), ((((0 : Int) ≤ x_2) ∧
 ((x_2 ≤ ((0 : Int) + (200 : Int))) ∧
 (Go.Proofs.Ytpdddafaelbgkaa.memBd x_1))) →
 ((((0 : Int) ≤ x_2) ∧
 (x_2 ≤ (1000000000000 : Int))) ∧
 ((((- (9223372036854775808 : Int)) ≤ ((Go.Proofs.Ytpdddafaelbgkaa.Img.base (Go.Proofs.Ytpdddafaelbgkaa.Memo.what x_1)) + (Go.Proofs.Ytpdddafaelbgkaa.pickF (List.take (2000 : Nat) c) x_2 (20 : Int)))) ∧
 (((Go.Proofs.Ytpdddafaelbgkaa.Img.base (Go.Proofs.Ytpdddafaelbgkaa.Memo.what x_1)) + (Go.Proofs.Ytpdddafaelbgkaa.pickF (List.take (2000 : Nat) c) x_2 (20 : Int))) ≤ (9223372036854775807 : Int))) ∧
 ((((- (9223372036854775808 : Int)) ≤ (((Go.Proofs.Ytpdddafaelbgkaa.Img.base (Go.Proofs.Ytpdddafaelbgkaa.Memo.what x_1)) + (Go.Proofs.Ytpdddafaelbgkaa.pickF (List.take (2000 : Nat) c) x_2 (20 : Int))) - (1 : Int))) ∧
 ((((Go.Proofs.Ytpdddafaelbgkaa.Img.base (Go.Proofs.Ytpdddafaelbgkaa.Memo.what x_1)) + (Go.Proofs.Ytpdddafaelbgkaa.pickF (List.take (2000 : Nat) c) x_2 (20 : Int))) - (1 : Int)) ≤ (9223372036854775807 : Int))) ∧
 ((((0 : Int) ≤ (x_2 + (1 : Int))) ∧
 ((x_2 + (1 : Int)) ≤ (1000000000000 : Int))) ∧
 ((((0 : Int) ≤ ((x_2 + (1 : Int)) + (1 : Int))) ∧
 (((x_2 + (1 : Int)) + (1 : Int)) ≤ (1000000000000 : Int))) ∧
 ((((0 : Int) ≤ (Go.Proofs.Ytpdddafaelbgkaa.pickF (List.take (2000 : Nat) c) ((x_2 + (1 : Int)) + (1 : Int)) (6 : Int))) ∧
 ((Go.Proofs.Ytpdddafaelbgkaa.pickF (List.take (2000 : Nat) c) ((x_2 + (1 : Int)) + (1 : Int)) (6 : Int)) < (@Nat.cast Int _ (6 : Nat)))) ∧
 (∀ (x_3 : Int), ((@Eq (Option Int) ([(0 : Int), (0 : Int), (0 : Int), (0 : Int), (1 : Int), (2 : Int)])[(Int.toNat (Go.Proofs.Ytpdddafaelbgkaa.pickF (List.take (2000 : Nat) c) ((x_2 + (1 : Int)) + (1 : Int)) (6 : Int)))]? (some x_3)) →
 ((Go.Proofs.Ytpdddafaelbgkaa.Ok (Go.Proofs.Ytpdddafaelbgkaa.Ty.int Go.IntKind.i64) x_3) →
 ((((0 : Int) ≤ x_3) ∧
 (x_3 < (@Nat.cast Int _ (List.length [(Go.Proofs.Ytpdddafaelbgkaa.pickF (List.take (2000 : Nat) c) (x_2 + (1 : Int)) (256 : Int)), (- (1 : Int)), (256 : Int)])))) ∧
 (∀ (x_4 : Int), ((@Eq (Option Int) ([(Go.Proofs.Ytpdddafaelbgkaa.pickF (List.take (2000 : Nat) c) (x_2 + (1 : Int)) (256 : Int)), (- (1 : Int)), (256 : Int)])[(Int.toNat x_3)]? (some x_4)) →
 ((Go.Proofs.Ytpdddafaelbgkaa.Ok (Go.Proofs.Ytpdddafaelbgkaa.Ty.int Go.IntKind.i64) x_4) →
 (∃ (x_5 : Go.Proofs.Ytpdddafaelbgkaa.Memo), (∃ (x_6 : Int), (∃ (x_7 : Int), ((((Go.Proofs.Ytpdddafaelbgkaa.Img.base (Go.Proofs.Ytpdddafaelbgkaa.Memo.what x_1)) = (Go.Proofs.Ytpdddafaelbgkaa.Img.base (Go.Proofs.Ytpdddafaelbgkaa.Memo.what x_5))) ∧
 (((((Go.Proofs.Ytpdddafaelbgkaa.Img.base (Go.Proofs.Ytpdddafaelbgkaa.Memo.what x_1)) + (Go.Proofs.Ytpdddafaelbgkaa.pickF (List.take (2000 : Nat) c) x_2 (20 : Int))) - (1 : Int)) = x_6) ∧
 ((x_4 = x_7) ∧
 ((@Eq (List Int) (Go.Proofs.Ytpdddafaelbgkaa.Img.bytes (Go.Proofs.Ytpdddafaelbgkaa.Memo.what x_1)) (Go.Proofs.Ytpdddafaelbgkaa.Img.bytes (Go.Proofs.Ytpdddafaelbgkaa.Memo.what x_5))) ∧
 ((@Eq (List Go.Proofs.Ytpdddafaelbgkaa.Region) (Go.Proofs.Ytpdddafaelbgkaa.Memo.regions x_1) (Go.Proofs.Ytpdddafaelbgkaa.Memo.regions x_5)) ∧
 True))))) ∧
 ((Go.Proofs.Ytpdddafaelbgkaa.memBd x_5) ∧
 (((- (100 : Int)) ≤ x_6) ∧
 ((x_6 ≤ (5000 : Int)) ∧
 (((- (1 : Int)) ≤ x_7) ∧
 (x_7 ≤ (256 : Int)))))))))))))))))))))))))))) := by kernel_rfl
theorem det_spec_DrawMemoryWrite : C_spec_DrawMemoryWrite.det = true → ∀ x, (C_spec_DrawMemoryWrite.out x).Det := fun h => absurd h Bool.false_ne_true
set_option maxRecDepth 200000 in
set_option maxHeartbeats 1000000 in
theorem ok_spec_DrawMemoryWrite : ConOK Try.prog 69 C_spec_DrawMemoryWrite := by
  refine con_mk (wr := false) (ty := tyL [(3, .i), (5, .u), (4, .bool), (9, .str), (163, .int .u64), (71, .st .fixup), (24, .st .img), (39, .st .region), (35, .st .mem), (30, .st .patch), (94, .st .hash), (92, .list .i), (90, .list .str), (22, .list .u), (67, .st .fixup), (52, .st .img), (149, .st .region), (55, .st .mem), (101, .st .hash)]) (l := [(94, C_spec_l20Open), (101, C_spec_l20Memory), (102, C_spec_l20Rd_pick)]) ⟨⟨ok_spec_l20Open, det_spec_l20Open⟩, ⟨⟨ok_spec_l20Memory, det_spec_l20Memory⟩, ⟨⟨ok_spec_l20Rd_pick, det_spec_l20Rd_pick⟩, trivial⟩⟩⟩ Try.checked.mixed (fn := Try.f69) (body := Try.f69.body.getD .skip) Try.func69 rfl (by decide) (by kernel_rfl) rfl an_spec_DrawMemoryWrite fun x ho hx => ?_
  obtain ⟨c, ⟨⟩⟩ := x
  refine Keeps.of (vc_spec_DrawMemoryWrite c) ?_
  revert c ho hx
  show ∀ (c : List (Int)), _
  intro c ho hx
  dsimp only [C_spec_DrawMemoryWrite, okPTL, okPT, Ok, Ty.cells, SN.cells, OkL, OkC, okI, ci, cb, cs, cl] at ho
  dsimp only [C_spec_DrawMemoryWrite, vc, v1, decB, SR.pre] at hx
  have hb := pickF_bd (List.take 2000 c)
  simp only [decide_eq_true_eq, decide_eq_false_iff_not, Bool.not_eq_true', Bool.not_eq_false', and_true, true_and, and_assoc, Int.toNat_natCast, exists_eq_left', exists_eq_left, exists_and_left, Int.not_lt, Int.not_le, Bool.false_eq_true, false_implies, implies_true, forall_const, List.length_append, List.length_cons, List.length_nil, Int.sub_add_cancel, Int.add_sub_cancel, and_imp, ex_img, ex_mem, ex_fix, ex_pat, forall_eq', forall_eq]; (repeat' first | apply And.intro | (intro x hq _; replace hq := List.mem_of_getElem? hq; simp only [List.mem_cons, List.not_mem_nil, or_false] at hq) | intro _); all_goals (try omega)
  all_goals first | assumption | grind [→ mem_lens]
def C_laws_FnMemoryValid : Con := { ps := [.ro (.list .u)], out := fun x => let c : List (Int) := x.1; vc .bool true, det := true }
def G_laws_FnMemoryValid : Cfg := mkG (tyL [(3, .i), (5, .u), (4, .bool), (9, .str), (163, .int .u64), (71, .st .fixup), (24, .st .img), (39, .st .region), (35, .st .mem), (30, .st .patch), (94, .st .hash), (92, .list .i), (90, .list .str), (22, .list .u), (67, .st .fixup), (52, .st .img), (149, .st .region), (55, .st .mem), (101, .st .hash)]) [(28, C_spec_DrawMemoryValid), (29, C_impl_MemoryValid), (30, C_spec_MemoryValid), (27, C_laws_alive)] false
def an_laws_FnMemoryValid : PTL C_laws_FnMemoryValid.ps → Nat → Option Ann := fun _ _ => none
set_option maxRecDepth 200000 in
theorem vc_laws_FnMemoryValid (c : List (Int)) : (keeps Try.prog G_laws_FnMemoryValid (an_laws_FnMemoryValid (c, ())) (Try.f4.body.getD .skip) Try.f4.results.toList C_laws_FnMemoryValid (c, ())) = ((((List.length c) ≤ (9223372036854775807 : Nat)) →
 ((((decide ((1048576 : Int) < (@Nat.cast Int _ (List.length c)))) = true) →
 ((true = true) ∧
 True)) ∧
 (((decide ((1048576 : Int) < (@Nat.cast Int _ (List.length c)))) = false) →
 (∀ (x_1 : Go.Proofs.Ytpdddafaelbgkaa.Memo), ((Go.Proofs.Ytpdddafaelbgkaa.memBd x_1) →
 ((((decide ((Go.Proofs.Ytpdddafaelbgkaa.memB x_1) ≠ (Go.Proofs.Ytpdddafaelbgkaa.memB x_1))) = true) →
 ((false = true) ∧
 True)) ∧
 (((decide ((Go.Proofs.Ytpdddafaelbgkaa.memB x_1) ≠ (Go.Proofs.Ytpdddafaelbgkaa.memB x_1))) = false) →
 ((((Bool.not (Go.Proofs.Ytpdddafaelbgkaa.memB (Go.Proofs.Ytpdddafaelbgkaa.Memo.mk (Go.Proofs.Ytpdddafaelbgkaa.Memo.what x_1) [(Go.Proofs.Ytpdddafaelbgkaa.Region.mk (8 : Int) (8 : Int) false false)]))) = true) →
 ((((Bool.not (Go.Proofs.Ytpdddafaelbgkaa.memB x_1)) = true) →
 ((true = true) ∧
 True)) ∧
 (((Bool.not (Go.Proofs.Ytpdddafaelbgkaa.memB x_1)) = false) →
 ((((Go.Proofs.Ytpdddafaelbgkaa.memB (Go.Proofs.Ytpdddafaelbgkaa.Memo.mk (Go.Proofs.Ytpdddafaelbgkaa.Memo.what x_1) ([] : List Go.Proofs.Ytpdddafaelbgkaa.Region))) = true) →
 ((true = true) ∧
 True)) ∧
 (((Go.Proofs.Ytpdddafaelbgkaa.memB (Go.Proofs.Ytpdddafaelbgkaa.Memo.mk (Go.Proofs.Ytpdddafaelbgkaa.Memo.what x_1) ([] : List Go.Proofs.Ytpdddafaelbgkaa.Region))) = false) →
 ((false = true) ∧
 True)))))) ∧
 (((Bool.not (Go.Proofs.Ytpdddafaelbgkaa.memB (Go.Proofs.Ytpdddafaelbgkaa.Memo.mk (Go.Proofs.Ytpdddafaelbgkaa.Memo.what x_1) [(Go.Proofs.Ytpdddafaelbgkaa.Region.mk (8 : Int) (8 : Int) false false)]))) = false) →
 ((false = true) ∧
 True))))))))))) := by kernel_rfl
theorem det_laws_FnMemoryValid : C_laws_FnMemoryValid.det = true → ∀ x, (C_laws_FnMemoryValid.out x).Det := fun _ x => by simp only [C_laws_FnMemoryValid]; repeat (first | exact Det.ret _ | exact Det.vc' | apply Det.req | apply Det.giv | apply Det.fork | apply Det.bif' | intro _)
set_option maxRecDepth 200000 in
set_option maxHeartbeats 1000000 in
theorem ok_laws_FnMemoryValid : ConOK Try.prog 4 C_laws_FnMemoryValid := by
  refine con_mk (wr := false) (ty := tyL [(3, .i), (5, .u), (4, .bool), (9, .str), (163, .int .u64), (71, .st .fixup), (24, .st .img), (39, .st .region), (35, .st .mem), (30, .st .patch), (94, .st .hash), (92, .list .i), (90, .list .str), (22, .list .u), (67, .st .fixup), (52, .st .img), (149, .st .region), (55, .st .mem), (101, .st .hash)]) (l := [(28, C_spec_DrawMemoryValid), (29, C_impl_MemoryValid), (30, C_spec_MemoryValid), (27, C_laws_alive)]) ⟨⟨ok_spec_DrawMemoryValid, det_spec_DrawMemoryValid⟩, ⟨⟨ok_impl_MemoryValid, det_impl_MemoryValid⟩, ⟨⟨ok_spec_MemoryValid, det_spec_MemoryValid⟩, ⟨⟨ok_laws_alive, det_laws_alive⟩, trivial⟩⟩⟩⟩ Try.checked.mixed (fn := Try.f4) (body := Try.f4.body.getD .skip) Try.func4 rfl (by decide) (by kernel_rfl) rfl an_laws_FnMemoryValid fun x ho hx => ?_
  obtain ⟨c, ⟨⟩⟩ := x
  refine Keeps.of (vc_laws_FnMemoryValid c) ?_
  revert c ho hx
  show ∀ (c : List (Int)), _
  intro c ho hx
  dsimp only [C_laws_FnMemoryValid, okPTL, okPT, Ok, Ty.cells, SN.cells, OkL, OkC, okI, ci, cb, cs, cl] at ho
  dsimp only [C_laws_FnMemoryValid, vc, v1, decB, SR.pre] at hx
  simp only [decide_eq_true_eq, decide_eq_false_iff_not, Bool.not_eq_true', Bool.not_eq_false', and_true, true_and, Int.toNat_natCast, exists_eq_left', exists_eq_left, exists_and_left, Int.not_lt, Int.not_le, Bool.false_eq_true, false_implies, implies_true, forall_const, List.length_append, List.length_cons, List.length_nil, Int.sub_add_cancel, Int.add_sub_cancel, and_imp, get_set_iff, forall_eq', forall_eq, List.set_set, mkd_get, mkd_len, List.length_set, Option.some.injEq]; (repeat' first | intro _ | apply And.intro); all_goals (try omega); all_goals grind [memB, regsB]

theorem rd_u : Reads Try.prog 5 [.u] := reads_u8 Try.underlying5
theorem rd_uL : Reads Try.prog 22 [(.list .u)] := reads_slice (t' := .u) Try.underlying22 (by kernel_rfl) (by decide) rd_u
set_option maxRecDepth 100000 in
theorem lifted_FnMemoryValid (os : Os) (started : os.Started) (H : Type) (enc : TypeId × Value → H) :
    ReturnsInHanded {} Try.checked os 4 .any (Rows.fnMemoryValidSpec.pre6 enc Try.prog Try.f4 Rows.fnMemoryValidRow.domain false) (Rows.fnMemoryValidSpec.post enc Try.prog Try.f4 false true false false) := by
  refine returnsInHanded_of_change (C := Try.checked) head_own started (by kernel_rfl) Try.func4
    (ChangeSpec.witness6 (enc := enc) (C := Try.checked) false ⟨#[], #[.slice none 0 0], []⟩ 8 (by kernel_rfl) (by kernel_rfl) (by kernel_rfl) (by kernel_rfl)) ?_
  intro W base args ds gs before hval0 hW _ _
  have hval : ∀ (j : Nat) t v, Try.f4.params[j]? = some t → args[j]? = some v → Value.okWide Try.prog W .any base t v := hval0
  have hW' := hW
  obtain ⟨p, q, hA0, hV, rfl, hfz, hnd⟩ := hW
  have hA : DataW.TrodAll enc Try.prog W 0 (fun _ => true) true Try.f4.params.toList args.toList ds p := hA0
  rw [Try.params4] at hA hval
  obtain ⟨v0, vs0, d0, ds0, p0, q0, hargs, rfl, rfl, h0, r0⟩ := trodAll_cons hA
  obtain ⟨rfl, rfl, rfl⟩ := trodAll_nil r0
  obtain rfl : args = #[v0] := by cases args; simp_all
  obtain ⟨rfl, rfl⟩ := trodVars_none hV
  have k0 := h0
  obtain ⟨x0, g0⟩ := open_slice1 Try.underlying22 rd_uL (hval 0 22 v0 rfl rfl) h0
  clear hA0 hval0 hval
  refine (law_calls ok_laws_FnMemoryValid (x0, ()) rfl rfl (W := W) (vals := [v0]) ⟨g0, trivial⟩).mono fun e W' ⟨he, bel⟩ => ?_
  subst he
  exact ⟨_, rfl, _, _, _, [], _, [], hW', trodAll_mk1 (shut_bool Try.underlying4 _), (trodAll_cons_mk (Below.trod head_laid (by kernel_rfl) (of_decide_eq_true (by kernel_rfl)) k0 bel (trod_lt_ k0)) trodAll_mk0), rfl, bel.frame _, fun h => by cases h⟩

theorem over_FnMemoryValid : Rows.fnMemoryValidRow.holds Try.pinned (OpenSpec.ofChange Rows.fnMemoryValidSpec) :=
  OpenClaim.holds_of_wide 4 Try.f4 rfl rfl rfl rfl rfl rfl rfl ⟨rfl, rfl, rfl, rfl, rfl⟩ rfl rfl rfl rfl rfl (by kernel_rfl) Try.func4 (joined_of head_laid head_rowed head_stops head_stopk head_heard head_enter (show (Rows.fnMemoryValidRow.lifted == Try.prog.liftsFinal) = true by rw [head_final]; rfl) (show (Try.prog.make == some Rows.fnMemoryValidRow.make) = true by rw [head_make]; rfl) (by kernel_rfl))
    (of_decide_eq_true (by kernel_rfl)) (by unfold Func.isWrapper; first | (rw [if_pos (by decide +kernel)]; kernel_rfl) | (rw [if_neg (by decide +kernel)]; exact ⟨rfl, rfl⟩))
    (fun os started H enc _ => lifted_FnMemoryValid os started H enc)

theorem proved_FnMemoryValid : Rows.FnMemoryValidSaid := over_FnMemoryValid
#print axioms proved_FnMemoryValid

def C_laws_FnMemoryRead : Con := { ps := [.ro (.list .u)], out := fun x => let c : List (Int) := x.1; vc .bool true, det := true }
def G_laws_FnMemoryRead : Cfg := mkG (tyL [(3, .i), (5, .u), (4, .bool), (9, .str), (163, .int .u64), (71, .st .fixup), (24, .st .img), (39, .st .region), (35, .st .mem), (30, .st .patch), (94, .st .hash), (92, .list .i), (90, .list .str), (22, .list .u), (67, .st .fixup), (52, .st .img), (149, .st .region), (55, .st .mem), (101, .st .hash)]) [(58, C_spec_DrawMemoryRead), (59, C_impl_MemoryRead), (60, C_spec_MemoryRead), (27, C_laws_alive), (61, C_impl_ImageByte)] false
def an_laws_FnMemoryRead : PTL C_laws_FnMemoryRead.ps → Nat → Option Ann := fun x kk_ => let c : List (Int) := x.1; if kk_ = 11 then some (.all (Memo) fun m => .all (Int) fun a => .all (Int) fun i => .all (Bool) fun b => .giv (memBd m ∧ 0 ≤ memRead m a ∧ 0 ≤ i ∧ i ≤ m.regions.length ∧ (b = true ∨ (regOf a (m.regions.drop i.toNat)).isSome = true)) (.mk [(3, aref 30), (4, ai a), (5, ai (memRead m a)), (6, ab b), (7, ai i)] [(30, bx (ast .mem m))] ((m.regions.length - i.toNat)))) else none
set_option maxRecDepth 200000 in
theorem vc_laws_FnMemoryRead (c : List (Int)) : (keeps Try.prog G_laws_FnMemoryRead (an_laws_FnMemoryRead (c, ())) (Try.f10.body.getD .skip) Try.f10.results.toList C_laws_FnMemoryRead (c, ())) = ((((List.length c) ≤ (9223372036854775807 : Nat)) →
 ((((decide ((1048576 : Int) < (@Nat.cast Int _ (List.length c)))) = true) →
 ((true = true) ∧
 True)) ∧
 (((decide ((1048576 : Int) < (@Nat.cast Int _ (List.length c)))) = false) →
 (∀ (x_1 : Go.Proofs.Ytpdddafaelbgkaa.Memo), (∀ (x_2 : Int), (((Go.Proofs.Ytpdddafaelbgkaa.memBd x_1) ∧
 (((- (100 : Int)) ≤ x_2) ∧
 (x_2 ≤ (5000 : Int)))) →
 ((((decide ((Go.Proofs.Ytpdddafaelbgkaa.memRead x_1 x_2) ≠ (Go.Proofs.Ytpdddafaelbgkaa.memRead x_1 x_2))) = true) →
 ((false = true) ∧
 True)) ∧
 (((decide ((Go.Proofs.Ytpdddafaelbgkaa.memRead x_1 x_2) ≠ (Go.Proofs.Ytpdddafaelbgkaa.memRead x_1 x_2))) = false) →
 ((((decide ((Go.Proofs.Ytpdddafaelbgkaa.memRead x_1 x_2) < (0 : Int))) = true) →
 ((((decide ((Go.Proofs.Ytpdddafaelbgkaa.memRead x_1 x_2) = (- (1 : Int)))) = true) →
 ((true = true) ∧
 True)) ∧
 (((decide ((Go.Proofs.Ytpdddafaelbgkaa.memRead x_1 x_2) = (- (1 : Int)))) = false) →
 ((false = true) ∧
 True)))) ∧
 (((decide ((Go.Proofs.Ytpdddafaelbgkaa.memRead x_1 x_2) < (0 : Int))) = false) →
 ((∃ (x_3 : Go.Proofs.Ytpdddafaelbgkaa.Memo), (∃ (x_4 : Int), (∃ (x_5 : Int), (∃ (x_6 : Bool), ((x_2 = x_4) ∧
 (((Go.Proofs.Ytpdddafaelbgkaa.memRead x_1 x_2) = (Go.Proofs.Ytpdddafaelbgkaa.memRead x_3 x_4)) ∧
 ((false = x_6) ∧
 (((0 : Int) = x_5) ∧
 (((Go.Proofs.Ytpdddafaelbgkaa.Img.base (Go.Proofs.Ytpdddafaelbgkaa.Memo.what x_1)) = (Go.Proofs.Ytpdddafaelbgkaa.Img.base (Go.Proofs.Ytpdddafaelbgkaa.Memo.what x_3))) ∧
 ((@Eq (List Int) (Go.Proofs.Ytpdddafaelbgkaa.Img.bytes (Go.Proofs.Ytpdddafaelbgkaa.Memo.what x_1)) (Go.Proofs.Ytpdddafaelbgkaa.Img.bytes (Go.Proofs.Ytpdddafaelbgkaa.Memo.what x_3))) ∧
 ((@Eq (List Go.Proofs.Ytpdddafaelbgkaa.Region) (Go.Proofs.Ytpdddafaelbgkaa.Memo.regions x_1) (Go.Proofs.Ytpdddafaelbgkaa.Memo.regions x_3)) ∧
 (((Go.Proofs.Ytpdddafaelbgkaa.memBd x_3) ∧
 (((0 : Int) ≤ (Go.Proofs.Ytpdddafaelbgkaa.memRead x_3 x_4)) ∧
 (((0 : Int) ≤ x_5) ∧
 ((x_5 ≤ (@Nat.cast Int _ (List.length (Go.Proofs.Ytpdddafaelbgkaa.Memo.regions x_3)))) ∧
 ((x_6 = true) ∨ ((@Option.isSome Go.Proofs.Ytpdddafaelbgkaa.Region (Go.Proofs.Ytpdddafaelbgkaa.regOf x_4 (List.drop (Int.toNat x_5) (Go.Proofs.Ytpdddafaelbgkaa.Memo.regions x_3)))) = true)))))) ∧
 True)))))))))))) ∧
 (∀ (x_7 : Go.Proofs.Ytpdddafaelbgkaa.Memo), (∀ (x_8 : Int), (∀ (x_9 : Int), (∀ (x_10 : Bool), (((Go.Proofs.Ytpdddafaelbgkaa.memBd x_7) ∧
 (((0 : Int) ≤ (Go.Proofs.Ytpdddafaelbgkaa.memRead x_7 x_8)) ∧
 (((0 : Int) ≤ x_9) ∧
 ((x_9 ≤ (@Nat.cast Int _ (List.length (Go.Proofs.Ytpdddafaelbgkaa.Memo.regions x_7)))) ∧
 ((x_10 = true) ∨ ((@Option.isSome Go.Proofs.Ytpdddafaelbgkaa.Region (Go.Proofs.Ytpdddafaelbgkaa.regOf x_8 (List.drop (Int.toNat x_9) (Go.Proofs.Ytpdddafaelbgkaa.Memo.regions x_7)))) = true)))))) →
 (((List.length (Go.Proofs.Ytpdddafaelbgkaa.Memo.regions x_7)) ≤ (9223372036854775807 : Nat)) →
 ((((decide (x_9 < (@Nat.cast Int _ (List.length (Go.Proofs.Ytpdddafaelbgkaa.Memo.regions x_7))))) = true) →
 (((x_10 = true) →
 ((((- (9223372036854775808 : Int)) ≤ (x_9 + (1 : Int))) ∧
 ((x_9 + (1 : Int)) ≤ (9223372036854775807 : Int))) ∧
 (∃ (x_11 : Go.Proofs.Ytpdddafaelbgkaa.Memo), (∃ (x_12 : Int), (∃ (x_13 : Int), (∃ (x_14 : Bool), ((x_8 = x_12) ∧
 (((Go.Proofs.Ytpdddafaelbgkaa.memRead x_7 x_8) = (Go.Proofs.Ytpdddafaelbgkaa.memRead x_11 x_12)) ∧
 ((true = x_14) ∧
 (((x_9 + (1 : Int)) = x_13) ∧
 (((Go.Proofs.Ytpdddafaelbgkaa.Img.base (Go.Proofs.Ytpdddafaelbgkaa.Memo.what x_7)) = (Go.Proofs.Ytpdddafaelbgkaa.Img.base (Go.Proofs.Ytpdddafaelbgkaa.Memo.what x_11))) ∧
 ((@Eq (List Int) (Go.Proofs.Ytpdddafaelbgkaa.Img.bytes (Go.Proofs.Ytpdddafaelbgkaa.Memo.what x_7)) (Go.Proofs.Ytpdddafaelbgkaa.Img.bytes (Go.Proofs.Ytpdddafaelbgkaa.Memo.what x_11))) ∧
 ((@Eq (List Go.Proofs.Ytpdddafaelbgkaa.Region) (Go.Proofs.Ytpdddafaelbgkaa.Memo.regions x_7) (Go.Proofs.Ytpdddafaelbgkaa.Memo.regions x_11)) ∧
 (((Go.Proofs.Ytpdddafaelbgkaa.memBd x_11) ∧
 (((0 : Int) ≤ (Go.Proofs.Ytpdddafaelbgkaa.memRead x_11 x_12)) ∧
 (((0 : Int) ≤ x_13) ∧
 ((x_13 ≤ (@Nat.cast Int _ (List.length (Go.Proofs.Ytpdddafaelbgkaa.Memo.regions x_11)))) ∧
 ((x_14 = true) ∨ ((@Option.isSome Go.Proofs.Ytpdddafaelbgkaa.Region (Go.Proofs.Ytpdddafaelbgkaa.regOf x_12 (List.drop (Int.toNat x_13) (Go.Proofs.Ytpdddafaelbgkaa.Memo.regions x_11)))) = true)))))) ∧
 (((List.length (Go.Proofs.Ytpdddafaelbgkaa.Memo.regions x_11)) - (Int.toNat x_13)) < ((List.length (Go.Proofs.Ytpdddafaelbgkaa.Memo.regions x_7)) - (Int.toNat x_9))))))))))))))))) ∧
 ((x_10 = false) →
 ((((0 : Int) ≤ x_9) ∧
 (x_9 < (@Nat.cast Int _ (List.length (Go.Proofs.Ytpdddafaelbgkaa.Memo.regions x_7))))) ∧
 (∀ (x_15 : Go.Proofs.Ytpdddafaelbgkaa.Region), ((@Eq (Option Go.Proofs.Ytpdddafaelbgkaa.Region) ((Go.Proofs.Ytpdddafaelbgkaa.Memo.regions x_7))[(Int.toNat x_9)]? (some x_15)) →
 ((Go.Proofs.Ytpdddafaelbgkaa.Ok (Go.Proofs.Ytpdddafaelbgkaa.Ty.st Go.Proofs.Ytpdddafaelbgkaa.SN.region) x_15) →
 ((((decide ((Go.Proofs.Ytpdddafaelbgkaa.Region.from_ x_15) ≤ x_8)) = true) →
 ((((0 : Int) ≤ x_9) ∧
 (x_9 < (@Nat.cast Int _ (List.length (Go.Proofs.Ytpdddafaelbgkaa.Memo.regions x_7))))) ∧
 (∀ (x_16 : Go.Proofs.Ytpdddafaelbgkaa.Region), ((@Eq (Option Go.Proofs.Ytpdddafaelbgkaa.Region) ((Go.Proofs.Ytpdddafaelbgkaa.Memo.regions x_7))[(Int.toNat x_9)]? (some x_16)) →
 ((Go.Proofs.Ytpdddafaelbgkaa.Ok (Go.Proofs.Ytpdddafaelbgkaa.Ty.st Go.Proofs.Ytpdddafaelbgkaa.SN.region) x_16) →
 ((((- (9223372036854775808 : Int)) ≤ (x_9 + (1 : Int))) ∧
 ((x_9 + (1 : Int)) ≤ (9223372036854775807 : Int))) ∧
 (∃ (x_17 : Go.Proofs.Ytpdddafaelbgkaa.Memo), (∃ (x_18 : Int), (∃ (x_19 : Int), (∃ (x_20 : Bool), ((x_8 = x_18) ∧
 (((Go.Proofs.Ytpdddafaelbgkaa.memRead x_7 x_8) = (Go.Proofs.Ytpdddafaelbgkaa.memRead x_17 x_18)) ∧
 (((decide (x_8 < (Go.Proofs.Ytpdddafaelbgkaa.Region.to x_16))) = x_20) ∧
 (((x_9 + (1 : Int)) = x_19) ∧
 (((Go.Proofs.Ytpdddafaelbgkaa.Img.base (Go.Proofs.Ytpdddafaelbgkaa.Memo.what x_7)) = (Go.Proofs.Ytpdddafaelbgkaa.Img.base (Go.Proofs.Ytpdddafaelbgkaa.Memo.what x_17))) ∧
 ((@Eq (List Int) (Go.Proofs.Ytpdddafaelbgkaa.Img.bytes (Go.Proofs.Ytpdddafaelbgkaa.Memo.what x_7)) (Go.Proofs.Ytpdddafaelbgkaa.Img.bytes (Go.Proofs.Ytpdddafaelbgkaa.Memo.what x_17))) ∧
 ((@Eq (List Go.Proofs.Ytpdddafaelbgkaa.Region) (Go.Proofs.Ytpdddafaelbgkaa.Memo.regions x_7) (Go.Proofs.Ytpdddafaelbgkaa.Memo.regions x_17)) ∧
 (((Go.Proofs.Ytpdddafaelbgkaa.memBd x_17) ∧
 (((0 : Int) ≤ (Go.Proofs.Ytpdddafaelbgkaa.memRead x_17 x_18)) ∧
 (((0 : Int) ≤ x_19) ∧
 ((x_19 ≤ (@Nat.cast Int _ (List.length (Go.Proofs.Ytpdddafaelbgkaa.Memo.regions x_17)))) ∧
 ((x_20 = true) ∨ ((@Option.isSome Go.Proofs.Ytpdddafaelbgkaa.Region (Go.Proofs.Ytpdddafaelbgkaa.regOf x_18 (List.drop (Int.toNat x_19) (Go.Proofs.Ytpdddafaelbgkaa.Memo.regions x_17)))) = true)))))) ∧
 (((List.length (Go.Proofs.Ytpdddafaelbgkaa.Memo.regions x_17)) - (Int.toNat x_19)) < ((List.length (Go.Proofs.Ytpdddafaelbgkaa.Memo.regions x_7)) - (Int.toNat x_9))))))))))))))))))))) ∧
 (((decide ((Go.Proofs.Ytpdddafaelbgkaa.Region.from_ x_15) ≤ x_8)) = false) →
 ((((- (9223372036854775808 : Int)) ≤ (x_9 + (1 : Int))) ∧
 ((x_9 + (1 : Int)) ≤ (9223372036854775807 : Int))) ∧
 (∃ (x_21 : Go.Proofs.Ytpdddafaelbgkaa.Memo), (∃ (x_22 : Int), (∃ (x_23 : Int), (∃ (x_24 : Bool), ((x_8 = x_22) ∧
 (((Go.Proofs.Ytpdddafaelbgkaa.memRead x_7 x_8) = (Go.Proofs.Ytpdddafaelbgkaa.memRead x_21 x_22)) ∧
 ((false = x_24) ∧
 (((x_9 + (1 : Int)) = x_23) ∧
 (((Go.Proofs.Ytpdddafaelbgkaa.Img.base (Go.Proofs.Ytpdddafaelbgkaa.Memo.what x_7)) = (Go.Proofs.Ytpdddafaelbgkaa.Img.base (Go.Proofs.Ytpdddafaelbgkaa.Memo.what x_21))) ∧
 ((@Eq (List Int) (Go.Proofs.Ytpdddafaelbgkaa.Img.bytes (Go.Proofs.Ytpdddafaelbgkaa.Memo.what x_7)) (Go.Proofs.Ytpdddafaelbgkaa.Img.bytes (Go.Proofs.Ytpdddafaelbgkaa.Memo.what x_21))) ∧
 ((@Eq (List Go.Proofs.Ytpdddafaelbgkaa.Region) (Go.Proofs.Ytpdddafaelbgkaa.Memo.regions x_7) (Go.Proofs.Ytpdddafaelbgkaa.Memo.regions x_21)) ∧
 (((Go.Proofs.Ytpdddafaelbgkaa.memBd x_21) ∧
 (((0 : Int) ≤ (Go.Proofs.Ytpdddafaelbgkaa.memRead x_21 x_22)) ∧
 (((0 : Int) ≤ x_23) ∧
 ((x_23 ≤ (@Nat.cast Int _ (List.length (Go.Proofs.Ytpdddafaelbgkaa.Memo.regions x_21)))) ∧
 ((x_24 = true) ∨ ((@Option.isSome Go.Proofs.Ytpdddafaelbgkaa.Region (Go.Proofs.Ytpdddafaelbgkaa.regOf x_22 (List.drop (Int.toNat x_23) (Go.Proofs.Ytpdddafaelbgkaa.Memo.regions x_21)))) = true)))))) ∧
 (((List.length (Go.Proofs.Ytpdddafaelbgkaa.Memo.regions x_21)) - (Int.toNat x_23)) < ((List.length (Go.Proofs.Ytpdddafaelbgkaa.Memo.regions x_7)) - (Int.toNat x_9))))))))))))))))))))))))) ∧
 (((decide (x_9 < (@Nat.cast Int _ (List.length (Go.Proofs.Ytpdddafaelbgkaa.Memo.regions x_7))))) = false) →
 (((x_10 = true) →
 (((decide ((Go.Proofs.Ytpdddafaelbgkaa.memRead x_7 x_8) = (Go.Proofs.Ytpdddafaelbgkaa.imgByte (Go.Proofs.Ytpdddafaelbgkaa.Memo.what x_7) x_8))) = true) ∧
 True)) ∧
 ((x_10 = false) →
 ((false = true) ∧
 True))))))))))))))))))))))) := by kernel_rfl
theorem det_laws_FnMemoryRead : C_laws_FnMemoryRead.det = true → ∀ x, (C_laws_FnMemoryRead.out x).Det := fun _ x => by simp only [C_laws_FnMemoryRead]; repeat (first | exact Det.ret _ | exact Det.vc' | apply Det.req | apply Det.giv | apply Det.fork | apply Det.bif' | intro _)
set_option maxRecDepth 200000 in
set_option maxHeartbeats 1000000 in
theorem ok_laws_FnMemoryRead : ConOK Try.prog 10 C_laws_FnMemoryRead := by
  refine con_mk (wr := false) (ty := tyL [(3, .i), (5, .u), (4, .bool), (9, .str), (163, .int .u64), (71, .st .fixup), (24, .st .img), (39, .st .region), (35, .st .mem), (30, .st .patch), (94, .st .hash), (92, .list .i), (90, .list .str), (22, .list .u), (67, .st .fixup), (52, .st .img), (149, .st .region), (55, .st .mem), (101, .st .hash)]) (l := [(58, C_spec_DrawMemoryRead), (59, C_impl_MemoryRead), (60, C_spec_MemoryRead), (27, C_laws_alive), (61, C_impl_ImageByte)]) ⟨⟨ok_spec_DrawMemoryRead, det_spec_DrawMemoryRead⟩, ⟨⟨ok_impl_MemoryRead, det_impl_MemoryRead⟩, ⟨⟨ok_spec_MemoryRead, det_spec_MemoryRead⟩, ⟨⟨ok_laws_alive, det_laws_alive⟩, ⟨⟨ok_impl_ImageByte, det_impl_ImageByte⟩, trivial⟩⟩⟩⟩⟩ Try.checked.mixed (fn := Try.f10) (body := Try.f10.body.getD .skip) Try.func10 rfl (by decide) (by kernel_rfl) rfl an_laws_FnMemoryRead fun x ho hx => ?_
  obtain ⟨c, ⟨⟩⟩ := x
  refine Keeps.of (vc_laws_FnMemoryRead c) ?_
  revert c ho hx
  show ∀ (c : List (Int)), _
  intro c ho hx
  dsimp only [C_laws_FnMemoryRead, okPTL, okPT, Ok, Ty.cells, SN.cells, OkL, OkC, okI, ci, cb, cs, cl] at ho
  dsimp only [C_laws_FnMemoryRead, vc, v1, decB, SR.pre] at hx
  simp only [decide_eq_true_eq, decide_eq_false_iff_not, Bool.not_eq_true', Bool.not_eq_false', and_true, true_and, Int.toNat_natCast, exists_eq_left', exists_eq_left, exists_and_left, Int.not_lt, Int.not_le, Bool.false_eq_true, false_implies, implies_true, forall_const, List.length_append, List.length_cons, List.length_nil, Int.sub_add_cancel, Int.add_sub_cancel, and_imp, get_set_iff, forall_eq', forall_eq, List.set_set, mkd_get, mkd_len, List.length_set, Option.some.injEq]; (repeat' first | intro _ | apply And.intro); all_goals (try omega); all_goals (try have hdr := drop_get' (by assumption) (by assumption)); all_goals grind [read_neg, read_pos, drop_end, regOf, inReg, → mem_lens]

set_option maxRecDepth 100000 in
theorem lifted_FnMemoryRead (os : Os) (started : os.Started) (H : Type) (enc : TypeId × Value → H) :
    ReturnsInHanded {} Try.checked os 10 .any (Rows.fnMemoryReadSpec.pre6 enc Try.prog Try.f10 Rows.fnMemoryReadRow.domain false) (Rows.fnMemoryReadSpec.post enc Try.prog Try.f10 false true false false) := by
  refine returnsInHanded_of_change (C := Try.checked) head_own started (by kernel_rfl) Try.func10
    (ChangeSpec.witness6 (enc := enc) (C := Try.checked) false ⟨#[], #[.slice none 0 0], []⟩ 8 (by kernel_rfl) (by kernel_rfl) (by kernel_rfl) (by kernel_rfl)) ?_
  intro W base args ds gs before hval0 hW _ _
  have hval : ∀ (j : Nat) t v, Try.f10.params[j]? = some t → args[j]? = some v → Value.okWide Try.prog W .any base t v := hval0
  have hW' := hW
  obtain ⟨p, q, hA0, hV, rfl, hfz, hnd⟩ := hW
  have hA : DataW.TrodAll enc Try.prog W 0 (fun _ => true) true Try.f10.params.toList args.toList ds p := hA0
  rw [Try.params10] at hA hval
  obtain ⟨v0, vs0, d0, ds0, p0, q0, hargs, rfl, rfl, h0, r0⟩ := trodAll_cons hA
  obtain ⟨rfl, rfl, rfl⟩ := trodAll_nil r0
  obtain rfl : args = #[v0] := by cases args; simp_all
  obtain ⟨rfl, rfl⟩ := trodVars_none hV
  have k0 := h0
  obtain ⟨x0, g0⟩ := open_slice1 Try.underlying22 rd_uL (hval 0 22 v0 rfl rfl) h0
  clear hA0 hval0 hval
  refine (law_calls ok_laws_FnMemoryRead (x0, ()) rfl rfl (W := W) (vals := [v0]) ⟨g0, trivial⟩).mono fun e W' ⟨he, bel⟩ => ?_
  subst he
  exact ⟨_, rfl, _, _, _, [], _, [], hW', trodAll_mk1 (shut_bool Try.underlying4 _), (trodAll_cons_mk (Below.trod head_laid (by kernel_rfl) (of_decide_eq_true (by kernel_rfl)) k0 bel (trod_lt_ k0)) trodAll_mk0), rfl, bel.frame _, fun h => by cases h⟩

theorem over_FnMemoryRead : Rows.fnMemoryReadRow.holds Try.pinned (OpenSpec.ofChange Rows.fnMemoryReadSpec) :=
  OpenClaim.holds_of_wide 10 Try.f10 rfl rfl rfl rfl rfl rfl rfl ⟨rfl, rfl, rfl, rfl, rfl⟩ rfl rfl rfl rfl rfl (by kernel_rfl) Try.func10 (joined_of head_laid head_rowed head_stops head_stopk head_heard head_enter (show (Rows.fnMemoryReadRow.lifted == Try.prog.liftsFinal) = true by rw [head_final]; rfl) (show (Try.prog.make == some Rows.fnMemoryReadRow.make) = true by rw [head_make]; rfl) (by kernel_rfl))
    (of_decide_eq_true (by kernel_rfl)) (by unfold Func.isWrapper; first | (rw [if_pos (by decide +kernel)]; kernel_rfl) | (rw [if_neg (by decide +kernel)]; exact ⟨rfl, rfl⟩))
    (fun os started H enc _ => lifted_FnMemoryRead os started H enc)

theorem proved_FnMemoryRead : Rows.FnMemoryReadSaid := over_FnMemoryRead
#print axioms proved_FnMemoryRead

def C_laws_FnMemoryWrite : Con := { ps := [.ro (.list .u)], out := fun x => let c : List (Int) := x.1; vc .bool true, det := true }
def G_laws_FnMemoryWrite : Cfg := mkG (tyL [(3, .i), (5, .u), (4, .bool), (9, .str), (163, .int .u64), (71, .st .fixup), (24, .st .img), (39, .st .region), (35, .st .mem), (30, .st .patch), (94, .st .hash), (92, .list .i), (90, .list .str), (22, .list .u), (67, .st .fixup), (52, .st .img), (149, .st .region), (55, .st .mem), (101, .st .hash)]) [(69, C_spec_DrawMemoryWrite), (70, C_impl_MemoryWrite), (71, C_spec_MemoryWrite), (72, C_laws_sameMemory), (27, C_laws_alive), (59, C_impl_MemoryRead)] false
def an_laws_FnMemoryWrite : PTL C_laws_FnMemoryWrite.ps → Nat → Option Ann := fun x kk_ => let c : List (Int) := x.1; if kk_ = 11 then some (.all (Memo) fun m => .all (Int) fun a => .all (Int) fun v => .all (Int) fun k => .giv (memBd m ∧ mayW m a v = true ∧ m.what.base ≤ k ∧ k ≤ m.what.base + m.what.bytes.length) (.mk [(3, aref 30), (4, ai a), (5, ai v), (6, aref 31), (10, ai k)] [(30, bx (ast .mem m)), (31, bx (ast .mem (memWrite m a v)))] ((m.what.base + m.what.bytes.length - k).toNat))) else if kk_ = 17 then some (.all (Memo) fun m => .all (Int) fun a => .all (Int) fun v => .all (Int) fun i => .all (Bool) fun b => .giv (memBd m ∧ mayW m a v = true ∧ 0 ≤ i ∧ i ≤ m.regions.length ∧ (b = true ∨ anyW a (m.regions.drop i.toNat) = true)) (.mk [(3, aref 30), (4, ai a), (5, ai v), (6, aref 31), (11, ab b), (12, ai i)] [(30, bx (ast .mem m)), (31, bx (ast .mem (memWrite m a v)))] ((m.regions.length - i.toNat)))) else none
set_option maxRecDepth 200000 in
theorem vc_laws_FnMemoryWrite (c : List (Int)) : (keeps Try.prog G_laws_FnMemoryWrite (an_laws_FnMemoryWrite (c, ())) (Try.f15.body.getD .skip) Try.f15.results.toList C_laws_FnMemoryWrite (c, ())) = ((((List.length c) ≤ (9223372036854775807 : Nat)) →
 ((((decide ((1048576 : Int) < (@Nat.cast Int _ (List.length c)))) = true) →
 ((true = true) ∧
 True)) ∧
 (((decide ((1048576 : Int) < (@Nat.cast Int _ (List.length c)))) = false) →
 (∀ (x_1 : Go.Proofs.Ytpdddafaelbgkaa.Memo), (∀ (x_2 : Int), (∀ (x_3 : Int), (((Go.Proofs.Ytpdddafaelbgkaa.memBd x_1) ∧
 (((- (100 : Int)) ≤ x_2) ∧
 ((x_2 ≤ (5000 : Int)) ∧
 (((- (1 : Int)) ≤ x_3) ∧
 (x_3 ≤ (256 : Int)))))) →
 ((((List.length (Go.Proofs.Ytpdddafaelbgkaa.Img.bytes (Go.Proofs.Ytpdddafaelbgkaa.Memo.what x_1))) ≤ (1048576 : Nat)) ∧
 ((List.length (Go.Proofs.Ytpdddafaelbgkaa.Memo.regions x_1)) ≤ (1048576 : Nat))) ∧
 ((((List.length (Go.Proofs.Ytpdddafaelbgkaa.Img.bytes (Go.Proofs.Ytpdddafaelbgkaa.Memo.what x_1))) ≤ (1048576 : Nat)) ∧
 ((List.length (Go.Proofs.Ytpdddafaelbgkaa.Memo.regions x_1)) ≤ (1048576 : Nat))) ∧
 ((((Bool.not (decide (@Eq Go.Proofs.Ytpdddafaelbgkaa.Memo (Go.Proofs.Ytpdddafaelbgkaa.memWrite x_1 x_2 x_3) (Go.Proofs.Ytpdddafaelbgkaa.memWrite x_1 x_2 x_3)))) = true) →
 ((false = true) ∧
 True)) ∧
 (((Bool.not (decide (@Eq Go.Proofs.Ytpdddafaelbgkaa.Memo (Go.Proofs.Ytpdddafaelbgkaa.memWrite x_1 x_2 x_3) (Go.Proofs.Ytpdddafaelbgkaa.memWrite x_1 x_2 x_3)))) = false) →
 ((((decide ((Go.Proofs.Ytpdddafaelbgkaa.mayW x_1 x_2 x_3) ≠ (Go.Proofs.Ytpdddafaelbgkaa.mayW x_1 x_2 x_3))) = true) →
 ((false = true) ∧
 True)) ∧
 (((decide ((Go.Proofs.Ytpdddafaelbgkaa.mayW x_1 x_2 x_3) ≠ (Go.Proofs.Ytpdddafaelbgkaa.mayW x_1 x_2 x_3))) = false) →
 ((((Bool.not (Go.Proofs.Ytpdddafaelbgkaa.mayW x_1 x_2 x_3)) = true) →
 ((((decide (@Eq Go.Proofs.Ytpdddafaelbgkaa.Memo (Go.Proofs.Ytpdddafaelbgkaa.memWrite x_1 x_2 x_3) x_1)) = true) →
 ((true = true) ∧
 True)) ∧
 (((decide (@Eq Go.Proofs.Ytpdddafaelbgkaa.Memo (Go.Proofs.Ytpdddafaelbgkaa.memWrite x_1 x_2 x_3) x_1)) = false) →
 (((List.length (Go.Proofs.Ytpdddafaelbgkaa.Memo.regions (Go.Proofs.Ytpdddafaelbgkaa.memWrite x_1 x_2 x_3))) ≤ (9223372036854775807 : Nat)) →
 ((((decide ((@Nat.cast Int _ (List.length (Go.Proofs.Ytpdddafaelbgkaa.Memo.regions (Go.Proofs.Ytpdddafaelbgkaa.memWrite x_1 x_2 x_3)))) = (0 : Int))) = true) →
 ((true = true) ∧
 True)) ∧
 (((decide ((@Nat.cast Int _ (List.length (Go.Proofs.Ytpdddafaelbgkaa.Memo.regions (Go.Proofs.Ytpdddafaelbgkaa.memWrite x_1 x_2 x_3)))) = (0 : Int))) = false) →
 ((false = true) ∧
 True))))))) ∧
 (((Bool.not (Go.Proofs.Ytpdddafaelbgkaa.mayW x_1 x_2 x_3)) = false) →
 ((∃ (x_4 : Go.Proofs.Ytpdddafaelbgkaa.Memo), (∃ (x_5 : Int), (∃ (x_6 : Int), (∃ (x_7 : Int), ((x_2 = x_5) ∧
 ((x_3 = x_6) ∧
 (((Go.Proofs.Ytpdddafaelbgkaa.Img.base (Go.Proofs.Ytpdddafaelbgkaa.Memo.what x_1)) = x_7) ∧
 (((Go.Proofs.Ytpdddafaelbgkaa.Img.base (Go.Proofs.Ytpdddafaelbgkaa.Memo.what x_1)) = (Go.Proofs.Ytpdddafaelbgkaa.Img.base (Go.Proofs.Ytpdddafaelbgkaa.Memo.what x_4))) ∧
 ((@Eq (List Int) (Go.Proofs.Ytpdddafaelbgkaa.Img.bytes (Go.Proofs.Ytpdddafaelbgkaa.Memo.what x_1)) (Go.Proofs.Ytpdddafaelbgkaa.Img.bytes (Go.Proofs.Ytpdddafaelbgkaa.Memo.what x_4))) ∧
 ((@Eq (List Go.Proofs.Ytpdddafaelbgkaa.Region) (Go.Proofs.Ytpdddafaelbgkaa.Memo.regions x_1) (Go.Proofs.Ytpdddafaelbgkaa.Memo.regions x_4)) ∧
 (((Go.Proofs.Ytpdddafaelbgkaa.Img.base (Go.Proofs.Ytpdddafaelbgkaa.Memo.what (Go.Proofs.Ytpdddafaelbgkaa.memWrite x_1 x_2 x_3))) = (Go.Proofs.Ytpdddafaelbgkaa.Img.base (Go.Proofs.Ytpdddafaelbgkaa.Memo.what (Go.Proofs.Ytpdddafaelbgkaa.memWrite x_4 x_5 x_6)))) ∧
 ((@Eq (List Int) (Go.Proofs.Ytpdddafaelbgkaa.Img.bytes (Go.Proofs.Ytpdddafaelbgkaa.Memo.what (Go.Proofs.Ytpdddafaelbgkaa.memWrite x_1 x_2 x_3))) (Go.Proofs.Ytpdddafaelbgkaa.Img.bytes (Go.Proofs.Ytpdddafaelbgkaa.Memo.what (Go.Proofs.Ytpdddafaelbgkaa.memWrite x_4 x_5 x_6)))) ∧
 ((@Eq (List Go.Proofs.Ytpdddafaelbgkaa.Region) (Go.Proofs.Ytpdddafaelbgkaa.Memo.regions (Go.Proofs.Ytpdddafaelbgkaa.memWrite x_1 x_2 x_3)) (Go.Proofs.Ytpdddafaelbgkaa.Memo.regions (Go.Proofs.Ytpdddafaelbgkaa.memWrite x_4 x_5 x_6))) ∧
 (((Go.Proofs.Ytpdddafaelbgkaa.memBd x_4) ∧
 (((Go.Proofs.Ytpdddafaelbgkaa.mayW x_4 x_5 x_6) = true) ∧
 (((Go.Proofs.Ytpdddafaelbgkaa.Img.base (Go.Proofs.Ytpdddafaelbgkaa.Memo.what x_4)) ≤ x_7) ∧
 (x_7 ≤ ((Go.Proofs.Ytpdddafaelbgkaa.Img.base (Go.Proofs.Ytpdddafaelbgkaa.Memo.what x_4)) + (@Nat.cast Int _ (List.length (Go.Proofs.Ytpdddafaelbgkaa.Img.bytes (Go.Proofs.Ytpdddafaelbgkaa.Memo.what x_4))))))))) ∧
 True)))))))))))))) ∧
 (∀ (x_8 : Go.Proofs.Ytpdddafaelbgkaa.Memo), (∀ (x_9 : Int), (∀ (x_10 : Int), (∀ (x_11 : Int), (((Go.Proofs.Ytpdddafaelbgkaa.memBd x_8) ∧
 (((Go.Proofs.Ytpdddafaelbgkaa.mayW x_8 x_9 x_10) = true) ∧
 (((Go.Proofs.Ytpdddafaelbgkaa.Img.base (Go.Proofs.Ytpdddafaelbgkaa.Memo.what x_8)) ≤ x_11) ∧
 (x_11 ≤ ((Go.Proofs.Ytpdddafaelbgkaa.Img.base (Go.Proofs.Ytpdddafaelbgkaa.Memo.what x_8)) + (@Nat.cast Int _ (List.length (Go.Proofs.Ytpdddafaelbgkaa.Img.bytes (Go.Proofs.Ytpdddafaelbgkaa.Memo.what x_8))))))))) →
 (((List.length (Go.Proofs.Ytpdddafaelbgkaa.Img.bytes (Go.Proofs.Ytpdddafaelbgkaa.Memo.what x_8))) ≤ (9223372036854775807 : Nat)) →
 ((((- (9223372036854775808 : Int)) ≤ ((Go.Proofs.Ytpdddafaelbgkaa.Img.base (Go.Proofs.Ytpdddafaelbgkaa.Memo.what x_8)) + (@Nat.cast Int _ (List.length (Go.Proofs.Ytpdddafaelbgkaa.Img.bytes (Go.Proofs.Ytpdddafaelbgkaa.Memo.what x_8)))))) ∧
 (((Go.Proofs.Ytpdddafaelbgkaa.Img.base (Go.Proofs.Ytpdddafaelbgkaa.Memo.what x_8)) + (@Nat.cast Int _ (List.length (Go.Proofs.Ytpdddafaelbgkaa.Img.bytes (Go.Proofs.Ytpdddafaelbgkaa.Memo.what x_8))))) ≤ (9223372036854775807 : Int))) ∧
 ((((decide (x_11 < ((Go.Proofs.Ytpdddafaelbgkaa.Img.base (Go.Proofs.Ytpdddafaelbgkaa.Memo.what x_8)) + (@Nat.cast Int _ (List.length (Go.Proofs.Ytpdddafaelbgkaa.Img.bytes (Go.Proofs.Ytpdddafaelbgkaa.Memo.what x_8))))))) = true) →
 ((((decide (x_11 ≠ x_9)) = true) →
 ((((decide ((Go.Proofs.Ytpdddafaelbgkaa.memRead (Go.Proofs.Ytpdddafaelbgkaa.memWrite x_8 x_9 x_10) x_11) ≠ (Go.Proofs.Ytpdddafaelbgkaa.memRead x_8 x_11))) = true) →
 ((false = true) ∧
 True)) ∧
 (((decide ((Go.Proofs.Ytpdddafaelbgkaa.memRead (Go.Proofs.Ytpdddafaelbgkaa.memWrite x_8 x_9 x_10) x_11) ≠ (Go.Proofs.Ytpdddafaelbgkaa.memRead x_8 x_11))) = false) →
 ((((- (9223372036854775808 : Int)) ≤ (x_11 + (1 : Int))) ∧
 ((x_11 + (1 : Int)) ≤ (9223372036854775807 : Int))) ∧
 (∃ (x_12 : Go.Proofs.Ytpdddafaelbgkaa.Memo), (∃ (x_13 : Int), (∃ (x_14 : Int), (∃ (x_15 : Int), ((x_9 = x_13) ∧
 ((x_10 = x_14) ∧
 (((x_11 + (1 : Int)) = x_15) ∧
 (((Go.Proofs.Ytpdddafaelbgkaa.Img.base (Go.Proofs.Ytpdddafaelbgkaa.Memo.what x_8)) = (Go.Proofs.Ytpdddafaelbgkaa.Img.base (Go.Proofs.Ytpdddafaelbgkaa.Memo.what x_12))) ∧
 ((@Eq (List Int) (Go.Proofs.Ytpdddafaelbgkaa.Img.bytes (Go.Proofs.Ytpdddafaelbgkaa.Memo.what x_8)) (Go.Proofs.Ytpdddafaelbgkaa.Img.bytes (Go.Proofs.Ytpdddafaelbgkaa.Memo.what x_12))) ∧
 ((@Eq (List Go.Proofs.Ytpdddafaelbgkaa.Region) (Go.Proofs.Ytpdddafaelbgkaa.Memo.regions x_8) (Go.Proofs.Ytpdddafaelbgkaa.Memo.regions x_12)) ∧
 (((Go.Proofs.Ytpdddafaelbgkaa.Img.base (Go.Proofs.Ytpdddafaelbgkaa.Memo.what (Go.Proofs.Ytpdddafaelbgkaa.memWrite x_8 x_9 x_10))) = (Go.Proofs.Ytpdddafaelbgkaa.Img.base (Go.Proofs.Ytpdddafaelbgkaa.Memo.what (Go.Proofs.Ytpdddafaelbgkaa.memWrite x_12 x_13 x_14)))) ∧
 ((@Eq (List Int) (Go.Proofs.Ytpdddafaelbgkaa.Img.bytes (Go.Proofs.Ytpdddafaelbgkaa.Memo.what (Go.Proofs.Ytpdddafaelbgkaa.memWrite x_8 x_9 x_10))) (Go.Proofs.Ytpdddafaelbgkaa.Img.bytes (Go.Proofs.Ytpdddafaelbgkaa.Memo.what (Go.Proofs.Ytpdddafaelbgkaa.memWrite x_12 x_13 x_14)))) ∧
 ((@Eq (List Go.Proofs.Ytpdddafaelbgkaa.Region) (Go.Proofs.Ytpdddafaelbgkaa.Memo.regions (Go.Proofs.Ytpdddafaelbgkaa.memWrite x_8 x_9 x_10)) (Go.Proofs.Ytpdddafaelbgkaa.Memo.regions (Go.Proofs.Ytpdddafaelbgkaa.memWrite x_12 x_13 x_14))) ∧
 (((Go.Proofs.Ytpdddafaelbgkaa.memBd x_12) ∧
 (((Go.Proofs.Ytpdddafaelbgkaa.mayW x_12 x_13 x_14) = true) ∧
 (((Go.Proofs.Ytpdddafaelbgkaa.Img.base (Go.Proofs.Ytpdddafaelbgkaa.Memo.what x_12)) ≤ x_15) ∧
 (x_15 ≤ ((Go.Proofs.Ytpdddafaelbgkaa.Img.base (Go.Proofs.Ytpdddafaelbgkaa.Memo.what x_12)) + (@Nat.cast Int _ (List.length (Go.Proofs.Ytpdddafaelbgkaa.Img.bytes (Go.Proofs.Ytpdddafaelbgkaa.Memo.what x_12))))))))) ∧
 ((Int.toNat (((Go.Proofs.Ytpdddafaelbgkaa.Img.base (Go.Proofs.Ytpdddafaelbgkaa.Memo.what x_12)) + (@Nat.cast Int _ (List.length (Go.Proofs.Ytpdddafaelbgkaa.Img.bytes (Go.Proofs.Ytpdddafaelbgkaa.Memo.what x_12))))) - x_15)) < (Int.toNat (((Go.Proofs.Ytpdddafaelbgkaa.Img.base (Go.Proofs.Ytpdddafaelbgkaa.Memo.what x_8)) + (@Nat.cast Int _ (List.length (Go.Proofs.Ytpdddafaelbgkaa.Img.bytes (Go.Proofs.Ytpdddafaelbgkaa.Memo.what x_8))))) - x_11))))))))))))))))))))) ∧
 (((decide (x_11 ≠ x_9)) = false) →
 ((((- (9223372036854775808 : Int)) ≤ (x_11 + (1 : Int))) ∧
 ((x_11 + (1 : Int)) ≤ (9223372036854775807 : Int))) ∧
 (∃ (x_16 : Go.Proofs.Ytpdddafaelbgkaa.Memo), (∃ (x_17 : Int), (∃ (x_18 : Int), (∃ (x_19 : Int), ((x_9 = x_17) ∧
 ((x_10 = x_18) ∧
 (((x_11 + (1 : Int)) = x_19) ∧
 (((Go.Proofs.Ytpdddafaelbgkaa.Img.base (Go.Proofs.Ytpdddafaelbgkaa.Memo.what x_8)) = (Go.Proofs.Ytpdddafaelbgkaa.Img.base (Go.Proofs.Ytpdddafaelbgkaa.Memo.what x_16))) ∧
 ((@Eq (List Int) (Go.Proofs.Ytpdddafaelbgkaa.Img.bytes (Go.Proofs.Ytpdddafaelbgkaa.Memo.what x_8)) (Go.Proofs.Ytpdddafaelbgkaa.Img.bytes (Go.Proofs.Ytpdddafaelbgkaa.Memo.what x_16))) ∧
 ((@Eq (List Go.Proofs.Ytpdddafaelbgkaa.Region) (Go.Proofs.Ytpdddafaelbgkaa.Memo.regions x_8) (Go.Proofs.Ytpdddafaelbgkaa.Memo.regions x_16)) ∧
 (((Go.Proofs.Ytpdddafaelbgkaa.Img.base (Go.Proofs.Ytpdddafaelbgkaa.Memo.what (Go.Proofs.Ytpdddafaelbgkaa.memWrite x_8 x_9 x_10))) = (Go.Proofs.Ytpdddafaelbgkaa.Img.base (Go.Proofs.Ytpdddafaelbgkaa.Memo.what (Go.Proofs.Ytpdddafaelbgkaa.memWrite x_16 x_17 x_18)))) ∧
 ((@Eq (List Int) (Go.Proofs.Ytpdddafaelbgkaa.Img.bytes (Go.Proofs.Ytpdddafaelbgkaa.Memo.what (Go.Proofs.Ytpdddafaelbgkaa.memWrite x_8 x_9 x_10))) (Go.Proofs.Ytpdddafaelbgkaa.Img.bytes (Go.Proofs.Ytpdddafaelbgkaa.Memo.what (Go.Proofs.Ytpdddafaelbgkaa.memWrite x_16 x_17 x_18)))) ∧
 ((@Eq (List Go.Proofs.Ytpdddafaelbgkaa.Region) (Go.Proofs.Ytpdddafaelbgkaa.Memo.regions (Go.Proofs.Ytpdddafaelbgkaa.memWrite x_8 x_9 x_10)) (Go.Proofs.Ytpdddafaelbgkaa.Memo.regions (Go.Proofs.Ytpdddafaelbgkaa.memWrite x_16 x_17 x_18))) ∧
 (((Go.Proofs.Ytpdddafaelbgkaa.memBd x_16) ∧
 (((Go.Proofs.Ytpdddafaelbgkaa.mayW x_16 x_17 x_18) = true) ∧
 (((Go.Proofs.Ytpdddafaelbgkaa.Img.base (Go.Proofs.Ytpdddafaelbgkaa.Memo.what x_16)) ≤ x_19) ∧
 (x_19 ≤ ((Go.Proofs.Ytpdddafaelbgkaa.Img.base (Go.Proofs.Ytpdddafaelbgkaa.Memo.what x_16)) + (@Nat.cast Int _ (List.length (Go.Proofs.Ytpdddafaelbgkaa.Img.bytes (Go.Proofs.Ytpdddafaelbgkaa.Memo.what x_16))))))))) ∧
 ((Int.toNat (((Go.Proofs.Ytpdddafaelbgkaa.Img.base (Go.Proofs.Ytpdddafaelbgkaa.Memo.what x_16)) + (@Nat.cast Int _ (List.length (Go.Proofs.Ytpdddafaelbgkaa.Img.bytes (Go.Proofs.Ytpdddafaelbgkaa.Memo.what x_16))))) - x_19)) < (Int.toNat (((Go.Proofs.Ytpdddafaelbgkaa.Img.base (Go.Proofs.Ytpdddafaelbgkaa.Memo.what x_8)) + (@Nat.cast Int _ (List.length (Go.Proofs.Ytpdddafaelbgkaa.Img.bytes (Go.Proofs.Ytpdddafaelbgkaa.Memo.what x_8))))) - x_11))))))))))))))))))))) ∧
 (((decide (x_11 < ((Go.Proofs.Ytpdddafaelbgkaa.Img.base (Go.Proofs.Ytpdddafaelbgkaa.Memo.what x_8)) + (@Nat.cast Int _ (List.length (Go.Proofs.Ytpdddafaelbgkaa.Img.bytes (Go.Proofs.Ytpdddafaelbgkaa.Memo.what x_8))))))) = false) →
 ((∃ (x_20 : Go.Proofs.Ytpdddafaelbgkaa.Memo), (∃ (x_21 : Int), (∃ (x_22 : Int), (∃ (x_23 : Int), (∃ (x_24 : Bool), ((x_9 = x_21) ∧
 ((x_10 = x_22) ∧
 ((false = x_24) ∧
 (((0 : Int) = x_23) ∧
 (((Go.Proofs.Ytpdddafaelbgkaa.Img.base (Go.Proofs.Ytpdddafaelbgkaa.Memo.what x_8)) = (Go.Proofs.Ytpdddafaelbgkaa.Img.base (Go.Proofs.Ytpdddafaelbgkaa.Memo.what x_20))) ∧
 ((@Eq (List Int) (Go.Proofs.Ytpdddafaelbgkaa.Img.bytes (Go.Proofs.Ytpdddafaelbgkaa.Memo.what x_8)) (Go.Proofs.Ytpdddafaelbgkaa.Img.bytes (Go.Proofs.Ytpdddafaelbgkaa.Memo.what x_20))) ∧
 ((@Eq (List Go.Proofs.Ytpdddafaelbgkaa.Region) (Go.Proofs.Ytpdddafaelbgkaa.Memo.regions x_8) (Go.Proofs.Ytpdddafaelbgkaa.Memo.regions x_20)) ∧
 (((Go.Proofs.Ytpdddafaelbgkaa.Img.base (Go.Proofs.Ytpdddafaelbgkaa.Memo.what (Go.Proofs.Ytpdddafaelbgkaa.memWrite x_8 x_9 x_10))) = (Go.Proofs.Ytpdddafaelbgkaa.Img.base (Go.Proofs.Ytpdddafaelbgkaa.Memo.what (Go.Proofs.Ytpdddafaelbgkaa.memWrite x_20 x_21 x_22)))) ∧
 ((@Eq (List Int) (Go.Proofs.Ytpdddafaelbgkaa.Img.bytes (Go.Proofs.Ytpdddafaelbgkaa.Memo.what (Go.Proofs.Ytpdddafaelbgkaa.memWrite x_8 x_9 x_10))) (Go.Proofs.Ytpdddafaelbgkaa.Img.bytes (Go.Proofs.Ytpdddafaelbgkaa.Memo.what (Go.Proofs.Ytpdddafaelbgkaa.memWrite x_20 x_21 x_22)))) ∧
 ((@Eq (List Go.Proofs.Ytpdddafaelbgkaa.Region) (Go.Proofs.Ytpdddafaelbgkaa.Memo.regions (Go.Proofs.Ytpdddafaelbgkaa.memWrite x_8 x_9 x_10)) (Go.Proofs.Ytpdddafaelbgkaa.Memo.regions (Go.Proofs.Ytpdddafaelbgkaa.memWrite x_20 x_21 x_22))) ∧
 (((Go.Proofs.Ytpdddafaelbgkaa.memBd x_20) ∧
 (((Go.Proofs.Ytpdddafaelbgkaa.mayW x_20 x_21 x_22) = true) ∧
 (((0 : Int) ≤ x_23) ∧
 ((x_23 ≤ (@Nat.cast Int _ (List.length (Go.Proofs.Ytpdddafaelbgkaa.Memo.regions x_20)))) ∧
 ((x_24 = true) ∨ ((Go.Proofs.Ytpdddafaelbgkaa.anyW x_21 (List.drop (Int.toNat x_23) (Go.Proofs.Ytpdddafaelbgkaa.Memo.regions x_20))) = true)))))) ∧
 True)))))))))))))))) ∧
 (∀ (x_25 : Go.Proofs.Ytpdddafaelbgkaa.Memo), (∀ (x_26 : Int), (∀ (x_27 : Int), (∀ (x_28 : Int), (∀ (x_29 : Bool), (((Go.Proofs.Ytpdddafaelbgkaa.memBd x_25) ∧
 (((Go.Proofs.Ytpdddafaelbgkaa.mayW x_25 x_26 x_27) = true) ∧
 (((0 : Int) ≤ x_28) ∧
 ((x_28 ≤ (@Nat.cast Int _ (List.length (Go.Proofs.Ytpdddafaelbgkaa.Memo.regions x_25)))) ∧
 ((x_29 = true) ∨ ((Go.Proofs.Ytpdddafaelbgkaa.anyW x_26 (List.drop (Int.toNat x_28) (Go.Proofs.Ytpdddafaelbgkaa.Memo.regions x_25))) = true)))))) →
 (((List.length (Go.Proofs.Ytpdddafaelbgkaa.Memo.regions x_25)) ≤ (9223372036854775807 : Nat)) →
 ((((decide (x_28 < (@Nat.cast Int _ (List.length (Go.Proofs.Ytpdddafaelbgkaa.Memo.regions x_25))))) = true) →
 (((x_29 = true) →
 ((((- (9223372036854775808 : Int)) ≤ (x_28 + (1 : Int))) ∧
 ((x_28 + (1 : Int)) ≤ (9223372036854775807 : Int))) ∧
 (∃ (x_30 : Go.Proofs.Ytpdddafaelbgkaa.Memo), (∃ (x_31 : Int), (∃ (x_32 : Int), (∃ (x_33 : Int), (∃ (x_34 : Bool), ((x_26 = x_31) ∧
 ((x_27 = x_32) ∧
 ((true = x_34) ∧
 (((x_28 + (1 : Int)) = x_33) ∧
 (((Go.Proofs.Ytpdddafaelbgkaa.Img.base (Go.Proofs.Ytpdddafaelbgkaa.Memo.what x_25)) = (Go.Proofs.Ytpdddafaelbgkaa.Img.base (Go.Proofs.Ytpdddafaelbgkaa.Memo.what x_30))) ∧
 ((@Eq (List Int) (Go.Proofs.Ytpdddafaelbgkaa.Img.bytes (Go.Proofs.Ytpdddafaelbgkaa.Memo.what x_25)) (Go.Proofs.Ytpdddafaelbgkaa.Img.bytes (Go.Proofs.Ytpdddafaelbgkaa.Memo.what x_30))) ∧
 ((@Eq (List Go.Proofs.Ytpdddafaelbgkaa.Region) (Go.Proofs.Ytpdddafaelbgkaa.Memo.regions x_25) (Go.Proofs.Ytpdddafaelbgkaa.Memo.regions x_30)) ∧
 (((Go.Proofs.Ytpdddafaelbgkaa.Img.base (Go.Proofs.Ytpdddafaelbgkaa.Memo.what (Go.Proofs.Ytpdddafaelbgkaa.memWrite x_25 x_26 x_27))) = (Go.Proofs.Ytpdddafaelbgkaa.Img.base (Go.Proofs.Ytpdddafaelbgkaa.Memo.what (Go.Proofs.Ytpdddafaelbgkaa.memWrite x_30 x_31 x_32)))) ∧
 ((@Eq (List Int) (Go.Proofs.Ytpdddafaelbgkaa.Img.bytes (Go.Proofs.Ytpdddafaelbgkaa.Memo.what (Go.Proofs.Ytpdddafaelbgkaa.memWrite x_25 x_26 x_27))) (Go.Proofs.Ytpdddafaelbgkaa.Img.bytes (Go.Proofs.Ytpdddafaelbgkaa.Memo.what (Go.Proofs.Ytpdddafaelbgkaa.memWrite x_30 x_31 x_32)))) ∧
 ((@Eq (List Go.Proofs.Ytpdddafaelbgkaa.Region) (Go.Proofs.Ytpdddafaelbgkaa.Memo.regions (Go.Proofs.Ytpdddafaelbgkaa.memWrite x_25 x_26 x_27)) (Go.Proofs.Ytpdddafaelbgkaa.Memo.regions (Go.Proofs.Ytpdddafaelbgkaa.memWrite x_30 x_31 x_32))) ∧
 (((Go.Proofs.Ytpdddafaelbgkaa.memBd x_30) ∧
 (((Go.Proofs.Ytpdddafaelbgkaa.mayW x_30 x_31 x_32) = true) ∧
 (((0 : Int) ≤ x_33) ∧
 ((x_33 ≤ (@Nat.cast Int _ (List.length (Go.Proofs.Ytpdddafaelbgkaa.Memo.regions x_30)))) ∧
 ((x_34 = true) ∨ ((Go.Proofs.Ytpdddafaelbgkaa.anyW x_31 (List.drop (Int.toNat x_33) (Go.Proofs.Ytpdddafaelbgkaa.Memo.regions x_30))) = true)))))) ∧
 (((List.length (Go.Proofs.Ytpdddafaelbgkaa.Memo.regions x_30)) - (Int.toNat x_33)) < ((List.length (Go.Proofs.Ytpdddafaelbgkaa.Memo.regions x_25)) - (Int.toNat x_28))))))))))))))))))))) ∧
 ((x_29 = false) →
 ((((0 : Int) ≤ x_28) ∧
 (x_28 < (@Nat.cast Int _ (List.length (Go.Proofs.Ytpdddafaelbgkaa.Memo.regions x_25))))) ∧
 (∀ (x_35 : Go.Proofs.Ytpdddafaelbgkaa.Region), ((@Eq (Option Go.Proofs.Ytpdddafaelbgkaa.Region) ((Go.Proofs.Ytpdddafaelbgkaa.Memo.regions x_25))[(Int.toNat x_28)]? (some x_35)) →
 ((Go.Proofs.Ytpdddafaelbgkaa.Ok (Go.Proofs.Ytpdddafaelbgkaa.Ty.st Go.Proofs.Ytpdddafaelbgkaa.SN.region) x_35) →
 ((((Go.Proofs.Ytpdddafaelbgkaa.Region.write x_35) = true) →
 ((((0 : Int) ≤ x_28) ∧
 (x_28 < (@Nat.cast Int _ (List.length (Go.Proofs.Ytpdddafaelbgkaa.Memo.regions x_25))))) ∧
 (∀ (x_36 : Go.Proofs.Ytpdddafaelbgkaa.Region), ((@Eq (Option Go.Proofs.Ytpdddafaelbgkaa.Region) ((Go.Proofs.Ytpdddafaelbgkaa.Memo.regions x_25))[(Int.toNat x_28)]? (some x_36)) →
 ((Go.Proofs.Ytpdddafaelbgkaa.Ok (Go.Proofs.Ytpdddafaelbgkaa.Ty.st Go.Proofs.Ytpdddafaelbgkaa.SN.region) x_36) →
 ((((decide ((Go.Proofs.Ytpdddafaelbgkaa.Region.from_ x_36) ≤ x_26)) = true) →
 ((((0 : Int) ≤ x_28) ∧
 (x_28 < (@Nat.cast Int _ (List.length (Go.Proofs.Ytpdddafaelbgkaa.Memo.regions x_25))))) ∧
 (∀ (x_37 : Go.Proofs.Ytpdddafaelbgkaa.Region), ((@Eq (Option Go.Proofs.Ytpdddafaelbgkaa.Region) ((Go.Proofs.Ytpdddafaelbgkaa.Memo.regions x_25))[(Int.toNat x_28)]? (some x_37)) →
 ((Go.Proofs.Ytpdddafaelbgkaa.Ok (Go.Proofs.Ytpdddafaelbgkaa.Ty.st Go.Proofs.Ytpdddafaelbgkaa.SN.region) x_37) →
 ((((- (9223372036854775808 : Int)) ≤ (x_28 + (1 : Int))) ∧
 ((x_28 + (1 : Int)) ≤ (9223372036854775807 : Int))) ∧
 (∃ (x_38 : Go.Proofs.Ytpdddafaelbgkaa.Memo), (∃ (x_39 : Int), (∃ (x_40 : Int), (∃ (x_41 : Int), (∃ (x_42 : Bool), ((x_26 = x_39) ∧
 ((x_27 = x_40) ∧
 (((decide (x_26 < (Go.Proofs.Ytpdddafaelbgkaa.Region.to x_37))) = x_42) ∧
 (((x_28 + (1 : Int)) = x_41) ∧
 (((Go.Proofs.Ytpdddafaelbgkaa.Img.base (Go.Proofs.Ytpdddafaelbgkaa.Memo.what x_25)) = (Go.Proofs.Ytpdddafaelbgkaa.Img.base (Go.Proofs.Ytpdddafaelbgkaa.Memo.what x_38))) ∧
 ((@Eq (List Int) (Go.Proofs.Ytpdddafaelbgkaa.Img.bytes (Go.Proofs.Ytpdddafaelbgkaa.Memo.what x_25)) (Go.Proofs.Ytpdddafaelbgkaa.Img.bytes (Go.Proofs.Ytpdddafaelbgkaa.Memo.what x_38))) ∧
 ((@Eq (List Go.Proofs.Ytpdddafaelbgkaa.Region) (Go.Proofs.Ytpdddafaelbgkaa.Memo.regions x_25) (Go.Proofs.Ytpdddafaelbgkaa.Memo.regions x_38)) ∧
 (((Go.Proofs.Ytpdddafaelbgkaa.Img.base (Go.Proofs.Ytpdddafaelbgkaa.Memo.what (Go.Proofs.Ytpdddafaelbgkaa.memWrite x_25 x_26 x_27))) = (Go.Proofs.Ytpdddafaelbgkaa.Img.base (Go.Proofs.Ytpdddafaelbgkaa.Memo.what (Go.Proofs.Ytpdddafaelbgkaa.memWrite x_38 x_39 x_40)))) ∧
 ((@Eq (List Int) (Go.Proofs.Ytpdddafaelbgkaa.Img.bytes (Go.Proofs.Ytpdddafaelbgkaa.Memo.what (Go.Proofs.Ytpdddafaelbgkaa.memWrite x_25 x_26 x_27))) (Go.Proofs.Ytpdddafaelbgkaa.Img.bytes (Go.Proofs.Ytpdddafaelbgkaa.Memo.what (Go.Proofs.Ytpdddafaelbgkaa.memWrite x_38 x_39 x_40)))) ∧
 ((@Eq (List Go.Proofs.Ytpdddafaelbgkaa.Region) (Go.Proofs.Ytpdddafaelbgkaa.Memo.regions (Go.Proofs.Ytpdddafaelbgkaa.memWrite x_25 x_26 x_27)) (Go.Proofs.Ytpdddafaelbgkaa.Memo.regions (Go.Proofs.Ytpdddafaelbgkaa.memWrite x_38 x_39 x_40))) ∧
 (((Go.Proofs.Ytpdddafaelbgkaa.memBd x_38) ∧
 (((Go.Proofs.Ytpdddafaelbgkaa.mayW x_38 x_39 x_40) = true) ∧
 (((0 : Int) ≤ x_41) ∧
 ((x_41 ≤ (@Nat.cast Int _ (List.length (Go.Proofs.Ytpdddafaelbgkaa.Memo.regions x_38)))) ∧
 ((x_42 = true) ∨ ((Go.Proofs.Ytpdddafaelbgkaa.anyW x_39 (List.drop (Int.toNat x_41) (Go.Proofs.Ytpdddafaelbgkaa.Memo.regions x_38))) = true)))))) ∧
 (((List.length (Go.Proofs.Ytpdddafaelbgkaa.Memo.regions x_38)) - (Int.toNat x_41)) < ((List.length (Go.Proofs.Ytpdddafaelbgkaa.Memo.regions x_25)) - (Int.toNat x_28))))))))))))))))))))))))) ∧
 (((decide ((Go.Proofs.Ytpdddafaelbgkaa.Region.from_ x_36) ≤ x_26)) = false) →
 ((((- (9223372036854775808 : Int)) ≤ (x_28 + (1 : Int))) ∧
 ((x_28 + (1 : Int)) ≤ (9223372036854775807 : Int))) ∧
 (∃ (x_43 : Go.Proofs.Ytpdddafaelbgkaa.Memo), (∃ (x_44 : Int), (∃ (x_45 : Int), (∃ (x_46 : Int), (∃ (x_47 : Bool), ((x_26 = x_44) ∧
 ((x_27 = x_45) ∧
 ((false = x_47) ∧
 (((x_28 + (1 : Int)) = x_46) ∧
 (((Go.Proofs.Ytpdddafaelbgkaa.Img.base (Go.Proofs.Ytpdddafaelbgkaa.Memo.what x_25)) = (Go.Proofs.Ytpdddafaelbgkaa.Img.base (Go.Proofs.Ytpdddafaelbgkaa.Memo.what x_43))) ∧
 ((@Eq (List Int) (Go.Proofs.Ytpdddafaelbgkaa.Img.bytes (Go.Proofs.Ytpdddafaelbgkaa.Memo.what x_25)) (Go.Proofs.Ytpdddafaelbgkaa.Img.bytes (Go.Proofs.Ytpdddafaelbgkaa.Memo.what x_43))) ∧
 ((@Eq (List Go.Proofs.Ytpdddafaelbgkaa.Region) (Go.Proofs.Ytpdddafaelbgkaa.Memo.regions x_25) (Go.Proofs.Ytpdddafaelbgkaa.Memo.regions x_43)) ∧
 (((Go.Proofs.Ytpdddafaelbgkaa.Img.base (Go.Proofs.Ytpdddafaelbgkaa.Memo.what (Go.Proofs.Ytpdddafaelbgkaa.memWrite x_25 x_26 x_27))) = (Go.Proofs.Ytpdddafaelbgkaa.Img.base (Go.Proofs.Ytpdddafaelbgkaa.Memo.what (Go.Proofs.Ytpdddafaelbgkaa.memWrite x_43 x_44 x_45)))) ∧
 ((@Eq (List Int) (Go.Proofs.Ytpdddafaelbgkaa.Img.bytes (Go.Proofs.Ytpdddafaelbgkaa.Memo.what (Go.Proofs.Ytpdddafaelbgkaa.memWrite x_25 x_26 x_27))) (Go.Proofs.Ytpdddafaelbgkaa.Img.bytes (Go.Proofs.Ytpdddafaelbgkaa.Memo.what (Go.Proofs.Ytpdddafaelbgkaa.memWrite x_43 x_44 x_45)))) ∧
 ((@Eq (List Go.Proofs.Ytpdddafaelbgkaa.Region) (Go.Proofs.Ytpdddafaelbgkaa.Memo.regions (Go.Proofs.Ytpdddafaelbgkaa.memWrite x_25 x_26 x_27)) (Go.Proofs.Ytpdddafaelbgkaa.Memo.regions (Go.Proofs.Ytpdddafaelbgkaa.memWrite x_43 x_44 x_45))) ∧
 (((Go.Proofs.Ytpdddafaelbgkaa.memBd x_43) ∧
 (((Go.Proofs.Ytpdddafaelbgkaa.mayW x_43 x_44 x_45) = true) ∧
 (((0 : Int) ≤ x_46) ∧
 ((x_46 ≤ (@Nat.cast Int _ (List.length (Go.Proofs.Ytpdddafaelbgkaa.Memo.regions x_43)))) ∧
 ((x_47 = true) ∨ ((Go.Proofs.Ytpdddafaelbgkaa.anyW x_44 (List.drop (Int.toNat x_46) (Go.Proofs.Ytpdddafaelbgkaa.Memo.regions x_43))) = true)))))) ∧
 (((List.length (Go.Proofs.Ytpdddafaelbgkaa.Memo.regions x_43)) - (Int.toNat x_46)) < ((List.length (Go.Proofs.Ytpdddafaelbgkaa.Memo.regions x_25)) - (Int.toNat x_28))))))))))))))))))))))))))) ∧
 (((Go.Proofs.Ytpdddafaelbgkaa.Region.write x_35) = false) →
 ((((- (9223372036854775808 : Int)) ≤ (x_28 + (1 : Int))) ∧
 ((x_28 + (1 : Int)) ≤ (9223372036854775807 : Int))) ∧
 (∃ (x_48 : Go.Proofs.Ytpdddafaelbgkaa.Memo), (∃ (x_49 : Int), (∃ (x_50 : Int), (∃ (x_51 : Int), (∃ (x_52 : Bool), ((x_26 = x_49) ∧
 ((x_27 = x_50) ∧
 ((false = x_52) ∧
 (((x_28 + (1 : Int)) = x_51) ∧
 (((Go.Proofs.Ytpdddafaelbgkaa.Img.base (Go.Proofs.Ytpdddafaelbgkaa.Memo.what x_25)) = (Go.Proofs.Ytpdddafaelbgkaa.Img.base (Go.Proofs.Ytpdddafaelbgkaa.Memo.what x_48))) ∧
 ((@Eq (List Int) (Go.Proofs.Ytpdddafaelbgkaa.Img.bytes (Go.Proofs.Ytpdddafaelbgkaa.Memo.what x_25)) (Go.Proofs.Ytpdddafaelbgkaa.Img.bytes (Go.Proofs.Ytpdddafaelbgkaa.Memo.what x_48))) ∧
 ((@Eq (List Go.Proofs.Ytpdddafaelbgkaa.Region) (Go.Proofs.Ytpdddafaelbgkaa.Memo.regions x_25) (Go.Proofs.Ytpdddafaelbgkaa.Memo.regions x_48)) ∧
 (((Go.Proofs.Ytpdddafaelbgkaa.Img.base (Go.Proofs.Ytpdddafaelbgkaa.Memo.what (Go.Proofs.Ytpdddafaelbgkaa.memWrite x_25 x_26 x_27))) = (Go.Proofs.Ytpdddafaelbgkaa.Img.base (Go.Proofs.Ytpdddafaelbgkaa.Memo.what (Go.Proofs.Ytpdddafaelbgkaa.memWrite x_48 x_49 x_50)))) ∧
 ((@Eq (List Int) (Go.Proofs.Ytpdddafaelbgkaa.Img.bytes (Go.Proofs.Ytpdddafaelbgkaa.Memo.what (Go.Proofs.Ytpdddafaelbgkaa.memWrite x_25 x_26 x_27))) (Go.Proofs.Ytpdddafaelbgkaa.Img.bytes (Go.Proofs.Ytpdddafaelbgkaa.Memo.what (Go.Proofs.Ytpdddafaelbgkaa.memWrite x_48 x_49 x_50)))) ∧
 ((@Eq (List Go.Proofs.Ytpdddafaelbgkaa.Region) (Go.Proofs.Ytpdddafaelbgkaa.Memo.regions (Go.Proofs.Ytpdddafaelbgkaa.memWrite x_25 x_26 x_27)) (Go.Proofs.Ytpdddafaelbgkaa.Memo.regions (Go.Proofs.Ytpdddafaelbgkaa.memWrite x_48 x_49 x_50))) ∧
 (((Go.Proofs.Ytpdddafaelbgkaa.memBd x_48) ∧
 (((Go.Proofs.Ytpdddafaelbgkaa.mayW x_48 x_49 x_50) = true) ∧
 (((0 : Int) ≤ x_51) ∧
 ((x_51 ≤ (@Nat.cast Int _ (List.length (Go.Proofs.Ytpdddafaelbgkaa.Memo.regions x_48)))) ∧
 ((x_52 = true) ∨ ((Go.Proofs.Ytpdddafaelbgkaa.anyW x_49 (List.drop (Int.toNat x_51) (Go.Proofs.Ytpdddafaelbgkaa.Memo.regions x_48))) = true)))))) ∧
 (((List.length (Go.Proofs.Ytpdddafaelbgkaa.Memo.regions x_48)) - (Int.toNat x_51)) < ((List.length (Go.Proofs.Ytpdddafaelbgkaa.Memo.regions x_25)) - (Int.toNat x_28))))))))))))))))))))))))))))) ∧
 (((decide (x_28 < (@Nat.cast Int _ (List.length (Go.Proofs.Ytpdddafaelbgkaa.Memo.regions x_25))))) = false) →
 ((((decide ((Go.Proofs.Ytpdddafaelbgkaa.memRead (Go.Proofs.Ytpdddafaelbgkaa.memWrite x_25 x_26 x_27) x_26) = x_27)) = true) →
 ((x_29 = true) ∧
 True)) ∧
 (((decide ((Go.Proofs.Ytpdddafaelbgkaa.memRead (Go.Proofs.Ytpdddafaelbgkaa.memWrite x_25 x_26 x_27) x_26) = x_27)) = false) →
 ((false = true) ∧
 True))))))))))))))))))))))))))))))))))))))) := by kernel_rfl
theorem det_laws_FnMemoryWrite : C_laws_FnMemoryWrite.det = true → ∀ x, (C_laws_FnMemoryWrite.out x).Det := fun _ x => by simp only [C_laws_FnMemoryWrite]; repeat (first | exact Det.ret _ | exact Det.vc' | apply Det.req | apply Det.giv | apply Det.fork | apply Det.bif' | intro _)
set_option maxRecDepth 200000 in
set_option maxHeartbeats 1000000 in
theorem ok_laws_FnMemoryWrite : ConOK Try.prog 15 C_laws_FnMemoryWrite := by
  refine con_mk (wr := false) (ty := tyL [(3, .i), (5, .u), (4, .bool), (9, .str), (163, .int .u64), (71, .st .fixup), (24, .st .img), (39, .st .region), (35, .st .mem), (30, .st .patch), (94, .st .hash), (92, .list .i), (90, .list .str), (22, .list .u), (67, .st .fixup), (52, .st .img), (149, .st .region), (55, .st .mem), (101, .st .hash)]) (l := [(69, C_spec_DrawMemoryWrite), (70, C_impl_MemoryWrite), (71, C_spec_MemoryWrite), (72, C_laws_sameMemory), (27, C_laws_alive), (59, C_impl_MemoryRead)]) ⟨⟨ok_spec_DrawMemoryWrite, det_spec_DrawMemoryWrite⟩, ⟨⟨ok_impl_MemoryWrite, det_impl_MemoryWrite⟩, ⟨⟨ok_spec_MemoryWrite, det_spec_MemoryWrite⟩, ⟨⟨ok_laws_sameMemory, det_laws_sameMemory⟩, ⟨⟨ok_laws_alive, det_laws_alive⟩, ⟨⟨ok_impl_MemoryRead, det_impl_MemoryRead⟩, trivial⟩⟩⟩⟩⟩⟩ Try.checked.mixed (fn := Try.f15) (body := Try.f15.body.getD .skip) Try.func15 rfl (by decide) (by kernel_rfl) rfl an_laws_FnMemoryWrite fun x ho hx => ?_
  obtain ⟨c, ⟨⟩⟩ := x
  refine Keeps.of (vc_laws_FnMemoryWrite c) ?_
  revert c ho hx
  show ∀ (c : List (Int)), _
  intro c ho hx
  dsimp only [C_laws_FnMemoryWrite, okPTL, okPT, Ok, Ty.cells, SN.cells, OkL, OkC, okI, ci, cb, cs, cl] at ho
  dsimp only [C_laws_FnMemoryWrite, vc, v1, decB, SR.pre] at hx
  simp only [decide_eq_true_eq, decide_eq_false_iff_not, Bool.not_eq_true', Bool.not_eq_false', and_true, true_and, Int.toNat_natCast, exists_eq_left', exists_eq_left, exists_and_left, Int.not_lt, Int.not_le, Bool.false_eq_true, false_implies, implies_true, forall_const, List.length_append, List.length_cons, List.length_nil, Int.sub_add_cancel, Int.add_sub_cancel, and_imp, get_set_iff, forall_eq', forall_eq, List.set_set, mkd_get, mkd_len, List.length_set, Option.some.injEq]; (repeat' first | intro _ | apply And.intro); all_goals (try omega); all_goals (try have hdr := drop_get' (by assumption) (by assumption)); all_goals grind [read_other, read_write, may_any, anyW_cons, anyW_nil, inReg, drop_end, → mem_lens, write_no, write_bad]

set_option maxRecDepth 100000 in
theorem lifted_FnMemoryWrite (os : Os) (started : os.Started) (H : Type) (enc : TypeId × Value → H) :
    ReturnsInHanded {} Try.checked os 15 .any (Rows.fnMemoryWriteSpec.pre6 enc Try.prog Try.f15 Rows.fnMemoryWriteRow.domain false) (Rows.fnMemoryWriteSpec.post enc Try.prog Try.f15 false true false false) := by
  refine returnsInHanded_of_change (C := Try.checked) head_own started (by kernel_rfl) Try.func15
    (ChangeSpec.witness6 (enc := enc) (C := Try.checked) false ⟨#[], #[.slice none 0 0], []⟩ 8 (by kernel_rfl) (by kernel_rfl) (by kernel_rfl) (by kernel_rfl)) ?_
  intro W base args ds gs before hval0 hW _ _
  have hval : ∀ (j : Nat) t v, Try.f15.params[j]? = some t → args[j]? = some v → Value.okWide Try.prog W .any base t v := hval0
  have hW' := hW
  obtain ⟨p, q, hA0, hV, rfl, hfz, hnd⟩ := hW
  have hA : DataW.TrodAll enc Try.prog W 0 (fun _ => true) true Try.f15.params.toList args.toList ds p := hA0
  rw [Try.params15] at hA hval
  obtain ⟨v0, vs0, d0, ds0, p0, q0, hargs, rfl, rfl, h0, r0⟩ := trodAll_cons hA
  obtain ⟨rfl, rfl, rfl⟩ := trodAll_nil r0
  obtain rfl : args = #[v0] := by cases args; simp_all
  obtain ⟨rfl, rfl⟩ := trodVars_none hV
  have k0 := h0
  obtain ⟨x0, g0⟩ := open_slice1 Try.underlying22 rd_uL (hval 0 22 v0 rfl rfl) h0
  clear hA0 hval0 hval
  refine (law_calls ok_laws_FnMemoryWrite (x0, ()) rfl rfl (W := W) (vals := [v0]) ⟨g0, trivial⟩).mono fun e W' ⟨he, bel⟩ => ?_
  subst he
  exact ⟨_, rfl, _, _, _, [], _, [], hW', trodAll_mk1 (shut_bool Try.underlying4 _), (trodAll_cons_mk (Below.trod head_laid (by kernel_rfl) (of_decide_eq_true (by kernel_rfl)) k0 bel (trod_lt_ k0)) trodAll_mk0), rfl, bel.frame _, fun h => by cases h⟩

theorem over_FnMemoryWrite : Rows.fnMemoryWriteRow.holds Try.pinned (OpenSpec.ofChange Rows.fnMemoryWriteSpec) :=
  OpenClaim.holds_of_wide 15 Try.f15 rfl rfl rfl rfl rfl rfl rfl ⟨rfl, rfl, rfl, rfl, rfl⟩ rfl rfl rfl rfl rfl (by kernel_rfl) Try.func15 (joined_of head_laid head_rowed head_stops head_stopk head_heard head_enter (show (Rows.fnMemoryWriteRow.lifted == Try.prog.liftsFinal) = true by rw [head_final]; rfl) (show (Try.prog.make == some Rows.fnMemoryWriteRow.make) = true by rw [head_make]; rfl) (by kernel_rfl))
    (of_decide_eq_true (by kernel_rfl)) (by unfold Func.isWrapper; first | (rw [if_pos (by decide +kernel)]; kernel_rfl) | (rw [if_neg (by decide +kernel)]; exact ⟨rfl, rfl⟩))
    (fun os started H enc _ => lifted_FnMemoryWrite os started H enc)

theorem proved_FnMemoryWrite : Rows.FnMemoryWriteSaid := over_FnMemoryWrite
#print axioms proved_FnMemoryWrite

def C_laws_FnWriteTwice : Con := { ps := [.ro (.list .u)], out := fun x => let c : List (Int) := x.1; vc .bool true, det := true }
def G_laws_FnWriteTwice : Cfg := mkG (tyL [(3, .i), (5, .u), (4, .bool), (9, .str), (163, .int .u64), (71, .st .fixup), (24, .st .img), (39, .st .region), (35, .st .mem), (30, .st .patch), (94, .st .hash), (92, .list .i), (90, .list .str), (22, .list .u), (67, .st .fixup), (52, .st .img), (149, .st .region), (55, .st .mem), (101, .st .hash)]) [(69, C_spec_DrawMemoryWrite), (70, C_impl_MemoryWrite), (71, C_spec_MemoryWrite), (72, C_laws_sameMemory), (27, C_laws_alive), (59, C_impl_MemoryRead)] false
def an_laws_FnWriteTwice : PTL C_laws_FnWriteTwice.ps → Nat → Option Ann := fun _ _ => none
set_option maxRecDepth 200000 in
theorem vc_laws_FnWriteTwice (c : List (Int)) : (keeps Try.prog G_laws_FnWriteTwice (an_laws_FnWriteTwice (c, ())) (Try.f16.body.getD .skip) Try.f16.results.toList C_laws_FnWriteTwice (c, ())) = ((((List.length c) ≤ (9223372036854775807 : Nat)) →
 ((((decide ((1048576 : Int) < (@Nat.cast Int _ (List.length c)))) = true) →
 ((true = true) ∧
 True)) ∧
 (((decide ((1048576 : Int) < (@Nat.cast Int _ (List.length c)))) = false) →
 (∀ (x_1 : Go.Proofs.Ytpdddafaelbgkaa.Memo), (∀ (x_2 : Int), (∀ (x_3 : Int), (((Go.Proofs.Ytpdddafaelbgkaa.memBd x_1) ∧
 (((- (100 : Int)) ≤ x_2) ∧
 ((x_2 ≤ (5000 : Int)) ∧
 (((- (1 : Int)) ≤ x_3) ∧
 (x_3 ≤ (256 : Int)))))) →
 ((((List.length (Go.Proofs.Ytpdddafaelbgkaa.Img.bytes (Go.Proofs.Ytpdddafaelbgkaa.Memo.what x_1))) ≤ (1048576 : Nat)) ∧
 ((List.length (Go.Proofs.Ytpdddafaelbgkaa.Memo.regions x_1)) ≤ (1048576 : Nat))) ∧
 ((((List.length (Go.Proofs.Ytpdddafaelbgkaa.Img.bytes (Go.Proofs.Ytpdddafaelbgkaa.Memo.what x_1))) ≤ (1048576 : Nat)) ∧
 ((List.length (Go.Proofs.Ytpdddafaelbgkaa.Memo.regions x_1)) ≤ (1048576 : Nat))) ∧
 ((((Bool.not (decide (@Eq Go.Proofs.Ytpdddafaelbgkaa.Memo (Go.Proofs.Ytpdddafaelbgkaa.memWrite x_1 x_2 x_3) (Go.Proofs.Ytpdddafaelbgkaa.memWrite x_1 x_2 x_3)))) = true) →
 ((false = true) ∧
 True)) ∧
 (((Bool.not (decide (@Eq Go.Proofs.Ytpdddafaelbgkaa.Memo (Go.Proofs.Ytpdddafaelbgkaa.memWrite x_1 x_2 x_3) (Go.Proofs.Ytpdddafaelbgkaa.memWrite x_1 x_2 x_3)))) = false) →
 ((((decide ((Go.Proofs.Ytpdddafaelbgkaa.mayW x_1 x_2 x_3) ≠ (Go.Proofs.Ytpdddafaelbgkaa.mayW x_1 x_2 x_3))) = true) →
 ((false = true) ∧
 True)) ∧
 (((decide ((Go.Proofs.Ytpdddafaelbgkaa.mayW x_1 x_2 x_3) ≠ (Go.Proofs.Ytpdddafaelbgkaa.mayW x_1 x_2 x_3))) = false) →
 ((((Bool.not (Go.Proofs.Ytpdddafaelbgkaa.mayW x_1 x_2 x_3)) = true) →
 ((true = true) ∧
 True)) ∧
 (((Bool.not (Go.Proofs.Ytpdddafaelbgkaa.mayW x_1 x_2 x_3)) = false) →
 ((((List.length (Go.Proofs.Ytpdddafaelbgkaa.Img.bytes (Go.Proofs.Ytpdddafaelbgkaa.Memo.what (Go.Proofs.Ytpdddafaelbgkaa.memWrite x_1 x_2 x_3)))) ≤ (1048576 : Nat)) ∧
 ((List.length (Go.Proofs.Ytpdddafaelbgkaa.Memo.regions (Go.Proofs.Ytpdddafaelbgkaa.memWrite x_1 x_2 x_3))) ≤ (1048576 : Nat))) ∧
 ((((List.length (Go.Proofs.Ytpdddafaelbgkaa.Img.bytes (Go.Proofs.Ytpdddafaelbgkaa.Memo.what x_1))) ≤ (1048576 : Nat)) ∧
 ((List.length (Go.Proofs.Ytpdddafaelbgkaa.Memo.regions x_1)) ≤ (1048576 : Nat))) ∧
 ((((Go.Proofs.Ytpdddafaelbgkaa.mayW (Go.Proofs.Ytpdddafaelbgkaa.memWrite x_1 x_2 x_3) x_2 (77 : Int)) = true) →
 ((((Go.Proofs.Ytpdddafaelbgkaa.mayW x_1 x_2 (77 : Int)) = true) →
 ((((decide ((Go.Proofs.Ytpdddafaelbgkaa.memRead (Go.Proofs.Ytpdddafaelbgkaa.memWrite (Go.Proofs.Ytpdddafaelbgkaa.memWrite x_1 x_2 x_3) x_2 (77 : Int)) x_2) = (77 : Int))) = true) →
 (((decide (@Eq Go.Proofs.Ytpdddafaelbgkaa.Memo (Go.Proofs.Ytpdddafaelbgkaa.memWrite (Go.Proofs.Ytpdddafaelbgkaa.memWrite x_1 x_2 x_3) x_2 (77 : Int)) (Go.Proofs.Ytpdddafaelbgkaa.memWrite x_1 x_2 (77 : Int)))) = true) ∧
 True)) ∧
 (((decide ((Go.Proofs.Ytpdddafaelbgkaa.memRead (Go.Proofs.Ytpdddafaelbgkaa.memWrite (Go.Proofs.Ytpdddafaelbgkaa.memWrite x_1 x_2 x_3) x_2 (77 : Int)) x_2) = (77 : Int))) = false) →
 ((false = true) ∧
 True)))) ∧
 (((Go.Proofs.Ytpdddafaelbgkaa.mayW x_1 x_2 (77 : Int)) = false) →
 ((false = true) ∧
 True)))) ∧
 (((Go.Proofs.Ytpdddafaelbgkaa.mayW (Go.Proofs.Ytpdddafaelbgkaa.memWrite x_1 x_2 x_3) x_2 (77 : Int)) = false) →
 ((false = true) ∧
 True))))))))))))))))))))) := by kernel_rfl
theorem det_laws_FnWriteTwice : C_laws_FnWriteTwice.det = true → ∀ x, (C_laws_FnWriteTwice.out x).Det := fun _ x => by simp only [C_laws_FnWriteTwice]; repeat (first | exact Det.ret _ | exact Det.vc' | apply Det.req | apply Det.giv | apply Det.fork | apply Det.bif' | intro _)
set_option maxRecDepth 200000 in
set_option maxHeartbeats 1000000 in
theorem ok_laws_FnWriteTwice : ConOK Try.prog 16 C_laws_FnWriteTwice := by
  refine con_mk (wr := false) (ty := tyL [(3, .i), (5, .u), (4, .bool), (9, .str), (163, .int .u64), (71, .st .fixup), (24, .st .img), (39, .st .region), (35, .st .mem), (30, .st .patch), (94, .st .hash), (92, .list .i), (90, .list .str), (22, .list .u), (67, .st .fixup), (52, .st .img), (149, .st .region), (55, .st .mem), (101, .st .hash)]) (l := [(69, C_spec_DrawMemoryWrite), (70, C_impl_MemoryWrite), (71, C_spec_MemoryWrite), (72, C_laws_sameMemory), (27, C_laws_alive), (59, C_impl_MemoryRead)]) ⟨⟨ok_spec_DrawMemoryWrite, det_spec_DrawMemoryWrite⟩, ⟨⟨ok_impl_MemoryWrite, det_impl_MemoryWrite⟩, ⟨⟨ok_spec_MemoryWrite, det_spec_MemoryWrite⟩, ⟨⟨ok_laws_sameMemory, det_laws_sameMemory⟩, ⟨⟨ok_laws_alive, det_laws_alive⟩, ⟨⟨ok_impl_MemoryRead, det_impl_MemoryRead⟩, trivial⟩⟩⟩⟩⟩⟩ Try.checked.mixed (fn := Try.f16) (body := Try.f16.body.getD .skip) Try.func16 rfl (by decide) (by kernel_rfl) rfl an_laws_FnWriteTwice fun x ho hx => ?_
  obtain ⟨c, ⟨⟩⟩ := x
  refine Keeps.of (vc_laws_FnWriteTwice c) ?_
  revert c ho hx
  show ∀ (c : List (Int)), _
  intro c ho hx
  dsimp only [C_laws_FnWriteTwice, okPTL, okPT, Ok, Ty.cells, SN.cells, OkL, OkC, okI, ci, cb, cs, cl] at ho
  dsimp only [C_laws_FnWriteTwice, vc, v1, decB, SR.pre] at hx
  simp only [decide_eq_true_eq, decide_eq_false_iff_not, Bool.not_eq_true', Bool.not_eq_false', and_true, true_and, Int.toNat_natCast, exists_eq_left', exists_eq_left, exists_and_left, Int.not_lt, Int.not_le, Bool.false_eq_true, false_implies, implies_true, forall_const, List.length_append, List.length_cons, List.length_nil, Int.sub_add_cancel, Int.add_sub_cancel, and_imp, get_set_iff, forall_eq', forall_eq, List.set_set, mkd_get, mkd_len, List.length_set, Option.some.injEq]; (repeat' first | intro _ | apply And.intro); all_goals (try omega); all_goals grind [read_write, write_may, may_val, write_again, write_parts, → mem_lens]

set_option maxRecDepth 100000 in
theorem lifted_FnWriteTwice (os : Os) (started : os.Started) (H : Type) (enc : TypeId × Value → H) :
    ReturnsInHanded {} Try.checked os 16 .any (Rows.fnWriteTwiceSpec.pre6 enc Try.prog Try.f16 Rows.fnWriteTwiceRow.domain false) (Rows.fnWriteTwiceSpec.post enc Try.prog Try.f16 false true false false) := by
  refine returnsInHanded_of_change (C := Try.checked) head_own started (by kernel_rfl) Try.func16
    (ChangeSpec.witness6 (enc := enc) (C := Try.checked) false ⟨#[], #[.slice none 0 0], []⟩ 8 (by kernel_rfl) (by kernel_rfl) (by kernel_rfl) (by kernel_rfl)) ?_
  intro W base args ds gs before hval0 hW _ _
  have hval : ∀ (j : Nat) t v, Try.f16.params[j]? = some t → args[j]? = some v → Value.okWide Try.prog W .any base t v := hval0
  have hW' := hW
  obtain ⟨p, q, hA0, hV, rfl, hfz, hnd⟩ := hW
  have hA : DataW.TrodAll enc Try.prog W 0 (fun _ => true) true Try.f16.params.toList args.toList ds p := hA0
  rw [Try.params16] at hA hval
  obtain ⟨v0, vs0, d0, ds0, p0, q0, hargs, rfl, rfl, h0, r0⟩ := trodAll_cons hA
  obtain ⟨rfl, rfl, rfl⟩ := trodAll_nil r0
  obtain rfl : args = #[v0] := by cases args; simp_all
  obtain ⟨rfl, rfl⟩ := trodVars_none hV
  have k0 := h0
  obtain ⟨x0, g0⟩ := open_slice1 Try.underlying22 rd_uL (hval 0 22 v0 rfl rfl) h0
  clear hA0 hval0 hval
  refine (law_calls ok_laws_FnWriteTwice (x0, ()) rfl rfl (W := W) (vals := [v0]) ⟨g0, trivial⟩).mono fun e W' ⟨he, bel⟩ => ?_
  subst he
  exact ⟨_, rfl, _, _, _, [], _, [], hW', trodAll_mk1 (shut_bool Try.underlying4 _), (trodAll_cons_mk (Below.trod head_laid (by kernel_rfl) (of_decide_eq_true (by kernel_rfl)) k0 bel (trod_lt_ k0)) trodAll_mk0), rfl, bel.frame _, fun h => by cases h⟩

theorem over_FnWriteTwice : Rows.fnWriteTwiceRow.holds Try.pinned (OpenSpec.ofChange Rows.fnWriteTwiceSpec) :=
  OpenClaim.holds_of_wide 16 Try.f16 rfl rfl rfl rfl rfl rfl rfl ⟨rfl, rfl, rfl, rfl, rfl⟩ rfl rfl rfl rfl rfl (by kernel_rfl) Try.func16 (joined_of head_laid head_rowed head_stops head_stopk head_heard head_enter (show (Rows.fnWriteTwiceRow.lifted == Try.prog.liftsFinal) = true by rw [head_final]; rfl) (show (Try.prog.make == some Rows.fnWriteTwiceRow.make) = true by rw [head_make]; rfl) (by kernel_rfl))
    (of_decide_eq_true (by kernel_rfl)) (by unfold Func.isWrapper; first | (rw [if_pos (by decide +kernel)]; kernel_rfl) | (rw [if_neg (by decide +kernel)]; exact ⟨rfl, rfl⟩))
    (fun os started H enc _ => lifted_FnWriteTwice os started H enc)

theorem proved_FnWriteTwice : Rows.FnWriteTwiceSaid := over_FnWriteTwice
#print axioms proved_FnWriteTwice

end Go.Proofs.Ytpdddafaelbgkaa
