/- The laws on hash tables. -/
import Derived.Test.YtjlgnbdncbcnjaaDrawH
import Derived.Test.YtjlgnbdncbcnjaaSame
import Derived.Test.YtjlgnbdncbcnjaaFamC
import Derived.Test.YtjlgnbdncbcnjaaHead
set_option linter.unusedVariables false
set_option linter.unusedSimpArgs false
namespace Go.Proofs.Ytjlgnbdncbcnjaa
open Go Go.RowKit Go.ChangeShapes Go.WideShapes Go.Deep


theorem mkHash_z {l : List ByteArray} {b : Int} (h : ((mkHash l b).first.length : Int) = 0) : (mkHash l b).names.length = 0 ∧ (mkHash l b).next.length = 0 := by
  cases ho : hashOk l b with
  | true => have := mkHash_yes ho; omega
  | false => rw [mkHash_no ho]; exact ⟨rfl, rfl⟩
theorem mkHash_ok {l : List ByteArray} {b : Int} (h : ¬ ((mkHash l b).first.length : Int) = 0) : hashOk l b = true := by
  cases ho : hashOk l b with
  | true => rfl
  | false => rw [mkHash_no ho] at h; exact absurd rfl h
theorem mkHash_sz (l : List ByteArray) (b : Int) : (mkHash l b).names.length ≤ l.length ∧ (mkHash l b).first.length ≤ 8 ∧ (mkHash l b).next.length ≤ l.length := by
  cases ho : hashOk l b with
  | true => have := mkHash_yes ho; rw [this.1]; omega
  | false => rw [mkHash_no ho]; simp
def C_laws_FnMakeHash : Con := { ps := [.ro (.list .u)], out := fun x => let c : List (Int) := x.1; vc .bool true, det := true }
def G_laws_FnMakeHash : Cfg := mkG (tyL [(3, .i), (5, .u), (4, .bool), (9, .str), (80, .int .u64), (26, .st .hash), (24, .list .i), (22, .list .str), (38, .list .u), (33, .st .hash)]) [(22, C_spec_DrawMakeHash), (12, C_impl_MakeHash), (10, C_spec_MakeHash), (23, C_laws_sameHash), (24, C_laws_alive), (25, C_impl_FindHash), (21, C_impl_HashValid)] false
def an_laws_FnMakeHash : PTL C_laws_FnMakeHash.ps → Nat → Option Ann := fun x kk_ => let c : List (Int) := x.1; if kk_ = 10 then some (.all (List ByteArray) fun l => .all (Int) fun b => .all (Int) fun k => .giv (hashOk l b = true ∧ 0 ≤ k ∧ k ≤ l.length ∧ l.length ≤ 10) (.mk [(3, al .str l), (4, ai b), (5, aref 30), (6, ai k)] [(30, bx (ast .hash (mkHash l b)))] ((l.length - k.toNat)))) else none
set_option maxRecDepth 200000 in
theorem vc_laws_FnMakeHash (c : List (Int)) : (keeps Try.prog G_laws_FnMakeHash (an_laws_FnMakeHash (c, ())) (Try.f5.body.getD .skip) Try.f5.results.toList C_laws_FnMakeHash (c, ())) = ((((List.length c) ≤ (9223372036854775807 : Nat)) →
 ((((decide ((1048576 : Int) < (@Nat.cast Int _ (List.length c)))) = true) →
 ((true = true) ∧
 True)) ∧
 (((decide ((1048576 : Int) < (@Nat.cast Int _ (List.length c)))) = false) →
 (∀ (x_1 : (List ByteArray)), (∀ (x_2 : Int), (((List.length x_1) ≤ (10 : Nat)) →
 ((((Bool.not (decide (@Eq HashT (mkHash x_1 x_2) (mkHash x_1 x_2)))) = true) →
 ((false = true) ∧
 True)) ∧
 (((Bool.not (decide (@Eq HashT (mkHash x_1 x_2) (mkHash x_1 x_2)))) = false) →
 (((List.length (HashT.first (mkHash x_1 x_2))) ≤ (9223372036854775807 : Nat)) →
 ((((decide ((@Nat.cast Int _ (List.length (HashT.first (mkHash x_1 x_2)))) = (0 : Int))) = true) →
 (((List.length (HashT.names (mkHash x_1 x_2))) ≤ (9223372036854775807 : Nat)) →
 ((((decide ((@Nat.cast Int _ (List.length (HashT.names (mkHash x_1 x_2)))) = (0 : Int))) = true) →
 (((List.length (HashT.next (mkHash x_1 x_2))) ≤ (9223372036854775807 : Nat)) →
 ((((decide ((@Nat.cast Int _ (List.length (HashT.next (mkHash x_1 x_2)))) = (0 : Int))) = true) →
 ((true = true) ∧
 True)) ∧
 (((decide ((@Nat.cast Int _ (List.length (HashT.next (mkHash x_1 x_2)))) = (0 : Int))) = false) →
 ((false = true) ∧
 True))))) ∧
 (((decide ((@Nat.cast Int _ (List.length (HashT.names (mkHash x_1 x_2)))) = (0 : Int))) = false) →
 ((false = true) ∧
 True))))) ∧
 (((decide ((@Nat.cast Int _ (List.length (HashT.first (mkHash x_1 x_2)))) = (0 : Int))) = false) →
 ((∃ (x_3 : (List ByteArray)), (∃ (x_4 : Int), (∃ (x_5 : Int), ((@Eq (List ByteArray) x_1 x_3) ∧
 ((x_2 = x_4) ∧
 (((0 : Int) = x_5) ∧
 ((@Eq (List ByteArray) (HashT.names (mkHash x_1 x_2)) (HashT.names (mkHash x_3 x_4))) ∧
 ((@Eq (List Int) (HashT.first (mkHash x_1 x_2)) (HashT.first (mkHash x_3 x_4))) ∧
 ((@Eq (List Int) (HashT.next (mkHash x_1 x_2)) (HashT.next (mkHash x_3 x_4))) ∧
 ((((hashOk x_3 x_4) = true) ∧
 (((0 : Int) ≤ x_5) ∧
 ((x_5 ≤ (@Nat.cast Int _ (List.length x_3))) ∧
 ((List.length x_3) ≤ (10 : Nat))))) ∧
 True)))))))))) ∧
 (∀ (x_6 : (List ByteArray)), (∀ (x_7 : Int), (∀ (x_8 : Int), ((((hashOk x_6 x_7) = true) ∧
 (((0 : Int) ≤ x_8) ∧
 ((x_8 ≤ (@Nat.cast Int _ (List.length x_6))) ∧
 ((List.length x_6) ≤ (10 : Nat))))) →
 (((List.length x_6) ≤ (9223372036854775807 : Nat)) →
 ((((decide (x_8 < (@Nat.cast Int _ (List.length x_6)))) = true) →
 ((((0 : Int) ≤ x_8) ∧
 (x_8 < (@Nat.cast Int _ (List.length x_6)))) ∧
 (∀ (x_9 : ByteArray), ((@Eq (Option ByteArray) (x_6)[(Int.toNat x_8)]? (some x_9)) →
 ((Ok Ty.str x_9) →
 ((((decide ((Prod.fst (findH (mkHash x_6 x_7) x_9)) ≠ x_8)) = true) →
 ((false = true) ∧
 True)) ∧
 (((decide ((Prod.fst (findH (mkHash x_6 x_7) x_9)) ≠ x_8)) = false) →
 ((((decide ((Prod.snd (findH (mkHash x_6 x_7) x_9)) < (1 : Int))) = true) →
 ((false = true) ∧
 True)) ∧
 (((decide ((Prod.snd (findH (mkHash x_6 x_7) x_9)) < (1 : Int))) = false) →
 (((List.length x_6) ≤ (9223372036854775807 : Nat)) →
 ((((decide ((@Nat.cast Int _ (List.length x_6)) < (Prod.snd (findH (mkHash x_6 x_7) x_9)))) = true) →
 ((false = true) ∧
 True)) ∧
 (((decide ((@Nat.cast Int _ (List.length x_6)) < (Prod.snd (findH (mkHash x_6 x_7) x_9)))) = false) →
 ((((- (9223372036854775808 : Int)) ≤ (x_8 + (1 : Int))) ∧
 ((x_8 + (1 : Int)) ≤ (9223372036854775807 : Int))) ∧
 (∃ (x_10 : (List ByteArray)), (∃ (x_11 : Int), (∃ (x_12 : Int), ((@Eq (List ByteArray) x_6 x_10) ∧
 ((x_7 = x_11) ∧
 (((x_8 + (1 : Int)) = x_12) ∧
 ((@Eq (List ByteArray) (HashT.names (mkHash x_6 x_7)) (HashT.names (mkHash x_10 x_11))) ∧
 ((@Eq (List Int) (HashT.first (mkHash x_6 x_7)) (HashT.first (mkHash x_10 x_11))) ∧
 ((@Eq (List Int) (HashT.next (mkHash x_6 x_7)) (HashT.next (mkHash x_10 x_11))) ∧
 ((((hashOk x_10 x_11) = true) ∧
 (((0 : Int) ≤ x_12) ∧
 ((x_12 ≤ (@Nat.cast Int _ (List.length x_10))) ∧
 ((List.length x_10) ≤ (10 : Nat))))) ∧
 (((List.length x_10) - (Int.toNat x_12)) < ((List.length x_6) - (Int.toNat x_8)))))))))))))))))))))))))) ∧
 (((decide (x_8 < (@Nat.cast Int _ (List.length x_6)))) = false) →
 ((((hashB (mkHash x_6 x_7)) = true) →
 (((List.length (HashT.first (mkHash x_6 x_7))) ≤ (9223372036854775807 : Nat)) →
 ((((decide ((@Nat.cast Int _ (List.length (HashT.first (mkHash x_6 x_7)))) = x_7)) = true) →
 (((List.length (HashT.next (mkHash x_6 x_7))) ≤ (9223372036854775807 : Nat)) →
 (((List.length x_6) ≤ (9223372036854775807 : Nat)) →
 (((decide ((@Nat.cast Int _ (List.length (HashT.next (mkHash x_6 x_7)))) = (@Nat.cast Int _ (List.length x_6)))) = true) ∧
 True)))) ∧
 (((decide ((@Nat.cast Int _ (List.length (HashT.first (mkHash x_6 x_7)))) = x_7)) = false) →
 ((false = true) ∧
 True))))) ∧
 (((hashB (mkHash x_6 x_7)) = false) →
 ((false = true) ∧
 True))))))))))))))))))))))) := by kernel_rfl
theorem det_laws_FnMakeHash : C_laws_FnMakeHash.det = true → ∀ x, (C_laws_FnMakeHash.out x).Det := fun _ x => by simp only [C_laws_FnMakeHash]; repeat (first | exact Det.ret _ | exact Det.vc' | apply Det.req | apply Det.giv | apply Det.fork | apply Det.bif' | intro _)
set_option maxRecDepth 200000 in
set_option maxHeartbeats 1000000 in
theorem ok_laws_FnMakeHash : ConOK Try.prog 5 C_laws_FnMakeHash := by
  refine con_mk (wr := false) (ty := tyL [(3, .i), (5, .u), (4, .bool), (9, .str), (80, .int .u64), (26, .st .hash), (24, .list .i), (22, .list .str), (38, .list .u), (33, .st .hash)]) (l := [(22, C_spec_DrawMakeHash), (12, C_impl_MakeHash), (10, C_spec_MakeHash), (23, C_laws_sameHash), (24, C_laws_alive), (25, C_impl_FindHash), (21, C_impl_HashValid)]) ⟨⟨ok_spec_DrawMakeHash, det_spec_DrawMakeHash⟩, ⟨⟨ok_impl_MakeHash, det_impl_MakeHash⟩, ⟨⟨ok_spec_MakeHash, det_spec_MakeHash⟩, ⟨⟨ok_laws_sameHash, det_laws_sameHash⟩, ⟨⟨ok_laws_alive, det_laws_alive⟩, ⟨⟨ok_impl_FindHash, det_impl_FindHash⟩, ⟨⟨ok_impl_HashValid, det_impl_HashValid⟩, trivial⟩⟩⟩⟩⟩⟩⟩ Try.checked.mixed (fn := Try.f5) (body := Try.f5.body.getD .skip) Try.func5 rfl (by decide) (by kernel_rfl) rfl an_laws_FnMakeHash fun x ho hx => ?_
  obtain ⟨c, ⟨⟩⟩ := x
  refine Keeps.of (vc_laws_FnMakeHash c) ?_
  revert c ho hx
  show ∀ (c : List (Int)), _
  intro c ho hx
  dsimp only [C_laws_FnMakeHash, okPTL, okPT, Ok, Ty.cells, SN.cells, OkL, OkC, okI, ci, cb, cs, cl] at ho
  dsimp only [C_laws_FnMakeHash, vc, v1, decB, SR.pre] at hx
  have hy := @mkHash_yes
  have hz := @mkHash_z
  have hk := @mkHash_ok
  have hn := @mkHash_no
  have hB := @mkHash_B
  have hf := @find_found
  simp only [decide_eq_true_eq, decide_eq_false_iff_not, Bool.not_eq_true', Bool.not_eq_false', and_true, true_and, and_assoc, Int.toNat_natCast, exists_eq_left', exists_eq_left, exists_and_left, Int.not_lt, Int.not_le, Bool.false_eq_true, false_implies, implies_true, forall_const, List.length_append, List.length_cons, List.length_nil, Int.sub_add_cancel, Int.add_sub_cancel, and_imp, ex_img, ex_mem, ex_fix, ex_pat, ex_hash, ex_obj, ex_sym, ex_sect, ex_member, ex_given, eta_hash, eta_obj, eta_sym, eta_sect, eta_member, eta_given, eta_img, eta_mem, forall_eq', forall_eq]; (repeat' first | apply And.intro | (intro x hq _; replace hq := List.mem_of_getElem? hq; simp only [List.mem_cons, List.not_mem_nil, or_false] at hq) | intro _); all_goals (try omega)
  all_goals (try grind)
def C_laws_FnHashValid : Con := { ps := [.ro (.list .u)], out := fun x => let c : List (Int) := x.1; vc .bool true, det := true }
def G_laws_FnHashValid : Cfg := mkG (tyL [(3, .i), (5, .u), (4, .bool), (9, .str), (80, .int .u64), (26, .st .hash), (24, .list .i), (22, .list .str), (38, .list .u), (33, .st .hash)]) [(26, C_spec_DrawHashValid), (21, C_impl_HashValid), (19, C_spec_HashValid), (12, C_impl_MakeHash), (23, C_laws_sameHash), (24, C_laws_alive)] false
def an_laws_FnHashValid : PTL C_laws_FnHashValid.ps → Nat → Option Ann := fun _ _ => none
set_option maxRecDepth 200000 in
theorem vc_laws_FnHashValid (c : List (Int)) : (keeps Try.prog G_laws_FnHashValid (an_laws_FnHashValid (c, ())) (Try.f6.body.getD .skip) Try.f6.results.toList C_laws_FnHashValid (c, ())) = ((((List.length c) ≤ (9223372036854775807 : Nat)) →
 ((((decide ((1048576 : Int) < (@Nat.cast Int _ (List.length c)))) = true) →
 ((true = true) ∧
 True)) ∧
 (((decide ((1048576 : Int) < (@Nat.cast Int _ (List.length c)))) = false) →
 (∀ (x_1 : HashT), ((((List.length (HashT.names x_1)) ≤ (10 : Nat)) ∧
 (((List.length (HashT.first x_1)) ≤ (10 : Nat)) ∧
 ((List.length (HashT.next x_1)) ≤ (10 : Nat)))) →
 ((((decide ((hashB x_1) ≠ (hashB x_1))) = true) →
 ((false = true) ∧
 True)) ∧
 (((decide ((hashB x_1) ≠ (hashB x_1))) = false) →
 ((((Bool.not (hashB (HashT.mk (HashT.names x_1) ([] : List Int) (HashT.next x_1)))) = true) →
 ((((Bool.not (hashB x_1)) = true) →
 ((true = true) ∧
 True)) ∧
 (((Bool.not (hashB x_1)) = false) →
 (((List.length (HashT.first x_1)) ≤ (9223372036854775807 : Nat)) →
 ((((decide (@Eq HashT (mkHash (HashT.names x_1) (@Nat.cast Int _ (List.length (HashT.first x_1)))) x_1)) = true) →
 ((true = true) ∧
 True)) ∧
 (((decide (@Eq HashT (mkHash (HashT.names x_1) (@Nat.cast Int _ (List.length (HashT.first x_1)))) x_1)) = false) →
 ((false = true) ∧
 True))))))) ∧
 (((Bool.not (hashB (HashT.mk (HashT.names x_1) ([] : List Int) (HashT.next x_1)))) = false) →
 ((false = true) ∧
 True))))))))))) := by kernel_rfl
theorem det_laws_FnHashValid : C_laws_FnHashValid.det = true → ∀ x, (C_laws_FnHashValid.out x).Det := fun _ x => by simp only [C_laws_FnHashValid]; repeat (first | exact Det.ret _ | exact Det.vc' | apply Det.req | apply Det.giv | apply Det.fork | apply Det.bif' | intro _)
set_option maxRecDepth 200000 in
set_option maxHeartbeats 1000000 in
theorem ok_laws_FnHashValid : ConOK Try.prog 6 C_laws_FnHashValid := by
  refine con_mk (wr := false) (ty := tyL [(3, .i), (5, .u), (4, .bool), (9, .str), (80, .int .u64), (26, .st .hash), (24, .list .i), (22, .list .str), (38, .list .u), (33, .st .hash)]) (l := [(26, C_spec_DrawHashValid), (21, C_impl_HashValid), (19, C_spec_HashValid), (12, C_impl_MakeHash), (23, C_laws_sameHash), (24, C_laws_alive)]) ⟨⟨ok_spec_DrawHashValid, det_spec_DrawHashValid⟩, ⟨⟨ok_impl_HashValid, det_impl_HashValid⟩, ⟨⟨ok_spec_HashValid, det_spec_HashValid⟩, ⟨⟨ok_impl_MakeHash, det_impl_MakeHash⟩, ⟨⟨ok_laws_sameHash, det_laws_sameHash⟩, ⟨⟨ok_laws_alive, det_laws_alive⟩, trivial⟩⟩⟩⟩⟩⟩ Try.checked.mixed (fn := Try.f6) (body := Try.f6.body.getD .skip) Try.func6 rfl (by decide) (by kernel_rfl) rfl an_laws_FnHashValid fun x ho hx => ?_
  obtain ⟨c, ⟨⟩⟩ := x
  refine Keeps.of (vc_laws_FnHashValid c) ?_
  revert c ho hx
  show ∀ (c : List (Int)), _
  intro c ho hx
  dsimp only [C_laws_FnHashValid, okPTL, okPT, Ok, Ty.cells, SN.cells, OkL, OkC, okI, ci, cb, cs, cl] at ho
  dsimp only [C_laws_FnHashValid, vc, v1, decB, SR.pre] at hx
  have ho := @mkHash_of
  have hB := @hashB_iff
  simp only [decide_eq_true_eq, decide_eq_false_iff_not, Bool.not_eq_true', Bool.not_eq_false', and_true, true_and, and_assoc, Int.toNat_natCast, exists_eq_left', exists_eq_left, exists_and_left, Int.not_lt, Int.not_le, Bool.false_eq_true, false_implies, implies_true, forall_const, List.length_append, List.length_cons, List.length_nil, Int.sub_add_cancel, Int.add_sub_cancel, and_imp, ex_img, ex_mem, ex_fix, ex_pat, ex_hash, ex_obj, ex_sym, ex_sect, ex_member, ex_given, eta_hash, eta_obj, eta_sym, eta_sect, eta_member, eta_given, eta_img, eta_mem, forall_eq', forall_eq]; (repeat' first | apply And.intro | (intro x hq _; replace hq := List.mem_of_getElem? hq; simp only [List.mem_cons, List.not_mem_nil, or_false] at hq) | intro _); all_goals (try omega)
  all_goals grind
theorem ne_all {l : List ByteArray} {s : ByteArray} {k : Int} (h : (l.length : Int) ≤ k) (h' : allNe (l.take k.toNat) s) : ∀ x ∈ l, x ≠ s := by
  rw [List.take_of_length_le (by omega)] at h'; exact allNe_iff.1 h'
theorem find_none {t : HashT} {s : ByteArray} {k : Int} (h : (t.names.length : Int) ≤ k ∨ hashB t = false) (h' : allNe (t.names.take k.toNat) s) : (findH t s).1 = -1 ∧ 0 ≤ (findH t s).2 ∧ (findH t s).2 ≤ t.names.length := by
  rcases h with h | h
  · exact find_not (ne_all h h')
  · rw [find_bad h]; exact ⟨rfl, by simp, by simp⟩
def C_laws_FnFindHash : Con := { ps := [.ro (.list .u)], out := fun x => let c : List (Int) := x.1; vc .bool true, det := true }
def G_laws_FnFindHash : Cfg := mkG (tyL [(3, .i), (5, .u), (4, .bool), (9, .str), (80, .int .u64), (26, .st .hash), (24, .list .i), (22, .list .str), (38, .list .u), (33, .st .hash)]) [(27, C_spec_DrawFindHash), (25, C_impl_FindHash), (28, C_spec_FindHash), (21, C_impl_HashValid), (24, C_laws_alive)] false
def an_laws_FnFindHash : PTL C_laws_FnFindHash.ps → Nat → Option Ann := fun x kk_ => let c : List (Int) := x.1; if kk_ = 10 then some (.all (HashT) fun t => .all (ByteArray) fun s => .all (Int) fun a => .all (Int) fun b => .all (Int) fun f => .all (Int) fun k => .giv (a = (findH t s).1 ∧ b = (findH t s).2 ∧ 0 ≤ k ∧ k ≤ t.names.length ∧ t.names.length ≤ 10 ∧ ((f = -1 ∧ allNe (t.names.take k.toNat) s) ∨ (hashB t = true ∧ 0 ≤ f ∧ t.names[f.toNat]? = some s))) (.mk [(3, aref 30), (4, ax s), (5, ai a), (6, ai b), (9, ai f), (10, ai k)] [(30, bx (ast .hash t))] ((t.names.length - k.toNat)))) else none
set_option maxRecDepth 200000 in
theorem vc_laws_FnFindHash (c : List (Int)) : (keeps Try.prog G_laws_FnFindHash (an_laws_FnFindHash (c, ())) (Try.f7.body.getD .skip) Try.f7.results.toList C_laws_FnFindHash (c, ())) = ((((List.length c) ≤ (9223372036854775807 : Nat)) →
 ((((decide ((1048576 : Int) < (@Nat.cast Int _ (List.length c)))) = true) →
 ((true = true) ∧
 True)) ∧
 (((decide ((1048576 : Int) < (@Nat.cast Int _ (List.length c)))) = false) →
 (∀ (x_1 : HashT), (∀ (x_2 : ByteArray), ((((List.length (HashT.names x_1)) ≤ (10 : Nat)) ∧
 (((List.length (HashT.first x_1)) ≤ (10 : Nat)) ∧
 ((List.length (HashT.next x_1)) ≤ (10 : Nat)))) →
 ((((decide ((Prod.fst (findH x_1 x_2)) ≠ (Prod.fst (findH x_1 x_2)))) = true) →
 ((false = true) ∧
 True)) ∧
 (((decide ((Prod.fst (findH x_1 x_2)) ≠ (Prod.fst (findH x_1 x_2)))) = false) →
 ((((decide ((Prod.snd (findH x_1 x_2)) ≠ (Prod.snd (findH x_1 x_2)))) = true) →
 ((false = true) ∧
 True)) ∧
 (((decide ((Prod.snd (findH x_1 x_2)) ≠ (Prod.snd (findH x_1 x_2)))) = false) →
 ((∃ (x_3 : HashT), (∃ (x_4 : ByteArray), (∃ (x_5 : Int), (∃ (x_6 : Int), (∃ (x_7 : Int), (∃ (x_8 : Int), ((@Eq ByteArray x_2 x_4) ∧
 (((Prod.fst (findH x_1 x_2)) = x_5) ∧
 (((Prod.snd (findH x_1 x_2)) = x_6) ∧
 (((- (1 : Int)) = x_7) ∧
 (((0 : Int) = x_8) ∧
 ((@Eq (List ByteArray) (HashT.names x_1) (HashT.names x_3)) ∧
 ((@Eq (List Int) (HashT.first x_1) (HashT.first x_3)) ∧
 ((@Eq (List Int) (HashT.next x_1) (HashT.next x_3)) ∧
 (((x_5 = (Prod.fst (findH x_3 x_4))) ∧
 ((x_6 = (Prod.snd (findH x_3 x_4))) ∧
 (((0 : Int) ≤ x_8) ∧
 ((x_8 ≤ (@Nat.cast Int _ (List.length (HashT.names x_3)))) ∧
 (((List.length (HashT.names x_3)) ≤ (10 : Nat)) ∧
 (((x_7 = (- (1 : Int))) ∧
 (allNe (List.take (Int.toNat x_8) (HashT.names x_3)) x_4)) ∨ (((hashB x_3) = true) ∧
 (((0 : Int) ≤ x_7) ∧
 (@Eq (Option ByteArray) ((HashT.names x_3))[(Int.toNat x_7)]? (some x_4)))))))))) ∧
 True))))))))))))))) ∧
 (∀ (x_9 : HashT), (∀ (x_10 : ByteArray), (∀ (x_11 : Int), (∀ (x_12 : Int), (∀ (x_13 : Int), (∀ (x_14 : Int), (((x_11 = (Prod.fst (findH x_9 x_10))) ∧
 ((x_12 = (Prod.snd (findH x_9 x_10))) ∧
 (((0 : Int) ≤ x_14) ∧
 ((x_14 ≤ (@Nat.cast Int _ (List.length (HashT.names x_9)))) ∧
 (((List.length (HashT.names x_9)) ≤ (10 : Nat)) ∧
 (((x_13 = (- (1 : Int))) ∧
 (allNe (List.take (Int.toNat x_14) (HashT.names x_9)) x_10)) ∨ (((hashB x_9) = true) ∧
 (((0 : Int) ≤ x_13) ∧
 (@Eq (Option ByteArray) ((HashT.names x_9))[(Int.toNat x_13)]? (some x_10)))))))))) →
 (((List.length (HashT.names x_9)) ≤ (9223372036854775807 : Nat)) →
 ((((decide (x_14 < (@Nat.cast Int _ (List.length (HashT.names x_9))))) = true) →
 ((((hashB x_9) = true) →
 ((((0 : Int) ≤ x_14) ∧
 (x_14 < (@Nat.cast Int _ (List.length (HashT.names x_9))))) ∧
 (∀ (x_15 : ByteArray), ((@Eq (Option ByteArray) ((HashT.names x_9))[(Int.toNat x_14)]? (some x_15)) →
 ((Ok Ty.str x_15) →
 ((((decide (@Eq ByteArray x_15 x_10)) = true) →
 ((((- (9223372036854775808 : Int)) ≤ (x_14 + (1 : Int))) ∧
 ((x_14 + (1 : Int)) ≤ (9223372036854775807 : Int))) ∧
 (∃ (x_16 : HashT), (∃ (x_17 : ByteArray), (∃ (x_18 : Int), (∃ (x_19 : Int), (∃ (x_20 : Int), (∃ (x_21 : Int), ((@Eq ByteArray x_10 x_17) ∧
 ((x_11 = x_18) ∧
 ((x_12 = x_19) ∧
 ((x_14 = x_20) ∧
 (((x_14 + (1 : Int)) = x_21) ∧
 ((@Eq (List ByteArray) (HashT.names x_9) (HashT.names x_16)) ∧
 ((@Eq (List Int) (HashT.first x_9) (HashT.first x_16)) ∧
 ((@Eq (List Int) (HashT.next x_9) (HashT.next x_16)) ∧
 (((x_18 = (Prod.fst (findH x_16 x_17))) ∧
 ((x_19 = (Prod.snd (findH x_16 x_17))) ∧
 (((0 : Int) ≤ x_21) ∧
 ((x_21 ≤ (@Nat.cast Int _ (List.length (HashT.names x_16)))) ∧
 (((List.length (HashT.names x_16)) ≤ (10 : Nat)) ∧
 (((x_20 = (- (1 : Int))) ∧
 (allNe (List.take (Int.toNat x_21) (HashT.names x_16)) x_17)) ∨ (((hashB x_16) = true) ∧
 (((0 : Int) ≤ x_20) ∧
 (@Eq (Option ByteArray) ((HashT.names x_16))[(Int.toNat x_20)]? (some x_17)))))))))) ∧
 (((List.length (HashT.names x_16)) - (Int.toNat x_21)) < ((List.length (HashT.names x_9)) - (Int.toNat x_14)))))))))))))))))))) ∧
 (((decide (@Eq ByteArray x_15 x_10)) = false) →
 ((((- (9223372036854775808 : Int)) ≤ (x_14 + (1 : Int))) ∧
 ((x_14 + (1 : Int)) ≤ (9223372036854775807 : Int))) ∧
 (∃ (x_22 : HashT), (∃ (x_23 : ByteArray), (∃ (x_24 : Int), (∃ (x_25 : Int), (∃ (x_26 : Int), (∃ (x_27 : Int), ((@Eq ByteArray x_10 x_23) ∧
 ((x_11 = x_24) ∧
 ((x_12 = x_25) ∧
 ((x_13 = x_26) ∧
 (((x_14 + (1 : Int)) = x_27) ∧
 ((@Eq (List ByteArray) (HashT.names x_9) (HashT.names x_22)) ∧
 ((@Eq (List Int) (HashT.first x_9) (HashT.first x_22)) ∧
 ((@Eq (List Int) (HashT.next x_9) (HashT.next x_22)) ∧
 (((x_24 = (Prod.fst (findH x_22 x_23))) ∧
 ((x_25 = (Prod.snd (findH x_22 x_23))) ∧
 (((0 : Int) ≤ x_27) ∧
 ((x_27 ≤ (@Nat.cast Int _ (List.length (HashT.names x_22)))) ∧
 (((List.length (HashT.names x_22)) ≤ (10 : Nat)) ∧
 (((x_26 = (- (1 : Int))) ∧
 (allNe (List.take (Int.toNat x_27) (HashT.names x_22)) x_23)) ∨ (((hashB x_22) = true) ∧
 (((0 : Int) ≤ x_26) ∧
 (@Eq (Option ByteArray) ((HashT.names x_22))[(Int.toNat x_26)]? (some x_23)))))))))) ∧
 (((List.length (HashT.names x_22)) - (Int.toNat x_27)) < ((List.length (HashT.names x_9)) - (Int.toNat x_14)))))))))))))))))))))))))) ∧
 (((hashB x_9) = false) →
 ((((decide (x_11 = x_13)) = true) →
 ((((decide ((0 : Int) ≤ x_12)) = true) →
 (((List.length (HashT.names x_9)) ≤ (9223372036854775807 : Nat)) →
 ((((decide (x_12 ≤ (@Nat.cast Int _ (List.length (HashT.names x_9))))) = true) →
 ((true = true) ∧
 True)) ∧
 (((decide (x_12 ≤ (@Nat.cast Int _ (List.length (HashT.names x_9))))) = false) →
 ((false = true) ∧
 True))))) ∧
 (((decide ((0 : Int) ≤ x_12)) = false) →
 ((false = true) ∧
 True)))) ∧
 (((decide (x_11 = x_13)) = false) →
 ((false = true) ∧
 True)))))) ∧
 (((decide (x_14 < (@Nat.cast Int _ (List.length (HashT.names x_9))))) = false) →
 ((((decide (x_11 = x_13)) = true) →
 ((((decide ((0 : Int) ≤ x_12)) = true) →
 (((List.length (HashT.names x_9)) ≤ (9223372036854775807 : Nat)) →
 ((((decide (x_12 ≤ (@Nat.cast Int _ (List.length (HashT.names x_9))))) = true) →
 ((true = true) ∧
 True)) ∧
 (((decide (x_12 ≤ (@Nat.cast Int _ (List.length (HashT.names x_9))))) = false) →
 ((false = true) ∧
 True))))) ∧
 (((decide ((0 : Int) ≤ x_12)) = false) →
 ((false = true) ∧
 True)))) ∧
 (((decide (x_11 = x_13)) = false) →
 ((false = true) ∧
 True))))))))))))))))))))))))) := by kernel_rfl
theorem det_laws_FnFindHash : C_laws_FnFindHash.det = true → ∀ x, (C_laws_FnFindHash.out x).Det := fun _ x => by simp only [C_laws_FnFindHash]; repeat (first | exact Det.ret _ | exact Det.vc' | apply Det.req | apply Det.giv | apply Det.fork | apply Det.bif' | intro _)
set_option maxRecDepth 200000 in
set_option maxHeartbeats 1000000 in
theorem ok_laws_FnFindHash : ConOK Try.prog 7 C_laws_FnFindHash := by
  refine con_mk (wr := false) (ty := tyL [(3, .i), (5, .u), (4, .bool), (9, .str), (80, .int .u64), (26, .st .hash), (24, .list .i), (22, .list .str), (38, .list .u), (33, .st .hash)]) (l := [(27, C_spec_DrawFindHash), (25, C_impl_FindHash), (28, C_spec_FindHash), (21, C_impl_HashValid), (24, C_laws_alive)]) ⟨⟨ok_spec_DrawFindHash, det_spec_DrawFindHash⟩, ⟨⟨ok_impl_FindHash, det_impl_FindHash⟩, ⟨⟨ok_spec_FindHash, det_spec_FindHash⟩, ⟨⟨ok_impl_HashValid, det_impl_HashValid⟩, ⟨⟨ok_laws_alive, det_laws_alive⟩, trivial⟩⟩⟩⟩⟩ Try.checked.mixed (fn := Try.f7) (body := Try.f7.body.getD .skip) Try.func7 rfl (by decide) (by kernel_rfl) rfl an_laws_FnFindHash fun x ho hx => ?_
  obtain ⟨c, ⟨⟩⟩ := x
  refine Keeps.of (vc_laws_FnFindHash c) ?_
  revert c ho hx
  show ∀ (c : List (Int)), _
  intro c ho hx
  dsimp only [C_laws_FnFindHash, okPTL, okPT, Ok, Ty.cells, SN.cells, OkL, OkC, okI, ci, cb, cs, cl] at ho
  dsimp only [C_laws_FnFindHash, vc, v1, decB, SR.pre] at hx
  have hf := @find_found
  have hnf := @find_none
  have hn := @ne_next
  simp only [decide_eq_true_eq, decide_eq_false_iff_not, Bool.not_eq_true', Bool.not_eq_false', and_true, true_and, and_assoc, Int.toNat_natCast, exists_eq_left', exists_eq_left, exists_and_left, Int.not_lt, Int.not_le, Bool.false_eq_true, false_implies, implies_true, forall_const, List.length_append, List.length_cons, List.length_nil, Int.sub_add_cancel, Int.add_sub_cancel, and_imp, ex_img, ex_mem, ex_fix, ex_pat, ex_hash, ex_obj, ex_sym, ex_sect, ex_member, ex_given, eta_hash, eta_obj, eta_sym, eta_sect, eta_member, eta_given, eta_img, eta_mem, forall_eq', forall_eq]; (repeat' first | apply And.intro | (intro x hq _; replace hq := List.mem_of_getElem? hq; simp only [List.mem_cons, List.not_mem_nil, or_false] at hq) | intro _); all_goals (try omega)
  all_goals (try grind [allNe_zero])
def C_laws_FnExactMakeHash : Con := { ps := [.ro (.list .str), .ro .i], out := fun x => let l : List (ByteArray) := x.1; let b : Int := x.2.1; vc .bool true, det := true }
def G_laws_FnExactMakeHash : Cfg := mkG (tyL [(3, .i), (5, .u), (4, .bool), (9, .str), (80, .int .u64), (26, .st .hash), (24, .list .i), (22, .list .str), (38, .list .u), (33, .st .hash)]) [(9, C_laws_szStringS), (11, C_laws_toStringS), (10, C_spec_MakeHash), (12, C_impl_MakeHash), (13, C_laws_eqHashTable), (14, C_laws_eqStringS), (15, C_laws_markStringS), (16, C_laws_markHashTable), (17, C_laws_heldHashTable)] false
def an_laws_FnExactMakeHash : PTL C_laws_FnExactMakeHash.ps → Nat → Option Ann := fun _ _ => none
set_option maxRecDepth 200000 in
theorem vc_laws_FnExactMakeHash (l : List (ByteArray)) (b : Int) : (keeps Try.prog G_laws_FnExactMakeHash (an_laws_FnExactMakeHash (l, b, ())) (Try.f3.body.getD .skip) Try.f3.results.toList C_laws_FnExactMakeHash (l, b, ())) = (((((0 : Int) ≤ (1048576 : Int)) ∧
 ((1048576 : Int) ≤ (1048576 : Int))) ∧
 ((((decide ((szR ((@Nat.cast Int _ (List.length l)) + (@sumI ByteArray (fun (s_1 : ByteArray) => (@Nat.cast Int _ (ByteArray.size s_1))) l)) (1048576 : Int)) < (0 : Int))) = true) →
 ((true = true) ∧
 True)) ∧
 (((decide ((szR ((@Nat.cast Int _ (List.length l)) + (@sumI ByteArray (fun (s_2 : ByteArray) => (@Nat.cast Int _ (ByteArray.size s_2))) l)) (1048576 : Int)) < (0 : Int))) = false) →
 ((((@Nat.cast Int _ (List.length l)) + (@sumI ByteArray (fun (s_3 : ByteArray) => (@Nat.cast Int _ (ByteArray.size s_3))) l)) ≤ (1048576 : Int)) ∧
 ((((@Nat.cast Int _ (List.length l)) + (@sumI ByteArray (fun (s_4 : ByteArray) => (@Nat.cast Int _ (ByteArray.size s_4))) l)) ≤ (1048576 : Int)) ∧
 ((((Bool.not (decide (@Eq HashT (mkHash l b) (mkHash l b)))) = true) →
 ((false = true) ∧
 True)) ∧
 (((Bool.not (decide (@Eq HashT (mkHash l b) (mkHash l b)))) = false) →
 ((((@Nat.cast Int _ (List.length l)) + (@sumI ByteArray (fun (s_5 : ByteArray) => (@Nat.cast Int _ (ByteArray.size s_5))) l)) ≤ (1048576 : Int)) ∧
 ((((Bool.not (decide (@Eq (List ByteArray) l l))) = true) →
 ((false = true) ∧
 True)) ∧
 (((Bool.not (decide (@Eq (List ByteArray) l l))) = false) →
 ((((0 : Int) ≤ (1 : Int)) ∧
 (((1 : Int) + (@sumI ByteArray (@cOne ByteArray) l)) ≤ (1000000000000 : Int))) ∧
 ((((decide (((1 : Int) + (@sumI ByteArray (@cOne ByteArray) l)) < (0 : Int))) = true) →
 ((false = true) ∧
 True)) ∧
 (((decide (((1 : Int) + (@sumI ByteArray (@cOne ByteArray) l)) < (0 : Int))) = false) →
 ((((Bool.not (decide (@Eq HashT (mkHash l b) (mkHash l b)))) = true) →
 ((false = true) ∧
 True)) ∧
 (((Bool.not (decide (@Eq HashT (mkHash l b) (mkHash l b)))) = false) →
 ((((0 : Int) ≤ (1 : Int)) ∧
 (((1 : Int) + (cHa (mkHash l b))) ≤ (1000000000000 : Int))) ∧
 ((((0 : Int) ≤ (1 : Int)) ∧
 (((1 : Int) + (cHa (HashT.mk (@mkL ByteArray mkSt (@cOne ByteArray) (HashT.names (mkHash l b)) (1 : Int)) (@mkL Int mkI (@cOne Int) (HashT.first (mkHash l b)) ((1 : Int) + (@sumI ByteArray (@cOne ByteArray) (HashT.names (mkHash l b))))) (@mkL Int mkI (@cOne Int) (HashT.next (mkHash l b)) (((1 : Int) + (@sumI ByteArray (@cOne ByteArray) (HashT.names (mkHash l b)))) + (@sumI Int (@cOne Int) (HashT.first (mkHash l b)))))))) ≤ (1000000000000 : Int))) ∧
 ((((decide ((hHa (HashT.mk (@mkL ByteArray mkSt (@cOne ByteArray) (HashT.names (mkHash l b)) (1 : Int)) (@mkL Int mkI (@cOne Int) (HashT.first (mkHash l b)) ((1 : Int) + (@sumI ByteArray (@cOne ByteArray) (HashT.names (mkHash l b))))) (@mkL Int mkI (@cOne Int) (HashT.next (mkHash l b)) (((1 : Int) + (@sumI ByteArray (@cOne ByteArray) (HashT.names (mkHash l b)))) + (@sumI Int (@cOne Int) (HashT.first (mkHash l b)))))) (1 : Int)) < (0 : Int))) = true) →
 ((false = true) ∧
 True)) ∧
 (((decide ((hHa (HashT.mk (@mkL ByteArray mkSt (@cOne ByteArray) (HashT.names (mkHash l b)) (1 : Int)) (@mkL Int mkI (@cOne Int) (HashT.first (mkHash l b)) ((1 : Int) + (@sumI ByteArray (@cOne ByteArray) (HashT.names (mkHash l b))))) (@mkL Int mkI (@cOne Int) (HashT.next (mkHash l b)) (((1 : Int) + (@sumI ByteArray (@cOne ByteArray) (HashT.names (mkHash l b)))) + (@sumI Int (@cOne Int) (HashT.first (mkHash l b)))))) (1 : Int)) < (0 : Int))) = false) →
 ((((decide ((hHa (HashT.mk (@mkL ByteArray mkSt (@cOne ByteArray) (HashT.names (mkHash l b)) (1 : Int)) (@mkL Int mkI (@cOne Int) (HashT.first (mkHash l b)) ((1 : Int) + (@sumI ByteArray (@cOne ByteArray) (HashT.names (mkHash l b))))) (@mkL Int mkI (@cOne Int) (HashT.next (mkHash l b)) (((1 : Int) + (@sumI ByteArray (@cOne ByteArray) (HashT.names (mkHash l b)))) + (@sumI Int (@cOne Int) (HashT.first (mkHash l b)))))) (1 : Int)) ≠ ((1 : Int) + (cHa (mkHash l b))))) = true) →
 ((false = true) ∧
 True)) ∧
 (((decide ((hHa (HashT.mk (@mkL ByteArray mkSt (@cOne ByteArray) (HashT.names (mkHash l b)) (1 : Int)) (@mkL Int mkI (@cOne Int) (HashT.first (mkHash l b)) ((1 : Int) + (@sumI ByteArray (@cOne ByteArray) (HashT.names (mkHash l b))))) (@mkL Int mkI (@cOne Int) (HashT.next (mkHash l b)) (((1 : Int) + (@sumI ByteArray (@cOne ByteArray) (HashT.names (mkHash l b)))) + (@sumI Int (@cOne Int) (HashT.first (mkHash l b)))))) (1 : Int)) ≠ ((1 : Int) + (cHa (mkHash l b))))) = false) →
 ((((@Nat.cast Int _ (List.length l)) + (@sumI ByteArray (fun (s_6 : ByteArray) => (@Nat.cast Int _ (ByteArray.size s_6))) l)) ≤ (1048576 : Int)) ∧
 ((((Bool.not (decide (@Eq HashT (mkHash l b) (mkHash l b)))) = true) →
 ((false = true) ∧
 True)) ∧
 (((Bool.not (decide (@Eq HashT (mkHash l b) (mkHash l b)))) = false) →
 ((((0 : Int) ≤ (1 : Int)) ∧
 (((1 : Int) + (cHa (HashT.mk (@mkL ByteArray mkSt (@cOne ByteArray) (HashT.names (mkHash l b)) (1 : Int)) (@mkL Int mkI (@cOne Int) (HashT.first (mkHash l b)) ((1 : Int) + (@sumI ByteArray (@cOne ByteArray) (HashT.names (mkHash l b))))) (@mkL Int mkI (@cOne Int) (HashT.next (mkHash l b)) (((1 : Int) + (@sumI ByteArray (@cOne ByteArray) (HashT.names (mkHash l b)))) + (@sumI Int (@cOne Int) (HashT.first (mkHash l b)))))))) ≤ (1000000000000 : Int))) ∧
 ((((decide ((hHa (HashT.mk (@mkL ByteArray mkSt (@cOne ByteArray) (HashT.names (mkHash l b)) (1 : Int)) (@mkL Int mkI (@cOne Int) (HashT.first (mkHash l b)) ((1 : Int) + (@sumI ByteArray (@cOne ByteArray) (HashT.names (mkHash l b))))) (@mkL Int mkI (@cOne Int) (HashT.next (mkHash l b)) (((1 : Int) + (@sumI ByteArray (@cOne ByteArray) (HashT.names (mkHash l b)))) + (@sumI Int (@cOne Int) (HashT.first (mkHash l b)))))) (1 : Int)) < (0 : Int))) = true) →
 ((false = true) ∧
 True)) ∧
 (((decide ((hHa (HashT.mk (@mkL ByteArray mkSt (@cOne ByteArray) (HashT.names (mkHash l b)) (1 : Int)) (@mkL Int mkI (@cOne Int) (HashT.first (mkHash l b)) ((1 : Int) + (@sumI ByteArray (@cOne ByteArray) (HashT.names (mkHash l b))))) (@mkL Int mkI (@cOne Int) (HashT.next (mkHash l b)) (((1 : Int) + (@sumI ByteArray (@cOne ByteArray) (HashT.names (mkHash l b)))) + (@sumI Int (@cOne Int) (HashT.first (mkHash l b)))))) (1 : Int)) < (0 : Int))) = false) →
 ((((decide ((hHa (HashT.mk (@mkL ByteArray mkSt (@cOne ByteArray) (HashT.names (mkHash l b)) (1 : Int)) (@mkL Int mkI (@cOne Int) (HashT.first (mkHash l b)) ((1 : Int) + (@sumI ByteArray (@cOne ByteArray) (HashT.names (mkHash l b))))) (@mkL Int mkI (@cOne Int) (HashT.next (mkHash l b)) (((1 : Int) + (@sumI ByteArray (@cOne ByteArray) (HashT.names (mkHash l b)))) + (@sumI Int (@cOne Int) (HashT.first (mkHash l b)))))) (1 : Int)) ≠ ((1 : Int) + (cHa (mkHash l b))))) = true) →
 ((false = true) ∧
 True)) ∧
 (((decide ((hHa (HashT.mk (@mkL ByteArray mkSt (@cOne ByteArray) (HashT.names (mkHash l b)) (1 : Int)) (@mkL Int mkI (@cOne Int) (HashT.first (mkHash l b)) ((1 : Int) + (@sumI ByteArray (@cOne ByteArray) (HashT.names (mkHash l b))))) (@mkL Int mkI (@cOne Int) (HashT.next (mkHash l b)) (((1 : Int) + (@sumI ByteArray (@cOne ByteArray) (HashT.names (mkHash l b)))) + (@sumI Int (@cOne Int) (HashT.first (mkHash l b)))))) (1 : Int)) ≠ ((1 : Int) + (cHa (mkHash l b))))) = false) →
 ((true = true) ∧
 True))))))))))))))))))))))))))))))) := by kernel_rfl
theorem det_laws_FnExactMakeHash : C_laws_FnExactMakeHash.det = true → ∀ x, (C_laws_FnExactMakeHash.out x).Det := fun _ x => by simp only [C_laws_FnExactMakeHash]; repeat (first | exact Det.ret _ | exact Det.vc' | apply Det.req | apply Det.giv | apply Det.fork | apply Det.bif' | intro _)
set_option maxRecDepth 200000 in
set_option maxHeartbeats 1000000 in
theorem ok_laws_FnExactMakeHash : ConOK Try.prog 3 C_laws_FnExactMakeHash := by
  refine con_mk (wr := false) (ty := tyL [(3, .i), (5, .u), (4, .bool), (9, .str), (80, .int .u64), (26, .st .hash), (24, .list .i), (22, .list .str), (38, .list .u), (33, .st .hash)]) (l := [(9, C_laws_szStringS), (11, C_laws_toStringS), (10, C_spec_MakeHash), (12, C_impl_MakeHash), (13, C_laws_eqHashTable), (14, C_laws_eqStringS), (15, C_laws_markStringS), (16, C_laws_markHashTable), (17, C_laws_heldHashTable)]) ⟨⟨ok_laws_szStringS, det_laws_szStringS⟩, ⟨⟨ok_laws_toStringS, det_laws_toStringS⟩, ⟨⟨ok_spec_MakeHash, det_spec_MakeHash⟩, ⟨⟨ok_impl_MakeHash, det_impl_MakeHash⟩, ⟨⟨ok_laws_eqHashTable, det_laws_eqHashTable⟩, ⟨⟨ok_laws_eqStringS, det_laws_eqStringS⟩, ⟨⟨ok_laws_markStringS, det_laws_markStringS⟩, ⟨⟨ok_laws_markHashTable, det_laws_markHashTable⟩, ⟨⟨ok_laws_heldHashTable, det_laws_heldHashTable⟩, trivial⟩⟩⟩⟩⟩⟩⟩⟩⟩ Try.checked.mixed (fn := Try.f3) (body := Try.f3.body.getD .skip) Try.func3 rfl (by decide) (by kernel_rfl) rfl an_laws_FnExactMakeHash fun x ho hx => ?_
  obtain ⟨l, b, ⟨⟩⟩ := x
  refine Keeps.of (vc_laws_FnExactMakeHash l b) ?_
  revert l b ho hx
  show ∀ (l : List (ByteArray)) (b : Int), _
  intro l b ho hx
  dsimp only [C_laws_FnExactMakeHash, okPTL, okPT, Ok, Ty.cells, SN.cells, OkL, OkC, okI, ci, cb, cs, cl] at ho
  dsimp only [C_laws_FnExactMakeHash, vc, v1, decB, SR.pre] at hx
  have hw := mkHash_sz l b
  have hm := hHa_mk (mkHash l b) 1 (by omega)
  have c1 := cOne_len l
  have c2 : cHa (mkHash l b) = (mkHash l b).names.length + (mkHash l b).first.length + (mkHash l b).next.length := by simp only [cHa, cOne_len]
  have c3 : cHa (mkHa (mkHash l b) 1) = cHa (mkHash l b) := by simp only [cHa, mkHa, cOne_len, mkL_len]
  have sn := sumI_nn (f := fun s : ByteArray => (s.size : Int)) szStr_nn l
  unfold mkHa at hm c3
  simp only [decide_eq_true_eq, decide_eq_false_iff_not, Bool.not_eq_true', Bool.not_eq_false', and_true, true_and, Int.toNat_natCast, exists_eq_left', exists_eq_left, exists_and_left, Int.not_lt, Int.not_le, Bool.false_eq_true, false_implies, implies_true, forall_const, List.length_append, List.length_cons, List.length_nil, Int.sub_add_cancel, Int.add_sub_cancel, and_imp, get_set_iff, forall_eq', forall_eq, List.set_set, mkd_get, mkd_len, List.length_set, Option.some.injEq]; (repeat' first | intro _ | apply And.intro); all_goals (try omega)
  all_goals (try grind [szR])
def C_laws_FnExactHashValid : Con := { ps := [.ro (.st .hash)], out := fun x => let t : HashT := x.1; vc .bool true, det := true }
def G_laws_FnExactHashValid : Cfg := mkG (tyL [(3, .i), (5, .u), (4, .bool), (9, .str), (80, .int .u64), (26, .st .hash), (24, .list .i), (22, .list .str), (38, .list .u), (33, .st .hash)]) [(18, C_laws_szHashTable), (20, C_laws_toHashTable), (19, C_spec_HashValid), (21, C_impl_HashValid), (13, C_laws_eqHashTable)] false
def an_laws_FnExactHashValid : PTL C_laws_FnExactHashValid.ps → Nat → Option Ann := fun _ _ => none
set_option maxRecDepth 200000 in
theorem vc_laws_FnExactHashValid (t : HashT) : (keeps Try.prog G_laws_FnExactHashValid (an_laws_FnExactHashValid (t, ())) (Try.f4.body.getD .skip) Try.f4.results.toList C_laws_FnExactHashValid (t, ())) = (((((0 : Int) ≤ (1048576 : Int)) ∧
 ((1048576 : Int) ≤ (1048576 : Int))) ∧
 ((((decide ((szR (szHa t) (1048576 : Int)) < (0 : Int))) = true) →
 ((true = true) ∧
 True)) ∧
 (((decide ((szR (szHa t) (1048576 : Int)) < (0 : Int))) = false) →
 (((szHa t) ≤ (1048576 : Int)) ∧
 (((szHa t) ≤ (1048576 : Int)) ∧
 ((((decide ((hashB t) ≠ (hashB t))) = true) →
 ((false = true) ∧
 True)) ∧
 (((decide ((hashB t) ≠ (hashB t))) = false) →
 (((szHa t) ≤ (1048576 : Int)) ∧
 ((((Bool.not (decide (@Eq HashT t t))) = true) →
 ((false = true) ∧
 True)) ∧
 (((Bool.not (decide (@Eq HashT t t))) = false) →
 ((true = true) ∧
 True)))))))))))) := by kernel_rfl
theorem det_laws_FnExactHashValid : C_laws_FnExactHashValid.det = true → ∀ x, (C_laws_FnExactHashValid.out x).Det := fun _ x => by simp only [C_laws_FnExactHashValid]; repeat (first | exact Det.ret _ | exact Det.vc' | apply Det.req | apply Det.giv | apply Det.fork | apply Det.bif' | intro _)
set_option maxRecDepth 200000 in
set_option maxHeartbeats 1000000 in
theorem ok_laws_FnExactHashValid : ConOK Try.prog 4 C_laws_FnExactHashValid := by
  refine con_mk (wr := false) (ty := tyL [(3, .i), (5, .u), (4, .bool), (9, .str), (80, .int .u64), (26, .st .hash), (24, .list .i), (22, .list .str), (38, .list .u), (33, .st .hash)]) (l := [(18, C_laws_szHashTable), (20, C_laws_toHashTable), (19, C_spec_HashValid), (21, C_impl_HashValid), (13, C_laws_eqHashTable)]) ⟨⟨ok_laws_szHashTable, det_laws_szHashTable⟩, ⟨⟨ok_laws_toHashTable, det_laws_toHashTable⟩, ⟨⟨ok_spec_HashValid, det_spec_HashValid⟩, ⟨⟨ok_impl_HashValid, det_impl_HashValid⟩, ⟨⟨ok_laws_eqHashTable, det_laws_eqHashTable⟩, trivial⟩⟩⟩⟩⟩ Try.checked.mixed (fn := Try.f4) (body := Try.f4.body.getD .skip) Try.func4 rfl (by decide) (by kernel_rfl) rfl an_laws_FnExactHashValid fun x ho hx => ?_
  obtain ⟨t, ⟨⟩⟩ := x
  refine Keeps.of (vc_laws_FnExactHashValid t) ?_
  revert t ho hx
  show ∀ (t : HashT), _
  intro t ho hx
  dsimp only [C_laws_FnExactHashValid, okPTL, okPT, Ok, Ty.cells, SN.cells, OkL, OkC, okI, ci, cb, cs, cl] at ho
  dsimp only [C_laws_FnExactHashValid, vc, v1, decB, SR.pre] at hx
  simp only [decide_eq_true_eq, decide_eq_false_iff_not, Bool.not_eq_true', Bool.not_eq_false', and_true, true_and, Int.toNat_natCast, exists_eq_left', exists_eq_left, exists_and_left, Int.not_lt, Int.not_le, Bool.false_eq_true, false_implies, implies_true, forall_const, List.length_append, List.length_cons, List.length_nil, Int.sub_add_cancel, Int.add_sub_cancel, and_imp, get_set_iff, forall_eq', forall_eq, List.set_set, mkd_get, mkd_len, List.length_set, Option.some.injEq]; (repeat' first | intro _ | apply And.intro); all_goals (try omega); all_goals grind [szR, szHa]
def C_laws_FnExactFindHash : Con := { ps := [.ro (.st .hash), .ro .str], out := fun x => let t : HashT := x.1; let s : ByteArray := x.2.1; vc .bool true, det := true }
def G_laws_FnExactFindHash : Cfg := mkG (tyL [(3, .i), (5, .u), (4, .bool), (9, .str), (80, .int .u64), (26, .st .hash), (24, .list .i), (22, .list .str), (38, .list .u), (33, .st .hash)]) [(18, C_laws_szHashTable), (20, C_laws_toHashTable), (28, C_spec_FindHash), (25, C_impl_FindHash), (13, C_laws_eqHashTable)] false
def an_laws_FnExactFindHash : PTL C_laws_FnExactFindHash.ps → Nat → Option Ann := fun _ _ => none
set_option maxRecDepth 200000 in
theorem vc_laws_FnExactFindHash (t : HashT) (s : ByteArray) : (keeps Try.prog G_laws_FnExactFindHash (an_laws_FnExactFindHash (t, s, ())) (Try.f8.body.getD .skip) Try.f8.results.toList C_laws_FnExactFindHash (t, s, ())) = ((((ByteArray.size s) ≤ (9223372036854775807 : Nat)) →
 ((((decide ((1048576 : Int) < (@Nat.cast Int _ (ByteArray.size s)))) = true) →
 ((true = true) ∧
 True)) ∧
 (((decide ((1048576 : Int) < (@Nat.cast Int _ (ByteArray.size s)))) = false) →
 ((((0 : Int) ≤ (1048576 : Int)) ∧
 ((1048576 : Int) ≤ (1048576 : Int))) ∧
 ((((decide ((szR (szHa t) (1048576 : Int)) < (0 : Int))) = true) →
 ((true = true) ∧
 True)) ∧
 (((decide ((szR (szHa t) (1048576 : Int)) < (0 : Int))) = false) →
 (((szHa t) ≤ (1048576 : Int)) ∧
 (((szHa t) ≤ (1048576 : Int)) ∧
 ((((decide ((Prod.fst (findH t s)) ≠ (Prod.fst (findH t s)))) = true) →
 ((false = true) ∧
 True)) ∧
 (((decide ((Prod.fst (findH t s)) ≠ (Prod.fst (findH t s)))) = false) →
 ((((decide ((Prod.snd (findH t s)) ≠ (Prod.snd (findH t s)))) = true) →
 ((false = true) ∧
 True)) ∧
 (((decide ((Prod.snd (findH t s)) ≠ (Prod.snd (findH t s)))) = false) →
 (((szHa t) ≤ (1048576 : Int)) ∧
 ((((Bool.not (decide (@Eq HashT t t))) = true) →
 ((false = true) ∧
 True)) ∧
 (((Bool.not (decide (@Eq HashT t t))) = false) →
 ((true = true) ∧
 True))))))))))))))))) := by kernel_rfl
theorem det_laws_FnExactFindHash : C_laws_FnExactFindHash.det = true → ∀ x, (C_laws_FnExactFindHash.out x).Det := fun _ x => by simp only [C_laws_FnExactFindHash]; repeat (first | exact Det.ret _ | exact Det.vc' | apply Det.req | apply Det.giv | apply Det.fork | apply Det.bif' | intro _)
set_option maxRecDepth 200000 in
set_option maxHeartbeats 1000000 in
theorem ok_laws_FnExactFindHash : ConOK Try.prog 8 C_laws_FnExactFindHash := by
  refine con_mk (wr := false) (ty := tyL [(3, .i), (5, .u), (4, .bool), (9, .str), (80, .int .u64), (26, .st .hash), (24, .list .i), (22, .list .str), (38, .list .u), (33, .st .hash)]) (l := [(18, C_laws_szHashTable), (20, C_laws_toHashTable), (28, C_spec_FindHash), (25, C_impl_FindHash), (13, C_laws_eqHashTable)]) ⟨⟨ok_laws_szHashTable, det_laws_szHashTable⟩, ⟨⟨ok_laws_toHashTable, det_laws_toHashTable⟩, ⟨⟨ok_spec_FindHash, det_spec_FindHash⟩, ⟨⟨ok_impl_FindHash, det_impl_FindHash⟩, ⟨⟨ok_laws_eqHashTable, det_laws_eqHashTable⟩, trivial⟩⟩⟩⟩⟩ Try.checked.mixed (fn := Try.f8) (body := Try.f8.body.getD .skip) Try.func8 rfl (by decide) (by kernel_rfl) rfl an_laws_FnExactFindHash fun x ho hx => ?_
  obtain ⟨t, s, ⟨⟩⟩ := x
  refine Keeps.of (vc_laws_FnExactFindHash t s) ?_
  revert t s ho hx
  show ∀ (t : HashT) (s : ByteArray), _
  intro t s ho hx
  dsimp only [C_laws_FnExactFindHash, okPTL, okPT, Ok, Ty.cells, SN.cells, OkL, OkC, okI, ci, cb, cs, cl] at ho
  dsimp only [C_laws_FnExactFindHash, vc, v1, decB, SR.pre] at hx
  simp only [decide_eq_true_eq, decide_eq_false_iff_not, Bool.not_eq_true', Bool.not_eq_false', and_true, true_and, Int.toNat_natCast, exists_eq_left', exists_eq_left, exists_and_left, Int.not_lt, Int.not_le, Bool.false_eq_true, false_implies, implies_true, forall_const, List.length_append, List.length_cons, List.length_nil, Int.sub_add_cancel, Int.add_sub_cancel, and_imp, get_set_iff, forall_eq', forall_eq, List.set_set, mkd_get, mkd_len, List.length_set, Option.some.injEq]; (repeat' first | intro _ | apply And.intro); all_goals (try omega); all_goals grind [szR, szHa]

theorem rd_u : Reads Try.prog 5 [.u] := reads_u8 Try.underlying5
theorem rd_uL : Reads Try.prog 38 [(.list .u)] := reads_slice (t' := .u) Try.underlying38 (by kernel_rfl) (by decide) rd_u
set_option maxRecDepth 100000 in
theorem lifted_FnMakeHash (os : Os) (started : os.Started) (H : Type) (enc : TypeId × Value → H) :
    ReturnsInHanded {} Try.checked os 5 .any (Rows.fnMakeHashSpec.pre6 enc Try.prog Try.f5 Rows.fnMakeHashRow.domain false) (Rows.fnMakeHashSpec.post enc Try.prog Try.f5 false true false false) := by
  refine returnsInHanded_of_change (C := Try.checked) head_own started (by kernel_rfl) Try.func5
    (ChangeSpec.witness6 (enc := enc) (C := Try.checked) false ⟨#[], #[.slice none 0 0], []⟩ 8 (by kernel_rfl) (by kernel_rfl) (by kernel_rfl) (by kernel_rfl)) ?_
  intro W base args ds gs before hval0 hW _ _
  have hval : ∀ (j : Nat) t v, Try.f5.params[j]? = some t → args[j]? = some v → Value.okWide Try.prog W .any base t v := hval0
  have hW' := hW
  obtain ⟨p, q, hA0, hV, rfl, hfz, hnd⟩ := hW
  have hA : DataW.TrodAll enc Try.prog W 0 (fun _ => true) true Try.f5.params.toList args.toList ds p := hA0
  rw [Try.params5] at hA hval
  obtain ⟨v0, vs0, d0, ds0, p0, q0, hargs, rfl, rfl, h0, r0⟩ := trodAll_cons hA
  obtain ⟨rfl, rfl, rfl⟩ := trodAll_nil r0
  obtain rfl : args = #[v0] := by cases args; simp_all
  obtain ⟨rfl, rfl⟩ := trodVars_none hV
  have k0 := h0
  obtain ⟨x0, g0⟩ := open_slice1 Try.underlying38 rd_uL (hval 0 38 v0 rfl rfl) h0
  clear hA0 hval0 hval
  refine (law_calls ok_laws_FnMakeHash (x0, ()) rfl rfl (W := W) (vals := [v0]) ⟨g0, trivial⟩).mono fun e W' ⟨he, bel⟩ => ?_
  subst he
  exact ⟨_, rfl, _, _, _, [], _, [], hW', trodAll_mk1 (shut_bool Try.underlying4 _), (trodAll_cons_mk (Below.trod head_laid (by kernel_rfl) (of_decide_eq_true (by kernel_rfl)) k0 bel (trod_lt_ k0)) trodAll_mk0), rfl, bel.frame _, fun h => by cases h⟩

theorem over_FnMakeHash : Rows.fnMakeHashRow.holds Try.pinned (OpenSpec.ofChange Rows.fnMakeHashSpec) :=
  OpenClaim.holds_of_wide 5 Try.f5 rfl rfl rfl rfl rfl rfl rfl ⟨rfl, rfl, rfl, rfl, rfl⟩ rfl rfl rfl rfl rfl (by kernel_rfl) Try.func5 (joined_of head_laid head_rowed head_stops head_stopk head_heard head_enter (show (Rows.fnMakeHashRow.lifted == Try.prog.liftsFinal) = true by rw [head_final]; rfl) (show (Try.prog.make == some Rows.fnMakeHashRow.make) = true by rw [head_make]; rfl) (by kernel_rfl))
    (of_decide_eq_true (by kernel_rfl)) (by unfold Func.isWrapper; first | (rw [if_pos (by decide +kernel)]; kernel_rfl) | (rw [if_neg (by decide +kernel)]; exact ⟨rfl, rfl⟩))
    (fun os started H enc _ => lifted_FnMakeHash os started H enc)

theorem proved_FnMakeHash : Rows.FnMakeHashSaid := over_FnMakeHash
#print axioms proved_FnMakeHash


set_option maxRecDepth 100000 in
theorem lifted_FnHashValid (os : Os) (started : os.Started) (H : Type) (enc : TypeId × Value → H) :
    ReturnsInHanded {} Try.checked os 6 .any (Rows.fnHashValidSpec.pre6 enc Try.prog Try.f6 Rows.fnHashValidRow.domain false) (Rows.fnHashValidSpec.post enc Try.prog Try.f6 false true false false) := by
  refine returnsInHanded_of_change (C := Try.checked) head_own started (by kernel_rfl) Try.func6
    (ChangeSpec.witness6 (enc := enc) (C := Try.checked) false ⟨#[], #[.slice none 0 0], []⟩ 8 (by kernel_rfl) (by kernel_rfl) (by kernel_rfl) (by kernel_rfl)) ?_
  intro W base args ds gs before hval0 hW _ _
  have hval : ∀ (j : Nat) t v, Try.f6.params[j]? = some t → args[j]? = some v → Value.okWide Try.prog W .any base t v := hval0
  have hW' := hW
  obtain ⟨p, q, hA0, hV, rfl, hfz, hnd⟩ := hW
  have hA : DataW.TrodAll enc Try.prog W 0 (fun _ => true) true Try.f6.params.toList args.toList ds p := hA0
  rw [Try.params6] at hA hval
  obtain ⟨v0, vs0, d0, ds0, p0, q0, hargs, rfl, rfl, h0, r0⟩ := trodAll_cons hA
  obtain ⟨rfl, rfl, rfl⟩ := trodAll_nil r0
  obtain rfl : args = #[v0] := by cases args; simp_all
  obtain ⟨rfl, rfl⟩ := trodVars_none hV
  have k0 := h0
  obtain ⟨x0, g0⟩ := open_slice1 Try.underlying38 rd_uL (hval 0 38 v0 rfl rfl) h0
  clear hA0 hval0 hval
  refine (law_calls ok_laws_FnHashValid (x0, ()) rfl rfl (W := W) (vals := [v0]) ⟨g0, trivial⟩).mono fun e W' ⟨he, bel⟩ => ?_
  subst he
  exact ⟨_, rfl, _, _, _, [], _, [], hW', trodAll_mk1 (shut_bool Try.underlying4 _), (trodAll_cons_mk (Below.trod head_laid (by kernel_rfl) (of_decide_eq_true (by kernel_rfl)) k0 bel (trod_lt_ k0)) trodAll_mk0), rfl, bel.frame _, fun h => by cases h⟩

theorem over_FnHashValid : Rows.fnHashValidRow.holds Try.pinned (OpenSpec.ofChange Rows.fnHashValidSpec) :=
  OpenClaim.holds_of_wide 6 Try.f6 rfl rfl rfl rfl rfl rfl rfl ⟨rfl, rfl, rfl, rfl, rfl⟩ rfl rfl rfl rfl rfl (by kernel_rfl) Try.func6 (joined_of head_laid head_rowed head_stops head_stopk head_heard head_enter (show (Rows.fnHashValidRow.lifted == Try.prog.liftsFinal) = true by rw [head_final]; rfl) (show (Try.prog.make == some Rows.fnHashValidRow.make) = true by rw [head_make]; rfl) (by kernel_rfl))
    (of_decide_eq_true (by kernel_rfl)) (by unfold Func.isWrapper; first | (rw [if_pos (by decide +kernel)]; kernel_rfl) | (rw [if_neg (by decide +kernel)]; exact ⟨rfl, rfl⟩))
    (fun os started H enc _ => lifted_FnHashValid os started H enc)

theorem proved_FnHashValid : Rows.FnHashValidSaid := over_FnHashValid
#print axioms proved_FnHashValid


set_option maxRecDepth 100000 in
theorem lifted_FnFindHash (os : Os) (started : os.Started) (H : Type) (enc : TypeId × Value → H) :
    ReturnsInHanded {} Try.checked os 7 .any (Rows.fnFindHashSpec.pre6 enc Try.prog Try.f7 Rows.fnFindHashRow.domain false) (Rows.fnFindHashSpec.post enc Try.prog Try.f7 false true false false) := by
  refine returnsInHanded_of_change (C := Try.checked) head_own started (by kernel_rfl) Try.func7
    (ChangeSpec.witness6 (enc := enc) (C := Try.checked) false ⟨#[], #[.slice none 0 0], []⟩ 8 (by kernel_rfl) (by kernel_rfl) (by kernel_rfl) (by kernel_rfl)) ?_
  intro W base args ds gs before hval0 hW _ _
  have hval : ∀ (j : Nat) t v, Try.f7.params[j]? = some t → args[j]? = some v → Value.okWide Try.prog W .any base t v := hval0
  have hW' := hW
  obtain ⟨p, q, hA0, hV, rfl, hfz, hnd⟩ := hW
  have hA : DataW.TrodAll enc Try.prog W 0 (fun _ => true) true Try.f7.params.toList args.toList ds p := hA0
  rw [Try.params7] at hA hval
  obtain ⟨v0, vs0, d0, ds0, p0, q0, hargs, rfl, rfl, h0, r0⟩ := trodAll_cons hA
  obtain ⟨rfl, rfl, rfl⟩ := trodAll_nil r0
  obtain rfl : args = #[v0] := by cases args; simp_all
  obtain ⟨rfl, rfl⟩ := trodVars_none hV
  have k0 := h0
  obtain ⟨x0, g0⟩ := open_slice1 Try.underlying38 rd_uL (hval 0 38 v0 rfl rfl) h0
  clear hA0 hval0 hval
  refine (law_calls ok_laws_FnFindHash (x0, ()) rfl rfl (W := W) (vals := [v0]) ⟨g0, trivial⟩).mono fun e W' ⟨he, bel⟩ => ?_
  subst he
  exact ⟨_, rfl, _, _, _, [], _, [], hW', trodAll_mk1 (shut_bool Try.underlying4 _), (trodAll_cons_mk (Below.trod head_laid (by kernel_rfl) (of_decide_eq_true (by kernel_rfl)) k0 bel (trod_lt_ k0)) trodAll_mk0), rfl, bel.frame _, fun h => by cases h⟩

theorem over_FnFindHash : Rows.fnFindHashRow.holds Try.pinned (OpenSpec.ofChange Rows.fnFindHashSpec) :=
  OpenClaim.holds_of_wide 7 Try.f7 rfl rfl rfl rfl rfl rfl rfl ⟨rfl, rfl, rfl, rfl, rfl⟩ rfl rfl rfl rfl rfl (by kernel_rfl) Try.func7 (joined_of head_laid head_rowed head_stops head_stopk head_heard head_enter (show (Rows.fnFindHashRow.lifted == Try.prog.liftsFinal) = true by rw [head_final]; rfl) (show (Try.prog.make == some Rows.fnFindHashRow.make) = true by rw [head_make]; rfl) (by kernel_rfl))
    (of_decide_eq_true (by kernel_rfl)) (by unfold Func.isWrapper; first | (rw [if_pos (by decide +kernel)]; kernel_rfl) | (rw [if_neg (by decide +kernel)]; exact ⟨rfl, rfl⟩))
    (fun os started H enc _ => lifted_FnFindHash os started H enc)

theorem proved_FnFindHash : Rows.FnFindHashSaid := over_FnFindHash
#print axioms proved_FnFindHash


theorem rd_s : Reads Try.prog 9 [.str] := reads_string Try.underlying9
theorem rd_sL : Reads Try.prog 22 [(.list .str)] := reads_slice (t' := .str) Try.underlying22 (by kernel_rfl) (by decide) rd_s
theorem rd_i : Reads Try.prog 3 [.i] := reads_int Try.underlying3
set_option maxRecDepth 100000 in
theorem lifted_FnExactMakeHash (os : Os) (started : os.Started) (H : Type) (enc : TypeId × Value → H) :
    ReturnsInHanded {} Try.checked os 3 .any (Rows.fnExactMakeHashSpec.pre6 enc Try.prog Try.f3 Rows.fnExactMakeHashRow.domain false) (Rows.fnExactMakeHashSpec.post enc Try.prog Try.f3 false true false false) := by
  refine returnsInHanded_of_change (C := Try.checked) head_own started (by kernel_rfl) Try.func3
    (ChangeSpec.witness6 (enc := enc) (C := Try.checked) false ⟨#[], #[.slice none 0 0, .int .i64 0], []⟩ 8 (by kernel_rfl) (by kernel_rfl) (by kernel_rfl) (by kernel_rfl)) ?_
  intro W base args ds gs before hval0 hW _ _
  have hval : ∀ (j : Nat) t v, Try.f3.params[j]? = some t → args[j]? = some v → Value.okWide Try.prog W .any base t v := hval0
  have hW' := hW
  obtain ⟨p, q, hA0, hV, rfl, hfz, hnd⟩ := hW
  have hA : DataW.TrodAll enc Try.prog W 0 (fun _ => true) true Try.f3.params.toList args.toList ds p := hA0
  rw [Try.params3] at hA hval
  obtain ⟨v0, vs0, d0, ds0, p0, q0, hargs, rfl, rfl, h0, r0⟩ := trodAll_cons hA
  obtain ⟨v1, vs1, d1, ds1, p1, q1, rfl, rfl, rfl, h1, r1⟩ := trodAll_cons r0
  obtain ⟨rfl, rfl, rfl⟩ := trodAll_nil r1
  obtain rfl : args = #[v0, v1] := by cases args; simp_all
  obtain ⟨rfl, rfl⟩ := trodVars_none hV
  have k0 := h0
  obtain ⟨x0, g0⟩ := open_slice1 Try.underlying22 rd_sL (hval 0 22 v0 rfl rfl) h0
  have k1 := h1
  obtain ⟨n1, hn1, _, _, _⟩ := open_int Try.underlying3 (hval 1 3 v1 rfl rfl) h1
  obtain ⟨x1, g1⟩ := open_one (by rw [hn1]; rfl) rd_i h1
  clear hA0 hval0 hval
  refine (law_calls ok_laws_FnExactMakeHash (x0, x1, ()) rfl rfl (W := W) (vals := [v0, v1]) ⟨g0, g1, trivial⟩).mono fun e W' ⟨he, bel⟩ => ?_
  subst he
  exact ⟨_, rfl, _, _, _, [], _, [], hW', trodAll_mk1 (shut_bool Try.underlying4 _), (trodAll_cons_mk (Below.trod head_laid (by kernel_rfl) (of_decide_eq_true (by kernel_rfl)) k0 bel (trod_lt_ k0)) (trodAll_cons_mk (Below.trod head_laid (by kernel_rfl) (of_decide_eq_true (by kernel_rfl)) k1 bel (trod_lt_ k1)) trodAll_mk0)), rfl, bel.frame _, fun h => by cases h⟩

theorem over_FnExactMakeHash : Rows.fnExactMakeHashRow.holds Try.pinned (OpenSpec.ofChange Rows.fnExactMakeHashSpec) :=
  OpenClaim.holds_of_wide 3 Try.f3 rfl rfl rfl rfl rfl rfl rfl ⟨rfl, rfl, rfl, rfl, rfl⟩ rfl rfl rfl rfl rfl (by kernel_rfl) Try.func3 (joined_of head_laid head_rowed head_stops head_stopk head_heard head_enter (show (Rows.fnExactMakeHashRow.lifted == Try.prog.liftsFinal) = true by rw [head_final]; rfl) (show (Try.prog.make == some Rows.fnExactMakeHashRow.make) = true by rw [head_make]; rfl) (by kernel_rfl))
    (of_decide_eq_true (by kernel_rfl)) (by unfold Func.isWrapper; first | (rw [if_pos (by decide +kernel)]; kernel_rfl) | (rw [if_neg (by decide +kernel)]; exact ⟨rfl, rfl⟩))
    (fun os started H enc _ => lifted_FnExactMakeHash os started H enc)

theorem proved_FnExactMakeHash : Rows.FnExactMakeHashSaid := over_FnExactMakeHash
#print axioms proved_FnExactMakeHash


theorem rd_iL : Reads Try.prog 24 [(.list .i)] := reads_slice (t' := .i) Try.underlying24 (by kernel_rfl) (by decide) rd_i
theorem rd_hash : Reads Try.prog 33 (SN.sig .hash) := reads_fs (sig := SN.sig .hash) Try.underlying33 (by kernel_rfl) (fs_cons (sig := [(.list .str)]) rfl (by kernel_rfl) rd_sL (fs_cons (sig := [(.list .i)]) rfl (by kernel_rfl) rd_iL (fs_cons (sig := [(.list .i)]) rfl (by kernel_rfl) rd_iL fs_nil)))
set_option maxRecDepth 100000 in
theorem lifted_FnExactHashValid (os : Os) (started : os.Started) (H : Type) (enc : TypeId × Value → H) :
    ReturnsInHanded {} Try.checked os 4 .any (Rows.fnExactHashValidSpec.pre6 enc Try.prog Try.f4 Rows.fnExactHashValidRow.domain false) (Rows.fnExactHashValidSpec.post enc Try.prog Try.f4 false true false false) := by
  refine returnsInHanded_of_change (C := Try.checked) head_own started (by kernel_rfl) Try.func4
    (ChangeSpec.witness6 (enc := enc) (C := Try.checked) false ⟨#[], #[.agg #[.slice none 0 0, .slice none 0 0, .slice none 0 0]], []⟩ 8 (by kernel_rfl) (by kernel_rfl) (by kernel_rfl) (by kernel_rfl)) ?_
  intro W base args ds gs before hval0 hW _ _
  have hval : ∀ (j : Nat) t v, Try.f4.params[j]? = some t → args[j]? = some v → Value.okWide Try.prog W .any base t v := hval0
  have hW' := hW
  obtain ⟨p, q, hA0, hV, rfl, hfz, hnd⟩ := hW
  have hA : DataW.TrodAll enc Try.prog W 0 (fun _ => true) true Try.f4.params.toList args.toList ds p := hA0
  rw [Try.params4] at hA hval
  obtain ⟨v0, vs0, d0, ds0, p0, q0, hargs, rfl, rfl, h0, r0⟩ := trodAll_cons hA
  obtain ⟨rfl, rfl, rfl⟩ := trodAll_nil r0
  obtain rfl : args = #[v0] := by cases args; simp_all
  obtain ⟨rfl, rfl⟩ := trodVars_none hV
  have k0 := h0
  obtain ⟨x0, g0⟩ := open_agg Try.underlying33 rd_hash (hval 0 33 v0 rfl rfl) h0
  clear hA0 hval0 hval
  refine (law_calls ok_laws_FnExactHashValid (x0, ()) rfl rfl (W := W) (vals := [v0]) ⟨g0, trivial⟩).mono fun e W' ⟨he, bel⟩ => ?_
  subst he
  exact ⟨_, rfl, _, _, _, [], _, [], hW', trodAll_mk1 (shut_bool Try.underlying4 _), (trodAll_cons_mk (Below.trod head_laid (by kernel_rfl) (of_decide_eq_true (by kernel_rfl)) k0 bel (trod_lt_ k0)) trodAll_mk0), rfl, bel.frame _, fun h => by cases h⟩

theorem over_FnExactHashValid : Rows.fnExactHashValidRow.holds Try.pinned (OpenSpec.ofChange Rows.fnExactHashValidSpec) :=
  OpenClaim.holds_of_wide 4 Try.f4 rfl rfl rfl rfl rfl rfl rfl ⟨rfl, rfl, rfl, rfl, rfl⟩ rfl rfl rfl rfl rfl (by kernel_rfl) Try.func4 (joined_of head_laid head_rowed head_stops head_stopk head_heard head_enter (show (Rows.fnExactHashValidRow.lifted == Try.prog.liftsFinal) = true by rw [head_final]; rfl) (show (Try.prog.make == some Rows.fnExactHashValidRow.make) = true by rw [head_make]; rfl) (by kernel_rfl))
    (of_decide_eq_true (by kernel_rfl)) (by unfold Func.isWrapper; first | (rw [if_pos (by decide +kernel)]; kernel_rfl) | (rw [if_neg (by decide +kernel)]; exact ⟨rfl, rfl⟩))
    (fun os started H enc _ => lifted_FnExactHashValid os started H enc)

theorem proved_FnExactHashValid : Rows.FnExactHashValidSaid := over_FnExactHashValid
#print axioms proved_FnExactHashValid


set_option maxRecDepth 100000 in
theorem lifted_FnExactFindHash (os : Os) (started : os.Started) (H : Type) (enc : TypeId × Value → H) :
    ReturnsInHanded {} Try.checked os 8 .any (Rows.fnExactFindHashSpec.pre6 enc Try.prog Try.f8 Rows.fnExactFindHashRow.domain false) (Rows.fnExactFindHashSpec.post enc Try.prog Try.f8 false true false false) := by
  refine returnsInHanded_of_change (C := Try.checked) head_own started (by kernel_rfl) Try.func8
    (ChangeSpec.witness6 (enc := enc) (C := Try.checked) false ⟨#[], #[.agg #[.slice none 0 0, .slice none 0 0, .slice none 0 0], .string ByteArray.empty], []⟩ 8 (by kernel_rfl) (by kernel_rfl) (by kernel_rfl) (by kernel_rfl)) ?_
  intro W base args ds gs before hval0 hW _ _
  have hval : ∀ (j : Nat) t v, Try.f8.params[j]? = some t → args[j]? = some v → Value.okWide Try.prog W .any base t v := hval0
  have hW' := hW
  obtain ⟨p, q, hA0, hV, rfl, hfz, hnd⟩ := hW
  have hA : DataW.TrodAll enc Try.prog W 0 (fun _ => true) true Try.f8.params.toList args.toList ds p := hA0
  rw [Try.params8] at hA hval
  obtain ⟨v0, vs0, d0, ds0, p0, q0, hargs, rfl, rfl, h0, r0⟩ := trodAll_cons hA
  obtain ⟨v1, vs1, d1, ds1, p1, q1, rfl, rfl, rfl, h1, r1⟩ := trodAll_cons r0
  obtain ⟨rfl, rfl, rfl⟩ := trodAll_nil r1
  obtain rfl : args = #[v0, v1] := by cases args; simp_all
  obtain ⟨rfl, rfl⟩ := trodVars_none hV
  have k0 := h0
  obtain ⟨x0, g0⟩ := open_agg Try.underlying33 rd_hash (hval 0 33 v0 rfl rfl) h0
  have k1 := h1
  obtain ⟨n1, hn1, _, _, _⟩ := Go.ChangeMaps.open_string Try.underlying9 (hval 1 9 v1 rfl rfl) h1
  obtain ⟨x1, g1⟩ := open_one (by rw [hn1]; rfl) rd_s h1
  clear hA0 hval0 hval
  refine (law_calls ok_laws_FnExactFindHash (x0, x1, ()) rfl rfl (W := W) (vals := [v0, v1]) ⟨g0, g1, trivial⟩).mono fun e W' ⟨he, bel⟩ => ?_
  subst he
  exact ⟨_, rfl, _, _, _, [], _, [], hW', trodAll_mk1 (shut_bool Try.underlying4 _), (trodAll_cons_mk (Below.trod head_laid (by kernel_rfl) (of_decide_eq_true (by kernel_rfl)) k0 bel (trod_lt_ k0)) (trodAll_cons_mk (Below.trod head_laid (by kernel_rfl) (of_decide_eq_true (by kernel_rfl)) k1 bel (trod_lt_ k1)) trodAll_mk0)), rfl, bel.frame _, fun h => by cases h⟩

theorem over_FnExactFindHash : Rows.fnExactFindHashRow.holds Try.pinned (OpenSpec.ofChange Rows.fnExactFindHashSpec) :=
  OpenClaim.holds_of_wide 8 Try.f8 rfl rfl rfl rfl rfl rfl rfl ⟨rfl, rfl, rfl, rfl, rfl⟩ rfl rfl rfl rfl rfl (by kernel_rfl) Try.func8 (joined_of head_laid head_rowed head_stops head_stopk head_heard head_enter (show (Rows.fnExactFindHashRow.lifted == Try.prog.liftsFinal) = true by rw [head_final]; rfl) (show (Try.prog.make == some Rows.fnExactFindHashRow.make) = true by rw [head_make]; rfl) (by kernel_rfl))
    (of_decide_eq_true (by kernel_rfl)) (by unfold Func.isWrapper; first | (rw [if_pos (by decide +kernel)]; kernel_rfl) | (rw [if_neg (by decide +kernel)]; exact ⟨rfl, rfl⟩))
    (fun os started H enc _ => lifted_FnExactFindHash os started H enc)

theorem proved_FnExactFindHash : Rows.FnExactFindHashSaid := over_FnExactFindHash
#print axioms proved_FnExactFindHash

end Go.Proofs.Ytjlgnbdncbcnjaa
